import Derived.Shelf.Strconv.Itoa3
import Derived.Shelf.Pu.ParseUintPublic10
import Derived.Shelf.Bits.Mul64
import Derived.Shelf.Strings.OnBuilder
import Derived.Test.YtnkealfaldjipaaGreatDoorProg
import Derived.Lib.ParseIntB
import Derived.Lib.Join
import Derived.Test.YtnkealfaldjipaaGreatDoorY2
set_option linter.unusedVariables false
set_option linter.unusedSimpArgs false
namespace Go.Proofs.YtnkealfaldjipaaGreatDoor
open Go.Ax Go.Ax.Bg Go.RowKit
attribute [local irreducible] Ax zBG QOp zV
set_option maxRecDepth 100000
set_option maxHeartbeats 4000000
theorem digit_ok (A U C V : List Int) (j s : Nat) (Hr : zZ) (hj : A.length = j) (hs : 2 ≤ s) (hl : U.length = s + 1) (hlv : V.length = s) (hU : Lim U) (hV : Lim V) (htop : 2147483648 ≤ V.getD (s - 1) 0) (hlt : zg U < 4294967296 * zg V)
   (hsz : (A ++ (U ++ C)).length ≤ 1000000000) :
   zV Tryz.prog 207 [.sl 0 j (s + 1), zF7 V] (some ⟨224, .ints .u32 (A ++ (U ++ C))⟩ :: Hr) (fun h => h < Hr.length + 1)
     (fun r H => r = .int .u32 (zg U / zg V : Nat) ∧ H = some ⟨224, .ints .u32 (A ++ (zB0 (s + 1) (zg U % zg V) ++ C))⟩ :: Hr) := by
 refine zG (P := Tryz.prog) (fn := Tryz.f207) Y Y (by kernel_rfl) Y (fun c hR hfix => ?_)
 have hsd := hlv
 obtain ⟨u0, h0, b0⟩ := hU.nat s
 obtain ⟨u1, h1, b1⟩ := hU.nat (s - 1)
 obtain ⟨u2, h2, b2⟩ := hU.nat (s - 2)
 obtain ⟨v1, k1, c1⟩ := hV.nat (s - 1)
 obtain ⟨v2, k2, c2⟩ := hV.nat (s - 2)
 have htop' : 2147483648 ≤ v1 := by omega
 have hest := fun g => est (g := g) hs hl hsd hU hV h0 h1 h2 k1 k2 htop' hlt
 have g0 := zGT (C := C) hj (show s < U.length by omega)
 have g1 := zGT (C := C) hj (show s - 1 < U.length by omega)
 have g2 := zGT (C := C) hj (show s - 2 < U.length by omega)
 rw [h0] at g0; rw [h1] at g1; rw [h2] at g2
 have hlen : (A ++ (U ++ C)).length = j + (s + 1) + C.length := by simp [hj, hl]; omega
 have hv0 : 0 < zg V := by
   have := zAA V (s - 1)
   rw [show s - 1 + 1 = V.length by omega, List.take_length, k1, Int.toNat_natCast] at this
   have h3 : B ^ (s - 1) * 1 ≤ B ^ (s - 1) * v1 := Nat.mul_le_mul_left _ (by omega)
   have := bpos (s - 1)
   omega
 unfold zF7
 rw [hsd]
 refine rn3 ?_
 refine zDf (by kernel_rfl) (by kernel_rfl) Y ?_
 repeat (first | refine zD (zH rfl) ?_ | refine zD (zd rfl rfl rfl rfl rfl (by first | (simp only [Nat.zero_add, Int.toNat_natCast, Int.toNat_zero]; exact rfl) | exact rfl) (by omega)) ?_ | refine zD (zAT rfl rfl rfl rfl (by first | assumption | omega)) ?_)
 refine zN 20 (.int .u32 (u0 : Nat)) Y (AEq.of_eq (by rw [g0])) ?_
 refine zD (zAb (m := u0) Y Y Y zBO (by omega)) ?_
 refine zD (zKA (m := u0) (s := 32) Y Y (by decide) zBO (zIc b0)) ?_
 repeat (first | refine zD (zH rfl) ?_ | refine zD (zBo rfl rfl (by omega)) ?_)
 refine zN 25 (.int .i64 (s - 1 : Nat)) Y (AEq.of_eq (by congr 1; omega)) ?_
 repeat (first | refine zD (zd rfl rfl rfl rfl rfl (by first | (simp only [Nat.zero_add, Int.toNat_natCast, Int.toNat_zero]; exact rfl) | exact rfl) (by omega)) ?_ | refine zD (zAT rfl rfl rfl rfl (by first | assumption | omega)) ?_)
 refine zN 27 (.int .u32 (u1 : Nat)) Y (AEq.of_eq (by rw [g1])) ?_
 refine zD (zAb (m := u1) Y Y Y zBO (by omega)) ?_
 refine zD (QOp.res (zNl Y Y zBO Y (zIc b0) (by omega)) (by rw [zOq b1])) ?_
 have htb : u0 * 4294967296 + u1 < 18446744073709551616 := by omega
 obtain ⟨top, htp⟩ : ∃ top, u0 * 4294967296 + u1 = top := ⟨_, rfl⟩
 rw [htp] at hest htb ⊢
 repeat (first | refine zD (zH rfl) ?_ | refine zD (zL rfl) ?_ | refine zC ?_ | refine zA ?_ | refine zX ?_ | refine zK rfl ?_ | refine zD (zBo rfl rfl (by omega)) ?_)
 refine zN 33 (.int .i64 (s - 1 : Nat)) Y (AEq.of_eq (by congr 1; omega)) ?_
 refine rn6 ?_
 refine zN 35 (.int .u32 (v1 : Nat)) Y (AEq.of_eq (by rw [k1])) ?_
 refine zD (zAb (m := v1) Y Y Y zBO (by omega)) ?_
 refine zD (q_uquo Y Y zBO htb (by omega)) ?_
 obtain ⟨gs, hgs, hg1, hg2⟩ : ∃ gs : Nat, (if ((4294967295 : Int) < ((top / v1 : Nat) : Int)) then (4294967295 : Int) else ((top / v1 : Nat) : Int)) = (gs : Int) ∧ gs ≤ 4294967295 ∧ (gs = 4294967295 ∨ gs = top / v1) ∧ gs ≤ top / v1 := by
   generalize top / v1 = z
   by_cases hz : (4294967295 : Int) < (z : Int)
   · exact ⟨4294967295, by rw [if_pos hz]; rfl, by omega, by omega, by omega⟩
   · exact ⟨z, by rw [if_neg hz], by omega, by omega, by omega⟩
 obtain ⟨hg2, hg3⟩ := hg2
 have hgm : gs * v1 ≤ top := Nat.le_trans (Nat.mul_le_mul_right _ hg3) (Nat.div_mul_le_self top v1)
 have hb0 := zMT (a := gs) (b := v1) (c := 0) (by omega) c1 (by decide)
 refine zD (q_min Y Y) ?_
 refine zN 38 (.int .u64 (gs : Nat)) Y (AEq.of_eq (by rw [← hgs])) ?_
 repeat (first | refine zD (zH rfl) ?_ | refine zD (zL rfl) ?_ | refine zC ?_ | refine zA ?_ | refine zX ?_ | refine zK rfl ?_ | refine zD (zBo rfl rfl (by omega)) ?_)
 refine zN 43 (.int .i64 (s - 1 : Nat)) Y (AEq.of_eq (by congr 1; omega)) ?_
 refine rn6 ?_
 refine zN 45 (.int .u32 (v1 : Nat)) Y (AEq.of_eq (by rw [k1])) ?_
 refine zD (zAb (m := v1) Y Y Y zBO (by omega)) ?_
 refine zD (zIk Y Y zBO hb0.1) ?_
 refine zD (zOX Y Y zBO htb hgm) ?_
 refine rn1 ?_
 refine zi (ι := Nat × Nat) (fun p => [(0, .sl 0 j (s + 1)), (1, .ro (.ints .u32 V) 0 s), (5, .int .i64 (s : Nat)), (7, .int .u64 (p.1 : Nat)), (8, .int .u64 (p.2 : Nat))]) (fun _ => some ⟨224, .ints .u32 (A ++ (U ++ C))⟩ :: Hr)
   (fun p => p.1 ≤ 4294967295 ∧ p.2 + p.1 * v1 = top ∧ ∀ g', g' ≤ 4294967295 → g' * (v1 * 4294967296 + v2) ≤ top * 4294967296 + u2 → g' ≤ p.1) (fun p => p.1) (gs, top - gs * v1) ⟨⟨rfl, rfl, rfl, rfl, rfl, trivial⟩, rfl, hg1, by simp only; omega, fun g' q1 q2 => ?_⟩ ?_
 · have := guess_ge (by omega) b2 q2
   rcases hg2 with h | h
   · show g' ≤ gs; omega
   · show g' ≤ gs; rw [h]; exact this
 rintro ⟨g, r⟩ ⟨i1, i2, i3⟩
 simp only at *
 have htest := zO7 (B := 4294967296) (u2 := u2) (v2 := v2) i2 (by omega) c2
 have hbg := zMT (a := g) (b := v2) (c := 0) (by omega) c2 (by decide)
 apply zAu (H := some ⟨224, .ints .u32 (A ++ (U ++ C))⟩ :: Hr) [(0, .sl 0 j (s + 1)), (1, .ro (.ints .u32 V) 0 s), (5, .int .i64 (s : Nat)), (7, .int .u64 (g : Nat)), (8, .int .u64 (r : Nat)), (70, .bool (decide (r < 4294967296 ∧ r * 4294967296 + u2 < g * v2)))]
 · intro fin
   repeat (refine zX ?_)
   refine zDf (by kernel_rfl) (by kernel_rfl) Y ?_
   repeat (first | refine zD (zH rfl) ?_ | refine zD (zLy rfl rfl) ?_)
   refine zAF Y Y (fun q0 => ?_) (fun q0 => ?_)
   · have q0' : r < 4294967296 := by omega
     repeat (first | refine zD (zH rfl) ?_ | refine zAL rfl rfl ?_ | refine zD (zBo rfl rfl (by omega)) ?_)
     refine zN 55 (.int .i64 (s - 2 : Nat)) Y (AEq.of_eq (by congr 1; omega)) ?_
     refine rn6 ?_
     refine zN 57 (.int .u32 (v2 : Nat)) Y (AEq.of_eq (by rw [k2])) ?_
     refine zD (zAb (m := v2) Y Y Y zBO (by omega)) ?_
     refine zAL Y Y ?_
     refine zD (zIk Y Y zBO hbg.1) ?_
     refine rn2 ?_
     refine zD (zKA (m := r) (s := 32) Y Y (by decide) zBO (zIc q0')) ?_
     repeat (first | refine zD (zH rfl) ?_ | refine zAL rfl rfl ?_ | refine zD (zBo rfl rfl (by omega)) ?_)
     refine zN 64 (.int .i64 (s - 2 : Nat)) Y (AEq.of_eq (by congr 1; omega)) ?_
     repeat (first | refine zAL rfl rfl ?_ | refine zD (zd rfl rfl rfl rfl rfl (by first | (simp only [Nat.zero_add, Int.toNat_natCast, Int.toNat_zero]; exact rfl) | exact rfl) (by omega)) ?_ | refine zD (zAT rfl rfl rfl rfl (by first | assumption | omega)) ?_)
     refine zN 66 (.int .u32 (u2 : Nat)) Y (AEq.of_eq (by rw [g2])) ?_
     refine zD (zAb (m := u2) Y Y Y zBO (by omega)) ?_
     refine zAL Y Y ?_
     refine zD (QOp.res (zNl Y Y zBO Y (zIc q0') (by omega)) (by rw [zOq b2])) ?_
     repeat (first | refine zC ?_ | refine zA ?_ | refine zAL rfl rfl ?_ | refine zD (zJO rfl rfl) ?_ | refine zD (zAg rfl rfl) ?_)
     refine fin _ ⟨Y, Y, Y, Y, Y, ?_, trivial⟩
     show some (AV.bool (decide (((r * 4294967296 + u2 : Nat) : Int) < ((g * v2 : Nat) : Int)))) = _
     congr 2
     rw [decide_eq_decide]
     constructor
     · intro h; exact ⟨q0', by omega⟩
     · intro h; exact Int.ofNat_lt.2 h.2
   · repeat (first | refine zC ?_ | refine zA ?_ | refine zAn rfl rfl rfl ?_ | refine zD (zAg rfl rfl) ?_)
     refine fin _ ⟨Y, Y, Y, Y, Y, ?_, trivial⟩
     show some (AV.bool false) = _
     rw [decide_eq_false]
     intro h
     exact q0 (by omega)
 refine zE Y (fun q0 => ?_) (fun q0 => ?_)
 · have q1 := htest.1 q0
   have hg0 : 0 < g := by
     rcases Nat.eq_zero_or_pos g with z | z
     · subst z; rw [Nat.zero_mul] at q1; omega
     · exact z
   obtain ⟨g, rfl⟩ : ∃ m, g = m + 1 := ⟨g - 1, by omega⟩
   rw [Nat.add_mul, Nat.one_mul] at i2
   refine rn1 ?_
   refine zD (zOX (m := g + 1) (n := 1) Y Y zBO (by omega) (by omega)) ?_
   repeat (first | refine zD (zH rfl) ?_ | refine zD (zL rfl) ?_ | refine zC ?_ | refine zA ?_ | refine zK rfl ?_ | refine zf ?_ | refine zD (zBo rfl rfl (by omega)) ?_)
   refine zN 74 (.int .i64 (s - 1 : Nat)) Y (AEq.of_eq (by congr 1; omega)) ?_
   refine rn6 ?_
   refine zN 76 (.int .u32 (v1 : Nat)) Y (AEq.of_eq (by rw [k1])) ?_
   refine zD (zAb (m := v1) Y Y Y zBO (by omega)) ?_
   refine zD (zFK Y Y zBO (by omega)) ?_
   refine rn0 ?_
   refine zM ⟨(g, r + v1), ⟨by simp only; omega, by simp only; omega, fun g' z1 z2 => ?_⟩, by simp only; omega, ⟨Y, Y, Y, Y, Y, trivial⟩, Y⟩
   have z3 := i3 g' z1 z2
   show g' ≤ g
   rcases Nat.lt_or_ge g g' with z | z
   · exfalso
     have : g' = g + 1 := by omega
     subst this
     omega
   · exact z
 · have q1 : g * (v1 * 4294967296 + v2) ≤ top * 4294967296 + u2 := by
     rcases Nat.lt_or_ge (top * 4294967296 + u2) (g * (v1 * 4294967296 + v2)) with z | z
     · exact absurd (htest.2 z) q0
     · exact z
   obtain ⟨e1, e2⟩ := hest g i1 q1 i3
   clear hest htest i3 q0
   have hmB : zg U % zg V < B ^ (s + 1) := Nat.lt_of_le_of_lt (Nat.mod_le _ _) (by have := zA3 hU; rwa [hl] at this)
   have hdone := fun (w b : Nat) (hw : w < B ^ (s + 1)) => zPD (u := zg U) (v := zg V) (g := g) (w := w) (n := s + 1) (b := b) hw (by have := zA3 hV; rw [hsd] at this; exact Nat.lt_of_lt_of_le this (Nat.pow_le_pow_right (by decide) (by omega))) (by have := zA3 hU; rwa [hl] at this)
   generalize zg U / zg V = q at *
   generalize hme : zg U % zg V = m at *
   refine rn5 ?_
   have hAl : ∀ W : List Int, W.length = s + 1 → ∀ i, i < s + 1 → i + j < (A ++ (W ++ C)).length := fun W hW i hi => by simp [hj, hW]; omega
   refine zi (ι := Nat × List Int × Nat × Nat) (fun p => [(0, .sl 0 j (s + 1)), (1, .ro (.ints .u32 V) 0 s), (5, .int .i64 (s : Nat)), (7, .int .u64 (g : Nat)), (9, .int .u64 (p.2.2.1 : Nat)), (10, .int .i64 (p.2.2.2 : Nat)), (82, .int .i64 (s + 1 : Nat)), (83, .int .i64 (p.1 : Nat))]) (fun p => some ⟨224, .ints .u32 (A ++ (p.2.1 ++ C))⟩ :: Hr)
     (fun p => p.1 ≤ s + 1 ∧ p.2.1.length = s + 1 ∧ Lim p.2.1 ∧ (∀ x, p.1 ≤ x → p.2.1.getD x 0 = U.getD x 0) ∧ p.2.2.1 < 4294967296 ∧ p.2.2.2 ≤ 1 ∧ (p.1 = s + 1 → p.2.2.1 = 0) ∧ zg (p.2.1.take p.1) + g * zg (V.take p.1) = zg (U.take p.1) + B ^ p.1 * (p.2.2.1 + p.2.2.2)) (fun p => s + 1 - p.1) (0, U, 0, 0)
     ⟨⟨rfl, rfl, rfl, rfl, rfl, rfl, rfl, rfl, trivial⟩, rfl, Nat.zero_le _, hl, hU, fun _ _ => rfl, Nat.zero_lt_succ _, Nat.zero_le _, fun _ => rfl, by simp [zg]⟩ ?_
   rintro ⟨i, Uc, cr, br⟩ ⟨w1, w2, w3, w4, w5, w6, w7, w8⟩
   simp only at *
   refine rn4 ?_
   refine zE Y (fun w9 => ?_) (fun w9 => ?_)
   · have his : i < s + 1 := by omega
     obtain ⟨ui, hui, hub⟩ := hU.nat i
     obtain ⟨vi, hvi, hvb⟩ := hV.nat i
     have hmb := zMT (a := g) (b := vi) (c := cr) (by omega) hvb w5
     have hsl := hAl Uc w2 i his
     have hcur := zGT (C := C) hj (show i < Uc.length by omega)
     rw [w4 i (Nat.le_refl _), hui] at hcur
     have hlm : (cr + g * vi) % 4294967296 < 4294967296 := Nat.mod_lt _ (by decide)
     have hdb : (cr + g * vi) / 4294967296 < 4294967296 := by omega
     obtain ⟨yv, b', y1, y2, y3, y4, y5⟩ := zRY hub hlm w6
     have hstep := zOY (g := g) (cr := cr) (yv := yv) (b' := b') (show i < Uc.length by omega) w8 hui hvi y1
     have hlast : i + 1 = s + 1 → (cr + g * vi) / 4294967296 = 0 := fun h => by
       have : V.getD i 0 = 0 := by simp [List.getD, List.getElem?_eq_none (show V.length ≤ i by omega)]
       have : vi = 0 := by omega
       subst this
       rw [Nat.mul_zero, Nat.add_zero]
       exact Nat.div_eq_of_lt w5
     refine rn4 ?_
     apply zAu (H := some ⟨224, .ints .u32 (A ++ (Uc ++ C))⟩ :: Hr) [(0, .sl 0 j (s + 1)), (1, .ro (.ints .u32 V) 0 s), (5, .int .i64 (s : Nat)), (7, .int .u64 (g : Nat)), (9, .int .u64 (cr + g * vi : Nat)), (10, .int .i64 (br : Nat)), (11, .int .i64 (i : Nat)), (82, .int .i64 (s + 1 : Nat)), (83, .int .i64 (i : Nat))]
     · intro fin
       refine zE Y (fun q0 => ?_) (fun q0 => ?_)
       · refine rn6 ?_
         refine zN 94 (.int .u32 (vi : Nat)) Y (AEq.of_eq (by rw [hvi])) ?_
         refine zD (zAb (m := vi) Y Y Y zBO (by omega)) ?_
         refine zD (zIk Y Y zBO hmb.1) ?_
         refine zD (zFK Y Y zBO hmb.2) ?_
         repeat (first | refine zD (zL rfl) ?_ | refine zC ?_ | refine zA ?_)
         exact fin _ ⟨Y, Y, Y, Y, Y, Y, Y, Y, Y, trivial⟩
       · have hv0 : vi = 0 := by
           have : V.getD i 0 = 0 := by simp [List.getD, List.getElem?_eq_none (show V.length ≤ i by omega)]
           omega
         subst hv0
         repeat (first | refine zA ?_ | refine zl ?_)
         exact fin _ ⟨Y, Y, Y, Y, Y, Y, Y, Y, Y, trivial⟩
     repeat (first | refine zD (zH rfl) ?_ | refine zX ?_ | refine zK rfl ?_ | refine zD (zd rfl rfl rfl rfl rfl (by first | (simp only [Nat.zero_add, Int.toNat_natCast, Int.toNat_zero]; exact rfl) | exact rfl) (by omega)) ?_ | refine zD (zAT rfl rfl rfl rfl (by first | assumption | omega)) ?_)
     refine zN 101 (.int .u32 (ui : Nat)) Y (AEq.of_eq (by rw [hcur])) ?_
     refine zD (zEn (m := ui) Y Y Y (by omega)) ?_
     repeat (refine zD (zH rfl) ?_)
     refine zD (QOp.res (q_uand (n := 4294967295) Y Y zBO Y hmb.2 (by decide)) (by rw [and_low])) ?_
     obtain ⟨lo, hlo⟩ : ∃ lo, (cr + g * vi) % 4294967296 = lo := ⟨_, rfl⟩
     rw [hlo] at hlm y1 y4 y5 ⊢
     refine zD (zEn (m := lo) Y Y Y (by omega)) ?_
     repeat (first | refine zD (zH rfl) ?_ | refine zD (zL rfl) ?_ | refine zC ?_ | refine zA ?_ | refine zX ?_ | refine zK rfl ?_ | refine zD (zBo rfl rfl (by omega)) ?_)
     refine zD (zF3 (s := 32) Y Y Y) ?_
     refine rn4 ?_
     apply zAu (H := some ⟨224, .ints .u32 (A ++ (Uc ++ C))⟩ :: Hr) [(0, .sl 0 j (s + 1)), (1, .ro (.ints .u32 V) 0 s), (5, .int .i64 (s : Nat)), (7, .int .u64 (g : Nat)), (9, .int .u64 ((cr + g * vi) / 4294967296 : Nat)), (10, .int .i64 (b' : Nat)), (11, .int .i64 (i : Nat)), (12, .int .i64 (yv : Nat)), (82, .int .i64 (s + 1 : Nat)), (83, .int .i64 (i : Nat))]
     · intro fin
       refine zE Y (fun q0 => ?_) (fun q0 => ?_)
       · obtain ⟨z1, z2⟩ := y4 q0
         subst z1
         skip
         refine zK Y ?_
         repeat (first | refine zD (zH rfl) ?_ | refine zD (zL rfl) ?_ | refine zC ?_ | refine zA ?_ | refine zD (zDZ rfl rfl (by omega)) ?_)
         exact fin _ ⟨Y, Y, Y, Y, Y, Y, Y, by rw [z2]; rfl, Y, Y, trivial⟩
       · obtain ⟨z1, z2⟩ := y5 q0
         subst z1
         repeat (first | refine zA ?_ | refine zl ?_)
         exact fin _ ⟨Y, Y, Y, Y, Y, Y, Y, by rw [z2]; rfl, Y, Y, trivial⟩
     refine rn0 ?_
     refine zD (zAb (m := yv) Y Y Y zEr y3) ?_
     have hset := zPw (x := (yv : Int)) (C := C) hj (show i < Uc.length by omega)
     repeat (first | refine zD (zH rfl) ?_ | refine zC ?_ | refine zA ?_ | refine zK rfl ?_ | refine zf ?_ | refine zD (zDZ rfl rfl (by omega)) ?_ | refine zD (zd rfl rfl rfl rfl rfl (by first | (simp only [Nat.zero_add, Int.toNat_natCast, Int.toNat_zero]; exact rfl) | exact rfl) (by omega)) ?_ | refine zAp rfl rfl rfl rfl rfl rfl rfl (by first | assumption | (show _ < List.length _; first | assumption | omega)) ?_)
     refine zM ⟨(i + 1, Uc.set i (yv : Int), (cr + g * vi) / 4294967296, b'), ⟨by simp only; omega, by simp [w2], w3.set (by omega), fun x hx => ?_, hdb, y2, hlast, hstep⟩, by simp only; omega, ⟨Y, Y, Y, Y, Y, Y, Y, Y, trivial⟩, ?_⟩
     · simp only at hx ⊢
       rw [zDV (by omega)]; exact w4 x (by omega)
     · show some (⟨_, .ints .u32 ((A ++ (Uc ++ C)).set (j + i) (yv : Int))⟩ : AObj) :: Hr = _
       rw [hset]
   · have hie : i = s + 1 := by omega
     subst hie
     have hcr := w7 rfl
     subst hcr
     rw [List.take_of_length_le (by omega), List.take_of_length_le (by omega), List.take_of_length_le (by omega), Nat.zero_add] at w8
     have hUcb := zA3 w3
     rw [w2] at hUcb
     obtain ⟨d0, d1⟩ := hdone (zg Uc) br hUcb w6 w8 e1 e2 hv0
     refine rn5 ?_
     refine zE Y (fun q0 => ?_) (fun q0 => ?_)
     · obtain ⟨z1, z2⟩ := d0 (by omega)
       subst z1
       have hfx := zHB w3 w2 z2
       refine rn0 ?_
       refine zD (zAb (m := g) Y Y Y zEr (by omega)) ?_
       refine rn2 ?_
       refine zI hR Y ⟨Y, ?_⟩
       rw [hfx]
     · obtain ⟨z1, z2⟩ := d1 (by omega)
       refine rn3 ?_
       refine zi (ι := Nat × List Int × Nat) (fun p => [(0, .sl 0 j (s + 1)), (1, .ro (.ints .u32 V) 0 s), (5, .int .i64 (s : Nat)), (7, .int .u64 (g : Nat)), (13, .int .u64 (p.2.2 : Nat)), (126, .int .i64 (s + 1 : Nat)), (127, .int .i64 (p.1 : Nat))]) (fun p => some ⟨224, .ints .u32 (A ++ (p.2.1 ++ C))⟩ :: Hr)
         (fun p => p.1 ≤ s + 1 ∧ p.2.1.length = s + 1 ∧ Lim p.2.1 ∧ (∀ x, p.1 ≤ x → p.2.1.getD x 0 = Uc.getD x 0) ∧ p.2.2 < 4294967296 ∧ zg (p.2.1.take p.1) + B ^ p.1 * p.2.2 = zg (Uc.take p.1) + zg (V.take p.1)) (fun p => s + 1 - p.1) (0, Uc, 0)
         ⟨⟨rfl, rfl, rfl, rfl, rfl, rfl, rfl, trivial⟩, rfl, Nat.zero_le _, w2, w3, fun _ _ => rfl, Nat.zero_lt_succ _, by simp [zg]⟩ ?_
       rintro ⟨i, Ud, sm⟩ ⟨x1, x2, x3, x4, x5, x6⟩
       simp only at *
       refine rn4 ?_
       refine zE Y (fun x9 => ?_) (fun x9 => ?_)
       · have his : i < s + 1 := by omega
         obtain ⟨ui, hui, hub⟩ := w3.nat i
         obtain ⟨vi, hvi, hvb⟩ := hV.nat i
         have hcur := zGT (C := C) hj (show i < Ud.length by omega)
         rw [x4 i (Nat.le_refl _), hui] at hcur
         have hsl := hAl Ud x2 i his
         have hstep := zRK (sm := sm) (show i < Ud.length by omega) x6 hui hvi
         repeat (first | refine zD (zH rfl) ?_ | refine zD (zL rfl) ?_ | refine zC ?_ | refine zA ?_ | refine zX ?_ | refine zK rfl ?_ | refine zx ?_ | refine zl ?_ | refine zD (zd rfl rfl rfl rfl rfl (by first | (simp only [Nat.zero_add, Int.toNat_natCast, Int.toNat_zero]; exact rfl) | exact rfl) (by omega)) ?_ | refine zD (zAT rfl rfl rfl rfl (by first | assumption | omega)) ?_)
         refine zN 134 (.int .u32 (ui : Nat)) Y (AEq.of_eq (by rw [hcur])) ?_
         refine zD (zAb (m := ui) Y Y Y zBO (by omega)) ?_
         refine zD (zFK Y Y zBO (by omega)) ?_
         refine rn4 ?_
         apply zAu (H := some ⟨224, .ints .u32 (A ++ (Ud ++ C))⟩ :: Hr) [(0, .sl 0 j (s + 1)), (1, .ro (.ints .u32 V) 0 s), (5, .int .i64 (s : Nat)), (7, .int .u64 (g : Nat)), (13, .int .u64 (sm + ui + vi : Nat)), (14, .int .i64 (i : Nat)), (126, .int .i64 (s + 1 : Nat)), (127, .int .i64 (i : Nat))]
         · intro fin
           refine zE Y (fun q1 => ?_) (fun q1 => ?_)
           · refine rn6 ?_
             refine zN 144 (.int .u32 (vi : Nat)) Y (AEq.of_eq (by rw [hvi])) ?_
             refine zD (zAb (m := vi) Y Y Y zBO (by omega)) ?_
             refine zD (zFK Y Y zBO (by omega)) ?_
             repeat (first | refine zD (zL rfl) ?_ | refine zC ?_ | refine zA ?_)
             exact fin _ ⟨Y, Y, Y, Y, Y, Y, Y, Y, trivial⟩
           · have hv0 : vi = 0 := by
               have : V.getD i 0 = 0 := by simp [List.getD, List.getElem?_eq_none (show V.length ≤ i by omega)]
               omega
             subst hv0
             repeat (first | refine zA ?_ | refine zl ?_)
             exact fin _ ⟨Y, Y, Y, Y, Y, Y, Y, Y, trivial⟩
         refine rn0 ?_
         refine zD (zF4 Y Y Y zEr) ?_
         have hset := zPw (x := (((sm + ui + vi) % 4294967296 : Nat) : Int)) (C := C) hj (show i < Ud.length by omega)
         repeat (first | refine zD (zH rfl) ?_ | refine zC ?_ | refine zA ?_ | refine zK rfl ?_ | refine zD (zd rfl rfl rfl rfl rfl (by first | (simp only [Nat.zero_add, Int.toNat_natCast, Int.toNat_zero]; exact rfl) | exact rfl) (by omega)) ?_ | refine zAp rfl rfl rfl rfl rfl rfl rfl (by first | assumption | (show _ < List.length _; first | assumption | omega)) ?_)
         refine zD (zF3 (s := 32) Y Y Y) ?_
         refine rn5 ?_
         refine zM ⟨(i + 1, Ud.set i (((sm + ui + vi) % 4294967296 : Nat) : Int), (sm + ui + vi) / 4294967296), ⟨by simp only; omega, by simp [x2], x3.set (zDp _), fun x hx => ?_, by simp only; omega, hstep⟩, by simp only; omega, ⟨Y, Y, Y, Y, Y, Y, Y, trivial⟩, ?_⟩
         · simp only at hx ⊢
           rw [zDV (by omega)]; exact x4 x (by omega)
         · show some (⟨_, .ints .u32 ((A ++ (Ud ++ C)).set (j + i) (((sm + ui + vi) % 4294967296 : Nat) : Int))⟩ : AObj) :: Hr = _
           rw [hset]
       · have hie : i = s + 1 := by omega
         subst hie
         rw [List.take_of_length_le (by omega), List.take_of_length_le (by omega), List.take_of_length_le (by omega), z2] at x6
         have hUdb := zA3 x3
         rw [x2] at hUdb
         have hv : zg Ud = m := by
           rcases Nat.lt_trichotomy sm 1 with z | z | z
           · have : sm = 0 := by omega
             subst this
             omega
           · subst z; omega
           · have : B ^ (s + 1) * 2 ≤ B ^ (s + 1) * sm := Nat.mul_le_mul_left _ z
             omega
         have hfx := zHB x3 x2 hv
         refine rn5 ?_
         refine zD (zOX (m := g) (n := 1) Y Y zBO (by omega) (by omega)) ?_
         refine zD (zAb (m := g - 1) Y Y Y zEr (by omega)) ?_
         refine rn0 ?_
         refine zI hR Y ⟨?_, ?_⟩
         · rw [show g - 1 = q by omega]; rfl
         · rw [hfx]
end Go.Proofs.YtnkealfaldjipaaGreatDoor
namespace Go.Ax.Bg
theorem zFX : ∀ (a b v : Nat), zB0 (a + b) v = zB0 a v ++ zB0 b (v / B ^ a)
 | 0, b, v => by simp [zB0]
 | a + 1, b, v => by
   rw [show a + 1 + b = a + b + 1 by omega, zB0, zB0, zFX a b, List.cons_append, Nat.pow_succ, Nat.mul_comm (B ^ a), ← Nat.div_div_eq_div_mul]
theorem zGH : ∀ (k v : Nat), zg (zB0 k v) = v % B ^ k
 | 0, v => by simp [zB0, zg, Nat.mod_one]
 | k + 1, v => by
   rw [zB0, zg, Int.toNat_natCast, zGH k, Nat.pow_succ, Nat.mul_comm (B ^ k), Nat.mod_mul]
theorem zOU {k v w : Nat} (h : v % B ^ k = w % B ^ k) : zB0 k v = zB0 k w := by
 have h1 := zHB (zFZ k v) (zB2 k v) (zGH k v)
 have h2 := zHB (zFZ k w) (zB2 k w) (zGH k w)
 rw [h1, h2, h]
/-- The top limb. -/
theorem zGn {v s : Nat} (hs : 1 ≤ s) (h : (za v).length = s) : ∃ t low : Nat, (za v).getD (s - 1) 0 = (t : Int) ∧ t < 4294967296 ∧ 0 < t ∧ v = low + B ^ (s - 1) * t ∧ low < B ^ (s - 1) := by
 obtain ⟨t, ht, hb⟩ := (zAc v).nat (s - 1)
 refine ⟨t, zg ((za v).take (s - 1)), ht, hb, ?_, ?_, ?_⟩
 · rcases zLx (n := v) with q | q
   · rw [q] at h; simp at h; omega
   · rw [h, ht] at q; omega
 · have := zAA (za v) (s - 1)
   rw [show s - 1 + 1 = (za v).length by omega, List.take_length, zAE, ht, Int.toNat_natCast] at this
   exact this
 · have := zA3 ((zAc v).take (s - 1))
   rwa [List.length_take, Nat.min_eq_left (by omega)] at this
theorem bexp {s : Nat} (hs : 1 ≤ s) : B ^ s = B ^ (s - 1) * 4294967296 := by
 rw [show s = s - 1 + 1 by omega, Nat.pow_succ]; rfl
/-- The divisor, shifted to the top. -/
theorem norm_top {m k s t : Nat} (hs : 1 ≤ s) (h : (za m).length = s) (ht : (za m).getD (s - 1) 0 = (t : Int)) (h1 : 2147483648 ≤ t * 2 ^ k) (h2 : t * 2 ^ k < 4294967296) (hk : k ≤ 31) :
   (za (m * 2 ^ k)).length = s ∧ 2147483648 ≤ (za (m * 2 ^ k)).getD (s - 1) 0 := by
 obtain ⟨t', low, e, hb, hp, hv, hlow⟩ := zGn hs h
 have : t' = t := by omega
 subst this
 have hP := bpos (s - 1)
 have hpk : 0 < 2 ^ k := Nat.pow_pos (by decide)
 have hd : ∃ q, 4294967296 = q * 2 ^ k := ⟨2 ^ (32 - k), by rw [← Nat.pow_add, show 32 - k + k = 32 by omega]⟩
 obtain ⟨q, hq⟩ := hd
 have h3 : t' + 1 ≤ q := by
   have : t' * 2 ^ k < q * 2 ^ k := by omega
   exact Nat.lt_of_mul_lt_mul_right this
 have h4 : (t' + 1) * 2 ^ k ≤ 4294967296 := by rw [hq]; exact Nat.mul_le_mul_right _ h3
 have hup : m * 2 ^ k < B ^ s := by
   rw [bexp hs]
   have h5 : m < B ^ (s - 1) * (t' + 1) := by rw [Nat.mul_add]; omega
   have h6 : m * 2 ^ k < B ^ (s - 1) * (t' + 1) * 2 ^ k := Nat.mul_lt_mul_of_pos_right h5 hpk
   have h7 : B ^ (s - 1) * ((t' + 1) * 2 ^ k) ≤ B ^ (s - 1) * 4294967296 := Nat.mul_le_mul_left _ h4
   rw [Nat.mul_assoc] at h6
   omega
 have hlo : B ^ (s - 1) * 2147483648 ≤ m * 2 ^ k := by
   have h5 : B ^ (s - 1) * (t' * 2 ^ k) ≤ m * 2 ^ k := by
     rw [← Nat.mul_assoc]; exact Nat.mul_le_mul_right _ (by omega)
   exact Nat.le_trans (Nat.mul_le_mul_left _ h1) h5
 have hlen : (za (m * 2 ^ k)).length = s := by
   have a := zAr hup
   have b : B ^ (s - 1) ≤ m * 2 ^ k := by
     have : B ^ (s - 1) * 1 ≤ B ^ (s - 1) * 2147483648 := Nat.mul_le_mul_left _ (by decide)
     omega
   have c := zM0 b
   omega
 refine ⟨hlen, ?_⟩
 obtain ⟨t2, low2, e2, _, _, hv2, hlow2⟩ := zGn hs hlen
 rw [e2]
 rcases Nat.lt_or_ge t2 2147483648 with z | z
 · exfalso
   have : B ^ (s - 1) * (t2 + 1) ≤ B ^ (s - 1) * 2147483648 := Nat.mul_le_mul_left _ (by omega)
   rw [Nat.mul_add] at this
   omega
 · omega
theorem k_more {t k : Nat} (ht : 0 < t) (h : t * 2 ^ k < 4294967296) (hk : k ≤ 31) (h0 : t * 2 ^ k / 2 ^ 31 = 0) : t * 2 ^ (k + 1) < 4294967296 ∧ k + 1 ≤ 31 := by
 have h1 : t * 2 ^ k < 2147483648 := by
   rcases Nat.lt_or_ge (t * 2 ^ k) 2147483648 with q | q
   · exact q
   · have := Nat.div_le_div_right (c := 2 ^ 31) q
     rw [h0] at this
     exact absurd this (by decide)
 refine ⟨by rw [Nat.pow_succ, ← Nat.mul_assoc]; omega, ?_⟩
 rcases Nat.lt_or_ge k 31 with q | q
 · exact q
 · exfalso
   have : k = 31 := by omega
   subst this
   have : 1 * 2 ^ 31 ≤ t * 2 ^ 31 := Nat.mul_le_mul_right _ ht
   have e : (2 : Nat) ^ 31 = 2147483648 := by decide
   rw [e] at this h1
   omega
theorem k_stop {t k : Nat} (h0 : ¬ t * 2 ^ k / 2 ^ 31 = 0) : 2147483648 ≤ t * 2 ^ k := by
 rcases Nat.lt_or_ge (t * 2 ^ k) 2147483648 with q | q
 · exact absurd (Nat.div_eq_of_lt (by have e : (2 : Nat) ^ 31 = 2147483648 := by decide
                                      rw [e]; exact q)) h0
 · exact q
/-- Where the quotient's digits begin. -/
theorem zRE {n ln v s k : Nat} (hn : n < B ^ ln) (hk : k ≤ 31) (hs : 1 ≤ s) (hsl : s ≤ ln) (hv : B ^ (s - 1) * 2147483648 ≤ v) : n * 2 ^ k < v * B ^ (ln + 1 - s) := by
 have hp : 2 ^ k ≤ 2147483648 := Nat.le_trans (Nat.pow_le_pow_right (show 0 < 2 by decide) hk) (by decide)
 have h1 : n * 2 ^ k ≤ n * 2147483648 := Nat.mul_le_mul_left _ hp
 have h2 : B ^ (s - 1) * 2147483648 * B ^ (ln + 1 - s) ≤ v * B ^ (ln + 1 - s) := Nat.mul_le_mul_right _ hv
 have h3 : B ^ (s - 1) * 2147483648 * B ^ (ln + 1 - s) = B ^ ln * 2147483648 := by
   have e : B ^ ln = B ^ (s - 1) * B ^ (ln + 1 - s) := by rw [← Nat.pow_add]; congr 1; omega
   rw [e]; ac_rfl
 omega
theorem top_ge {v s : Nat} (hs : 1 ≤ s) (hl : (za v).length = s) (h : 2147483648 ≤ (za v).getD (s - 1) 0) : B ^ (s - 1) * 2147483648 ≤ v := by
 obtain ⟨t, low, e, _, _, hv, _⟩ := zGn hs hl
 have : B ^ (s - 1) * 2147483648 ≤ B ^ (s - 1) * t := Nat.mul_le_mul_left _ (by omega)
 omega
/-- One zBm: the rest. -/
theorem quo_step {W v s j N : Nat} (hv0 : 0 < v) (hv : v < B ^ s) (hW : W < v * B ^ (j + 1)) (hN : j + (s + 1) ≤ N) :
   zB0 N W = zB0 j W ++ (zB0 (s + 1) (W / B ^ j) ++ zB0 (N - (j + (s + 1))) (W / B ^ j / B ^ (s + 1))) ∧ zg (zB0 (s + 1) (W / B ^ j)) = W / B ^ j ∧ W / B ^ j < 4294967296 * v ∧
     ∃ W', zB0 j W ++ (zB0 (s + 1) (W / B ^ j % v) ++ zB0 (N - (j + (s + 1))) (W / B ^ j / B ^ (s + 1))) = zB0 N W' ∧ W' < v * B ^ j ∧ W' + B ^ j * (v * (W / B ^ j / v)) = W := by
 have hP := bpos j
 have h1 : W / B ^ j < 4294967296 * v := by
   refine Nat.div_lt_of_lt_mul ?_
   have : v * B ^ (j + 1) = B ^ j * (4294967296 * v) := by rw [Nat.pow_succ]; unfold B; ac_rfl
   rw [← this]; exact hW
 have h2 : W / B ^ j < B ^ (s + 1) := by
   have : 4294967296 * v ≤ 4294967296 * B ^ s := Nat.mul_le_mul_left _ (by omega)
   rw [Nat.pow_succ, Nat.mul_comm (B ^ s)]
   exact Nat.lt_of_lt_of_le h1 this
 have h3 : W / B ^ j / B ^ (s + 1) = 0 := Nat.div_eq_of_lt h2
 have hr : W / B ^ j % v < v := Nat.mod_lt _ hv0
 have hvs : v < B ^ (s + 1) := Nat.lt_of_lt_of_le hv (Nat.pow_le_pow_right (by decide) (by omega))
 refine ⟨?_, zIT _ _ h2, h1, W % B ^ j + B ^ j * (W / B ^ j % v), ?_, ?_, ?_⟩
 · rw [← zFX, ← zFX]
   congr 1; omega
 · have e1 : (W % B ^ j + B ^ j * (W / B ^ j % v)) / B ^ j = W / B ^ j % v := by
     rw [Nat.add_mul_div_left _ _ hP, Nat.div_eq_of_lt (Nat.mod_lt _ hP), Nat.zero_add]
   have e2 : (W % B ^ j + B ^ j * (W / B ^ j % v)) % B ^ j = W % B ^ j := by
     rw [Nat.add_mul_mod_self_left, Nat.mod_mod]
   rw [show N = j + ((s + 1) + (N - (j + (s + 1)))) by omega, zFX j, zFX (s + 1), e1, h3, zOU e2.symm]
   rw [show j + (s + 1 + (N - (j + (s + 1)))) - (j + (s + 1)) = N - (j + (s + 1)) by omega, Nat.div_eq_of_lt (Nat.lt_trans hr hvs)]
 · have h5 : B ^ j * (W / B ^ j % v + 1) ≤ B ^ j * v := Nat.mul_le_mul_left _ hr
   have h6 := Nat.mod_lt W hP
   rw [Nat.mul_add] at h5
   rw [Nat.mul_comm v]
   omega
 · have a := Nat.div_add_mod W (B ^ j)
   have b := Nat.div_add_mod (W / B ^ j) v
   have c : B ^ j * (v * (W / B ^ j / v)) + B ^ j * (W / B ^ j % v) = B ^ j * (W / B ^ j) := by rw [← Nat.mul_add, b]
   omega
theorem quo_end {n m k W Q : Nat} (hm : 0 < m) (h : Q * (m * 2 ^ k) + W = n * 2 ^ k) (hW : W < m * 2 ^ k) : Q = n / m ∧ W = n % m * 2 ^ k := by
 have hk : 0 < 2 ^ k := Nat.pow_pos (by decide)
 have h0 : 0 < m * 2 ^ k := Nat.mul_pos hm hk
 have e1 : n * 2 ^ k / (m * 2 ^ k) = n / m := Nat.mul_div_mul_right _ _ hk
 have e2 : n * 2 ^ k % (m * 2 ^ k) = n % m * 2 ^ k := Nat.mul_mod_mul_right ..
 rw [← h] at e1 e2
 rw [Nat.add_comm, Nat.add_mul_div_right _ _ h0, Nat.div_eq_of_lt hW, Nat.zero_add] at e1
 rw [Nat.add_comm, Nat.add_mul_mod_self_right, Nat.mod_eq_of_lt hW] at e2
 exact ⟨e1, e2⟩
/-- A limb shifted back by k bits. -/
theorem zQ3 {d e k : Nat} (hd : d < 4294967296) (hk : k ≤ 31) : d / 2 ^ k ||| e * 2 ^ (32 - k) % 4294967296 = d / 2 ^ k + e % 2 ^ k * 2 ^ (32 - k) := by
 have hp : 0 < 2 ^ (32 - k) := Nat.pow_pos (by decide)
 have e1 : (4294967296 : Nat) = 2 ^ k * 2 ^ (32 - k) := by rw [← Nat.pow_add, show k + (32 - k) = 32 by omega]
 have e2 : e * 2 ^ (32 - k) % 4294967296 = e % 2 ^ k * 2 ^ (32 - k) := by
   rw [e1]; exact Nat.mul_mod_mul_right ..
 have h1 : d / 2 ^ k < 2 ^ (32 - k) := by
   refine Nat.div_lt_of_lt_mul ?_
   rw [← e1]; exact hd
 rw [e2]
 have := Nat.two_pow_add_eq_or_of_lt h1 (e % 2 ^ k)
 rw [Nat.or_comm, Nat.mul_comm (e % 2 ^ k), ← this, Nat.add_comm]
theorem back_lim {d e k : Nat} (hd : d < 4294967296) (hk : k ≤ 31) : d / 2 ^ k + e % 2 ^ k * 2 ^ (32 - k) < 4294967296 := by
 have e1 : (4294967296 : Nat) = 2 ^ k * 2 ^ (32 - k) := by rw [← Nat.pow_add, show k + (32 - k) = 32 by omega]
 have h1 : d / 2 ^ k < 2 ^ (32 - k) := by
   refine Nat.div_lt_of_lt_mul ?_
   rw [← e1]; exact hd
 have h2 : (e % 2 ^ k + 1) * 2 ^ (32 - k) ≤ 2 ^ k * 2 ^ (32 - k) := Nat.mul_le_mul_right _ (Nat.mod_lt _ (Nat.pow_pos (by decide)))
 rw [Nat.add_mul, ← e1] at h2
 omega
theorem back_val {out r : List Int} {i k d e : Nat} (hk : k ≤ 31) (hl : out.length = i) (hd : r.getD i 0 = (d : Int)) {d0 : Nat} (h : zg out * 2 ^ k + d0 = zg (r.take i) + (d % 2 ^ k) * B ^ i) :
   zg (out ++ [((d / 2 ^ k + e % 2 ^ k * 2 ^ (32 - k) : Nat) : Int)]) * 2 ^ k + d0 = zg (r.take (i + 1)) + (e % 2 ^ k) * B ^ (i + 1) := by
 rw [zDc, hl, Int.toNat_natCast, zAA, hd, Int.toNat_natCast, Nat.pow_succ]
 have e1 : (4294967296 : Nat) = 2 ^ (32 - k) * 2 ^ k := by rw [← Nat.pow_add, show 32 - k + k = 32 by omega]
 have e2 := Nat.div_add_mod d (2 ^ k)
 have e3 : B ^ i * (d / 2 ^ k + e % 2 ^ k * 2 ^ (32 - k)) * 2 ^ k = B ^ i * (2 ^ k * (d / 2 ^ k)) + e % 2 ^ k * (B ^ i * B) := by
   rw [show B = 2 ^ (32 - k) * 2 ^ k from e1]
   generalize (2 ^ (32 - k) * 2 ^ k) ^ i = p
   rw [Nat.mul_add, Nat.add_mul]
   congr 1 <;> ac_rfl
 have e4 : B ^ i * (2 ^ k * (d / 2 ^ k)) + (d % 2 ^ k) * B ^ i = B ^ i * d := by
   rw [Nat.mul_comm (d % 2 ^ k), ← Nat.mul_add, e2]
 rw [Nat.add_mul, e3]
 omega
end Go.Ax.Bg
namespace Go.Proofs.YtnkealfaldjipaaGreatDoor
open Go.Ax Go.Ax.Bg Go.RowKit
attribute [local irreducible] Ax zBG QOp zV
set_option maxRecDepth 100000
set_option maxHeartbeats 4000000
theorem clone_ok (n : Nat) (h : (za n).length ≤ 1000000) : zW Tryz.prog 204 [zAO n] (zAO n) := by
 unfold zAO
 generalize za n = l at *
 refine zV.value (K := fun r H => r = .sl 0 0 l.length ∧ H = [some ⟨224, .ints .u32 l⟩]) (zG (P := Tryz.prog) (fn := Tryz.f204) Y Y (by kernel_rfl) Y (fun c hR hfix => ?_)) (fix := fun _ => False) (fun _ h => h) Y ?_
 · refine rn0 ?_
   refine zJ5 Y Y Y (fun b hb => ?_)
   refine rn0 ?_
   refine zC9 Y (fun h => ?_) (fun h => ?_)
   · have := hb h
     have hn : l = [] := List.length_eq_zero_iff.mp this
     subst hn
     repeat (first | refine zD (zL rfl) ?_ | refine zC ?_ | refine zA ?_ | refine zX ?_ | refine zK rfl ?_)
     refine zA4 2 ⟨224, .ints .u32 []⟩ Y Y ?_
     refine rn2 ?_
     exact zI hR Y ⟨Y, Y⟩
   · refine rn1 ?_
     refine zDs Y Y Y Y Y Y Y Y Y Y ?_
     refine zAs [some ⟨224, .ints .u32 []⟩] (zAB.eqv ⟨Y, Y, fun i j hi => absurd hi (Nat.not_lt_zero _)⟩ zAB.nil) ?_
     repeat (refine zD (zH rfl) ?_)
     refine zp Y Y Y Y Y Y Y Y Y Y Y Y (by show 0 + l.length ≤ l.length; omega) Y (by show (0 + l.length) * 4 ≤ _ ∧ _; omega) (fun i j _ _ => rfl) (by rw [hfix]; exact fun h => h) ?_
     refine rn0 ?_
     refine zI hR Y ⟨?_, ?_⟩
     · show AV.sl 0 0 (0 + l.length) = _; rw [Nat.zero_add]
     · show ([some ⟨224, .ints .u32 ([] ++ List.take l.length (List.drop 0 l))⟩] : zZ) = _
       simp
 · rintro r H ⟨rfl, rfl⟩
   exact ⟨rfl, fun o ho => by simp at ho; subst ho; exact Nat.le_of_eq (by simp [Cells.len]), zGX zAW⟩
theorem div_less (n m : Nat) (h : n < m) (hn : (za n).length ≤ 1000000) (hm : (za m).length ≤ 1000000) : zW Tryz.prog 158 [zAO n, zAO m] (.tup [.nil, zAO n]) := by
 have hc := zMI n m (by omega) (by omega)
 rw [zHv (Int.ofNat_lt.2 h)] at hc
 have hcl := clone_ok n hn
 refine zV.value0 (zG (P := Tryz.prog) (fn := Tryz.f158) Y Y (by kernel_rfl) Y (fun c hR hfix => ?_)) (fix := fun _ => False) (fun _ h => h) Y Y
 refine rn0 ?_
 refine zB Y Y Y hc ?_
 refine rn5 ?_
 refine zB Y Y Y hcl ?_
 refine rn2 ?_
 exact zI hR Y Y
theorem zPs {n m : Nat} (h : m ≤ n) : ¬ zD0 n m < 0 := by
 rcases Nat.lt_or_ge m n with q | q
 · rw [zID (Int.ofNat_lt.2 q)]; decide
 · rw [zQL (by omega)]; decide
theorem div_one (n m : Nat) (h : m ≤ n) (hn : (za n).length ≤ 1000000) (hm : (za m).length = 1) : zW Tryz.prog 158 [zAO n, zAO m] (.tup [zAO (n / m), zAO (n % m)]) := by
 have hc := zMI n m (by omega) (by omega)
 have hcn := zPs h
 obtain ⟨t, low, ht, htb, htp, hv, hlow⟩ := zGn (Nat.le_refl 1) hm
 have hmt : m = t := by
   simp at hv hlow
   subst hlow
   rw [hv]; simp
 subst hmt
 have hds := zJM (za n) m (zAc n) (by omega) ⟨htp, htb⟩
 rw [zAE] at hds
 have hr : n % m < 4294967296 := Nat.lt_trans (Nat.mod_lt _ htp) htb
 have hsm := zKH (n % m) (by omega)
 refine zV.value0 (zG (P := Tryz.prog) (fn := Tryz.f158) Y Y (by kernel_rfl) Y (fun c hR hfix => ?_)) (fix := fun _ => False) (fun _ h => h) Y Y
 refine rn0 ?_
 refine zB Y Y Y hc ?_
 refine rn4 ?_
 refine zE Y (fun q => absurd q hcn) (fun q => ?_)
 unfold zAO
 refine rn4 ?_
 rw [hm]
 refine rn6 ?_
 refine zN 31 (.int .u32 (m : Nat)) Y (AEq.of_eq (by congr 1)) ?_
 refine zB Y Y Y hds ?_
 refine rn2 ?_
 refine zD (zAb (m := n % m) Y Y Y zBO (by omega)) ?_
 refine zB Y Y Y hsm ?_
 refine rn2 ?_
 exact zI hR Y Y
theorem div_many (n m : Nat) (h : m ≤ n) (hn : (za n).length ≤ 1000000) (hm2 : 2 ≤ (za m).length) : zW Tryz.prog 158 [zAO n, zAO m] (.tup [zAO (n / m), zAO (n % m)]) := by
 have hlm : (za m).length ≤ (za n).length := zAr (by have := zA3 (zAc n); rw [zAE] at this; omega)
 have hc := zMI n m (by omega) (by omega)
 have hcn := zPs h
 have hm0 : 0 < m := by
   rcases Nat.eq_zero_or_pos m with q | q
   · subst q; rw [zBq] at hm2; simp at hm2
   · exact q
 have hnB : n < B ^ (za n).length := by have := zA3 (zAc n); rwa [zAE] at this
 obtain ⟨s, hs⟩ : ∃ s, (za m).length = s := ⟨_, rfl⟩
 obtain ⟨ln, hln⟩ : ∃ ln, (za n).length = ln := ⟨_, rfl⟩
 rw [hs] at hm2 hlm
 rw [hln] at hn hnB hlm
 obtain ⟨t, low, ht, htb, htp, hv, hlow⟩ := zGn (show 1 ≤ s by omega) hs
 refine zV.value0 (zG (P := Tryz.prog) (fn := Tryz.f158) Y Y (by kernel_rfl) Y (fun c hR hfix => ?_)) (fix := fun _ => False) (fun _ h => h) Y Y
 refine rn0 ?_
 refine zB Y Y Y hc ?_
 refine rn4 ?_
 refine zE Y (fun q => absurd q hcn) (fun q => ?_)
 have en : zAO n = .ro (.ints .u32 (za n)) 0 ln := by unfold zAO; rw [hln]
 have em : zAO m = .ro (.ints .u32 (za m)) 0 s := by unfold zAO; rw [hs]
 rw [en, em]
 refine rn4 ?_
 refine zE Y (fun q => absurd q (by omega)) (fun q => ?_)
 refine rn1 ?_
 refine zi (ι := Nat) (fun k => [(0, .ro (.ints .u32 (za n)) 0 ln), (1, .ro (.ints .u32 (za m)) 0 s), (8, .int .i64 (k : Nat))]) (fun _ => []) (fun k => k ≤ 31 ∧ t * 2 ^ k < 4294967296) (fun k => 32 - k) 0 ⟨⟨Y, Y, Y, trivial⟩, Y, by omega, by rw [Nat.pow_zero, Nat.mul_one]; exact htb⟩ ?_
 rintro k ⟨hk1, hk2⟩
 repeat (first | refine zD (zH rfl) ?_ | refine zX ?_ | refine zK rfl ?_ | refine zD (zA9 rfl rfl rfl) ?_ | refine zD (zBo rfl rfl (by omega)) ?_)
 refine zN 42 (.int .i64 (s - 1 : Nat)) Y (AEq.of_eq (by congr 1; omega)) ?_
 refine rn6 ?_
 refine zN 44 (.int .u32 (t : Nat)) Y (AEq.of_eq (by rw [ht])) ?_
 skip
 refine zD (zKA (m := t) (s := k) Y Y (by show k ≤ 32; omega) zEr hk2) ?_
 refine zD (zF3 (s := 31) Y Y Y) ?_
 refine rn4 ?_
 refine zE Y (fun q1 => ?_) (fun q1 => ?_)
 · have hmore := k_more htp hk2 hk1 (by omega)
   refine rn5 ?_
   exact zM ⟨k + 1, ⟨hmore.2, hmore.1⟩, by omega, ⟨Y, Y, Y, trivial⟩, Y⟩
 have hstop := k_stop (t := t) (k := k) (by omega)
 obtain ⟨hnl, hnt⟩ := norm_top (show 1 ≤ s by omega) hs ht hstop hk2 hk1
 have hsn := zOB (za n) k (zAc n) (by omega) (by omega)
 have hsm := zOB (za m) k (zAc m) (by omega) (by omega)
 rw [zAE, hln] at hsn
 rw [zAE, hs] at hsm
 have hvB : m * 2 ^ k < B ^ s := by have := zA3 (zAc (m * 2 ^ k)); rwa [zAE, hnl] at this
 have hvB1 : m * 2 ^ k < B ^ (s + 1) := Nat.lt_of_lt_of_le hvB (Nat.pow_le_pow_right (by decide) (by omega))
 have hnorm := zDx (zB0 (s + 1) (m * 2 ^ k)) (zFZ _ _) (by rw [zB2]; omega)
 rw [zIT _ _ hvB1] at hnorm
 have hstart := zRE hnB hk1 (show 1 ≤ s by omega) hlm (top_ge (show 1 ≤ s by omega) hnl hnt)
 have hv0 : 0 < m * 2 ^ k := Nat.mul_pos hm0 (Nat.pow_pos (by decide))
 have ev : zAO (m * 2 ^ k) = .ro (.ints .u32 (za (m * 2 ^ k))) 0 s := by unfold zAO; rw [hnl]
 have hdig := fun (A U C : List Int) (j : Nat) (Hr : zZ) (hj : A.length = j) (hl : U.length = s + 1) (hU : Lim U) => digit_ok A U C (za (m * 2 ^ k)) j s Hr hj hm2 hl hnl hU (zAc _) hnt
 rw [zAE] at hdig
 have hend := fun Q W => quo_end (n := n) (m := m) (k := k) (W := W) (Q := Q) hm0
 obtain ⟨v, hve⟩ : ∃ v, m * 2 ^ k = v := ⟨_, rfl⟩
 rw [hve] at hsm hvB hvB1 hnorm hstart hv0 ev hdig hend hnl
 refine rn5 ?_
 have c1 : [AV.ro (.ints .u32 (za n)) 0 ln, .int .i64 (k : Nat)] ++ [] = [zF7 (za n), .int .i64 (k : Nat)] := by unfold zF7; rw [hln]; rfl
 have c2 : [AV.ro (.ints .u32 (za m)) 0 s, .int .i64 (k : Nat)] ++ [] = [zF7 (za m), .int .i64 (k : Nat)] := by unfold zF7; rw [hs]; rfl
 refine zCH Y Y c1 hsn ?_
 repeat (refine zD (zH rfl) ?_)
 refine zCH Y Y c2 hsm ?_
 refine zC7 1 56 (s + 1) [(0, .ro (.ints .u32 (za n)) 0 ln), (8, .int .i64 (k : Nat)), (53, .sl 0 0 (ln + 1))] Y zAW Y (by show _ ≤ (zB0 _ _).length; rw [zB2]; omega) ⟨Y, Y, Y, trivial⟩ ?_
 refine zB Y Y (zDK (zB2 _ _)) hnorm ?_
 rw [ev]
 repeat (first | refine zD (zH rfl) ?_ | refine zD (zL rfl) ?_ | refine zC ?_ | refine zA ?_ | refine zX ?_ | refine zK rfl ?_ | refine zD (zA9 rfl rfl rfl) ?_ | refine zD (zBo rfl rfl (by omega)) ?_)
 refine zCB Y Y Y Y Y Y Y Y (by show (0 : Int) ≤ _ ∧ _ ≤ _ ∧ (4 : Int) * _ ≤ _ ∧ _; omega) ?_
 obtain ⟨J, hJ⟩ : ∃ J, J + s = ln + 1 := ⟨ln + 1 - s, by omega⟩
 rw [show (((ln + 1 : Nat) : Int) - (s : Nat)).toNat = J by omega]
 rw [show ln + 1 - s = J by omega] at hstart
 repeat (first | refine zD (zH rfl) ?_ | refine zD (zL rfl) ?_ | refine zC ?_ | refine zA ?_ | refine zX ?_ | refine zK rfl ?_ | refine zx ?_ | refine zD (zA9 rfl rfl rfl) ?_ | refine zD (zBo rfl rfl (by omega)) ?_)
 refine zi (ι := Nat × Nat × List Int) (fun p => [(8, .int .i64 (k : Nat)), (9, .sl 0 0 (ln + 1)), (10, .ro (.ints .u32 (za v)) 0 s), (11, .int .i64 (s : Nat)), (12, .sl 2 0 J), (13, .int .i64 ((p.1 : Int) - 1))]) (fun p => [some ⟨224, .ints .u32 (zB0 (ln + 1) p.2.1)⟩, none, some ⟨224, .ints .u32 p.2.2⟩])
   (fun p => p.1 ≤ J ∧ p.2.1 < v * B ^ p.1 ∧ p.2.2.length = J ∧ Lim p.2.2 ∧ (∀ x, x < p.1 → p.2.2.getD x 0 = 0) ∧ zg p.2.2 * v + p.2.1 = n * 2 ^ k) (fun p => p.1) (J, n * 2 ^ k, List.replicate J 0)
   ⟨⟨rfl, rfl, rfl, rfl, rfl, ?_, trivial⟩, rfl, Nat.le_refl _, hstart, by simp, Lim.zeros _, fun x _ => zOA _ _, by simp [zHo]⟩ ?_
 · show some (AV.int .i64 _) = _
   congr 2
   omega
 rintro ⟨j1, W, Q⟩ ⟨w1, w2, w3, w4, w5, w6⟩
 simp only at *
 repeat (first | refine zD (zH rfl) ?_ | refine zC ?_ | refine zA ?_ | refine zX ?_ | refine zK rfl ?_ | refine zD (zCk rfl rfl) ?_)
 refine zE Y (fun q2 => ?_) (fun q2 => ?_)
 · obtain ⟨j, rfl⟩ : ∃ j, j1 = j + 1 := ⟨j1 - 1, by omega⟩
   obtain ⟨p1, p2, p3, W', p4, p5, p6⟩ := quo_step (N := ln + 1) hv0 hvB w2 (show j + (s + 1) ≤ ln + 1 by omega)
   have hd := hdig (zB0 j W) (zB0 (s + 1) (W / B ^ j)) (zB0 (ln + 1 - (j + (s + 1))) (W / B ^ j / B ^ (s + 1))) j [none, some ⟨224, .ints .u32 Q⟩] (zB2 _ _) (zB2 _ _) (zFZ _ _) (by rw [p2]; exact p3) (by rw [← p1, zB2]; omega)
   rw [p2, p4, ← p1] at hd
   have hq : W / B ^ j / v < 4294967296 := Nat.div_lt_of_lt_mul (by rw [Nat.mul_comm]; exact p3)
   obtain ⟨dg, hdg⟩ : ∃ dg, W / B ^ j / v = dg := ⟨_, rfl⟩
   rw [hdg] at hd hq p6
   repeat (first | refine zD (zH rfl) ?_ | refine zA ?_ | refine zX ?_ | refine zK rfl ?_ | refine zx ?_ | refine zl ?_ | refine zD (zDZ rfl rfl (by omega)) ?_ | refine zD (zHW rfl rfl rfl rfl rfl rfl rfl rfl (by omega)) ?_)
   refine zN 82 (.sl 0 j (s + 1)) Y (AEq.of_eq (by congr 1 <;> omega)) ?_
   skip
   have c3 : [AV.sl 0 j (s + 1), .ro (.ints .u32 (za v)) 0 s] ++ [] = [.sl 0 j (s + 1), zF7 (za v)] := by unfold zF7; rw [hnl]; rfl
   refine zKG Y Y c3 hd (fun h hh => hh) (fun h hh => hh) ?_
   rintro r H ⟨rfl, rfl⟩
   refine zN 75 (.int .i64 (j : Nat)) Y (AEq.of_eq (by congr 1; omega)) ?_
   repeat (first | refine zD (zH rfl) ?_ | refine zD (zL rfl) ?_ | refine zC ?_ | refine zA ?_ | refine zK rfl ?_ | refine zf ?_ | refine zD (zBo rfl rfl (by omega)) ?_ | refine zD (zd rfl rfl rfl rfl rfl (by first | (simp only [Nat.zero_add, Int.toNat_natCast, Int.toNat_zero]; exact rfl) | exact rfl) (by omega)) ?_ | refine zAp rfl rfl rfl rfl rfl rfl rfl (by first | assumption | (show _ < List.length _; first | assumption | omega)) ?_)
   have hz := w5 j (by omega)
   have hset := zKZ (x := (dg : Int)) (show j < Q.length by omega)
   rw [hz, Int.toNat_natCast] at hset
   have z0 : (0 : Int).toNat = 0 := rfl
   rw [z0, Nat.mul_zero, Nat.add_zero] at hset
   refine zM ⟨(j, W', Q.set j (dg : Int)), ⟨by simp only; omega, p5, by simp [w3], w4.set (by omega), fun x hx => ?_, ?_⟩, by simp only; omega, ⟨Y, Y, Y, Y, Y, ?_, trivial⟩, Y⟩
   · simp only at hx ⊢
     rw [zDV (by omega)]; exact w5 x (by omega)
   · simp only
     rw [hset, Nat.add_mul, Nat.mul_assoc, Nat.mul_comm dg v]
     omega
   · show some (AV.int .i64 _) = _
     congr 2
     omega
 · have hj0 : j1 = 0 := by omega
   subst hj0
   rw [Nat.pow_zero, Nat.mul_one] at w2
   have he := hend (zg Q) W
   obtain ⟨hq, hW⟩ := he w6 w2
   clear he hend
   have hWB : W < B ^ s := Nat.lt_trans w2 hvB
   have htk : (zB0 (ln + 1) W).take s = zB0 s W := by
     rw [show ln + 1 = s + J by omega, zFX, List.take_left' (zB2 _ _)]
   have hn1 := zDx (zB0 s W) (zFZ _ _) (by rw [zB2]; omega)
   rw [zIT _ _ hWB] at hn1
   refine rn5 ?_
   refine zD (zI5 Y Y Y Y Y Y Y Y ⟨Y, by omega, by omega⟩) ?_
   refine zN 88 (.sl 0 0 s) Y (AEq.of_eq (by rw [Int.toNat_natCast])) ?_
   refine zC7 0 88 s [(8, .int .i64 (k : Nat)), (12, .sl 2 0 J)] Y zAW Y (by show _ ≤ (zB0 _ _).length; rw [zB2]; omega) ⟨Y, Y, trivial⟩ ?_
   refine zN 88 (.ro (.ints .u32 (zB0 s W)) 0 s) Y (AEq.trans AEq.take (AEq.of_eq (by rw [htk]))) ?_
   refine zB Y Y (zDK (zB2 _ _)) hn1 ?_
   have hlW := zAc W
   have hWv := zAE W
   have hlWl : (za W).length ≤ s := zAr hWB
   unfold zAO
   obtain ⟨r, hr⟩ : ∃ r, za W = r := ⟨_, rfl⟩
   rw [hr] at hlW hWv hlWl ⊢
   refine rn3 ?_
   refine zCB Y Y Y Y Y Y Y Y (by show (0 : Int) ≤ _ ∧ _ ≤ _ ∧ (4 : Int) * _ ≤ _ ∧ _; omega) ?_
   refine rn3 ?_
   have hd0 : ∃ d0 : Nat, r.getD 0 0 = (d0 : Int) ∧ d0 < 4294967296 := hlW.nat 0
   obtain ⟨d0, hd0, hd0b⟩ := hd0
   refine zi (ι := Nat × List Int) (fun p => [(8, .int .i64 (k : Nat)), (12, .sl 2 0 J), (14, .ro (.ints .u32 r) 0 r.length), (15, .sl 3 0 r.length), (93, .ro (.ints .u32 r) 0 r.length), (94, .int .i64 (r.length : Nat)), (95, .int .i64 (p.1 : Nat))]) (fun p => [none, none, some ⟨224, .ints .u32 Q⟩, some ⟨224, .ints .u32 p.2⟩])
     (fun p => p.1 ≤ r.length ∧ p.2.length = r.length ∧ Lim p.2 ∧ zg (p.2.take p.1) * 2 ^ k + d0 % 2 ^ k = zg (r.take p.1) + (r.getD p.1 0).toNat % 2 ^ k * B ^ p.1) (fun p => r.length - p.1) (0, List.replicate r.length 0)
     ⟨⟨rfl, rfl, rfl, rfl, rfl, rfl, rfl, trivial⟩, rfl, Nat.zero_le _, by simp, Lim.zeros _, by simp [zg]; rw [show r[0]?.getD 0 = (d0 : Int) from hd0]; simp⟩ ?_
   rintro ⟨i, O⟩ ⟨x1, x2, x3, x4⟩
   simp only at *
   refine rn4 ?_
   refine zE Y (fun x5 => ?_) (fun x5 => ?_)
   · have hil : i < r.length := by omega
     obtain ⟨d, hd, hdb⟩ := hlW.nat i
     obtain ⟨e, he, heb⟩ := hlW.nat (i + 1)
     have hbl := zQ3 (e := e) hdb hk1
     have hbm := back_lim (e := e) hdb hk1
     have hdk : d / 2 ^ k < 4294967296 := Nat.lt_of_le_of_lt (Nat.div_le_self _ _) hdb
     rw [hd, Int.toNat_natCast] at x4
     have hstep := back_val (e := e) (out := O.take i) (i := i) hk1 (by simp; omega) hd x4
     refine rn6 ?_
     refine zN 102 (.int .u32 (d : Nat)) Y (AEq.of_eq (by rw [hd])) ?_
     skip
     refine zD (zF3 (m := d) (s := k) Y Y (by rw [Nat.ble_eq]; show k ≤ 32; omega)) ?_
     repeat (first | refine zD (zH rfl) ?_ | refine zC ?_ | refine zA ?_ | refine zX ?_ | refine zK rfl ?_ | refine zD (zLy rfl rfl) ?_ | refine zD (zA9 rfl rfl rfl) ?_ | refine zD (zDZ rfl rfl (by omega)) ?_ | refine zD (zd rfl rfl rfl rfl rfl (by first | (simp only [Nat.zero_add, Int.toNat_natCast, Int.toNat_zero]; exact rfl) | exact rfl) (by omega)) ?_ | refine zAp rfl rfl rfl rfl rfl rfl rfl (by first | assumption | (show _ < List.length _; first | assumption | omega)) ?_)
     apply zAu (H := [none, none, some ⟨224, .ints .u32 Q⟩, some ⟨224, .ints .u32 (O.set i ((d / 2 ^ k + e % 2 ^ k * 2 ^ (32 - k) : Nat) : Int))⟩]) [(8, .int .i64 (k : Nat)), (12, .sl 2 0 J), (14, .ro (.ints .u32 r) 0 r.length), (15, .sl 3 0 r.length), (93, .ro (.ints .u32 r) 0 r.length), (94, .int .i64 (r.length : Nat)), (95, .int .i64 (i : Nat))]
     · intro fin
       have noFin : (i + 1 = r.length ∨ k = 0) → e % 2 ^ k * 2 ^ (32 - k) = 0 := by
         rintro (h | h)
         · have : r.getD (i + 1) 0 = 0 := by simp [List.getD, List.getElem?_eq_none (show r.length ≤ i + 1 by omega)]
           have : e = 0 := by omega
           subst this; simp
         · subst h; rw [Nat.pow_zero, Nat.mod_one]; try simp
       refine zAF Y Y (fun y1 => ?_) (fun y1 => ?_)
       · refine rn6 ?_
         refine zE Y (fun y2 => ?_) (fun y2 => ?_)
         · skip
           refine zk (by kernel_rfl) ?_
           refine zS 0 Y (by kernel_rfl) (by kernel_rfl) (by kernel_rfl) Y (zH Y) Y ?_
           refine zS 1 Y (by kernel_rfl) (by kernel_rfl) (by kernel_rfl) Y (zH Y) Y ?_
           refine zS 2 Y (by kernel_rfl) (by kernel_rfl) (by kernel_rfl) Y (zd Y Y Y Y Y (by first | (simp only [Nat.zero_add, Int.toNat_natCast, Int.toNat_zero]; exact Y) | exact Y) (by omega)) Y ?_
           refine zS 4 Y (by kernel_rfl) (by kernel_rfl) (by kernel_rfl) Y (zH Y) Y ?_
           refine zS 5 Y (by kernel_rfl) (by kernel_rfl) (by kernel_rfl) Y (zH Y) Y ?_
           refine zS 6 Y (by kernel_rfl) (by kernel_rfl) (by kernel_rfl) Y (zDZ Y Y (by omega)) Y ?_
           refine zS 7 Y (by kernel_rfl) (by kernel_rfl) (by kernel_rfl) Y (ze Y Y Y Y (by first | (simp only [Nat.zero_add, Int.toNat_natCast, Int.toNat_zero]; exact Y) | exact Y) (by omega)) Y ?_
           refine zS 9 Y (by kernel_rfl) (by kernel_rfl) (by kernel_rfl) Y (zH Y) Y ?_
           refine zS 10 Y (by kernel_rfl) (by kernel_rfl) (by kernel_rfl) Y (zBo Y Y (by omega)) Y ?_
           apply zCo [(8, .int .i64 (k : Nat)), (12, .sl 2 0 J), (14, .ro (.ints .u32 r) 0 r.length), (15, .sl 3 0 r.length), (93, .ro (.ints .u32 r) 0 r.length), (94, .int .i64 (r.length : Nat)), (95, .int .i64 (i : Nat)), (118, .int .u32 (d / 2 ^ k : Nat)), (126, .int .u32 (e * 2 ^ (32 - k) % 4294967296 : Nat)), (115, .sl 3 0 r.length), (116, .int .i64 (i : Nat))]
           · intro fin2
             have hsl : (O.set i ((d / 2 ^ k : Nat) : Int)).getD i 0 = ((d / 2 ^ k : Nat) : Int) := by simp [List.getD, show i < O.length by omega]
             have hil2 : i < (O.set i ((d / 2 ^ k : Nat) : Int)).length := by simp; omega
             refine zF (is := [3, 8]) (by kernel_rfl) (by simp) Y ⟨fun o ho => ?_, fun o ho => ?_, trivial⟩
             all_goals (cases ho)
             · repeat (first | refine zC ?_ | refine zo ?_ | refine zD (zAT rfl rfl rfl rfl (by first | assumption | omega)) ?_)
               refine zF (is := [8]) (by kernel_rfl) (by simp) Y ⟨fun o ho => ?_, trivial⟩
               all_goals (cases ho)
               refine rn6 ?_
               refine zBU 123 (.int .u32 (e : Nat)) Y (AEq.of_eq (by rw [show ((i : Int) + 1).toNat = i + 1 by omega, he])) ?_
               refine zBU 125 (.int .i64 (32 - k : Nat)) Y (AEq.of_eq (by congr 1; omega)) ?_
               refine zS 11 Y (by kernel_rfl) (by kernel_rfl) (by kernel_rfl) Y (zQM (m := e) (s := 32 - k) Y Y (by show 32 - k ≤ 32; omega) zEr) Y ?_
               refine fin2 _ ⟨Y, Y, Y, Y, Y, Y, Y, ?_, Y, Y, Y, trivial⟩
               show some (AV.int .u32 ((O.set i ((d / 2 ^ k : Nat) : Int)).getD i 0)) = _
               rw [hsl]
             · refine rn6 ?_
               refine zBU 123 (.int .u32 (e : Nat)) Y (AEq.of_eq (by rw [show ((i : Int) + 1).toNat = i + 1 by omega, he])) ?_
               refine zBU 125 (.int .i64 (32 - k : Nat)) Y (AEq.of_eq (by congr 1; omega)) ?_
               refine zS 11 Y (by kernel_rfl) (by kernel_rfl) (by kernel_rfl) Y (zQM (m := e) (s := 32 - k) Y Y (by show 32 - k ≤ 32; omega) zEr) Y ?_
               refine zF (is := [3]) (by kernel_rfl) (by simp) Y ⟨fun o ho => ?_, trivial⟩
               all_goals (cases ho)
               repeat (first | refine zC ?_ | refine zo ?_ | refine zD (zAT rfl rfl rfl rfl (by first | assumption | omega)) ?_)
               refine fin2 _ ⟨Y, Y, Y, Y, Y, Y, Y, ?_, Y, Y, Y, trivial⟩
               show some (AV.int .u32 ((O.set i ((d / 2 ^ k : Nat) : Int)).getD i 0)) = _
               rw [hsl]
           refine zS 12 Y (by kernel_rfl) (by kernel_rfl) (by kernel_rfl) Y (QOp.res (zNl Y Y zEr Y hdk (Nat.mod_lt _ (by decide))) (by rw [hbl])) Y ?_
           have hil2 : i < (O.set i ((d / 2 ^ k : Nat) : Int)).length := by simp; omega
           refine zS 13 Y (by kernel_rfl) (by kernel_rfl) (by kernel_rfl) Y (zd Y Y Y Y Y (by first | (simp only [Nat.zero_add, Int.toNat_natCast, Int.toNat_zero]; exact Y) | exact Y) (by omega)) Y ?_
           refine zF (is := [14]) (by kernel_rfl) (by simp) Y ⟨fun o ho => ?_, trivial⟩
           all_goals (cases ho)
           repeat (first | refine zC ?_ | refine zo ?_ | refine zAp rfl rfl rfl rfl rfl rfl rfl (by first | assumption | (show _ < List.length _; first | assumption | omega)) ?_)
           refine zh (by kernel_rfl) ?_
           repeat (first | refine zA ?_ | refine zf ?_)
           refine zBQ _ (by show [none, none, _, some (⟨_, .ints .u32 ((O.set i _).set i _)⟩ : AObj)] = _; rw [List.set_set]) ?_
           exact fin _ ⟨Y, Y, Y, Y, Y, Y, Y, trivial⟩
         · have hz := noFin (.inr (by omega))
           rw [hz, Nat.add_zero] at fin
           repeat (first | refine zA ?_ | refine zf ?_ | refine zl ?_)
           exact fin _ ⟨Y, Y, Y, Y, Y, Y, Y, trivial⟩
       · have hz := noFin (.inl (by omega))
         rw [hz, Nat.add_zero] at fin
         repeat (first | refine zC ?_ | refine zA ?_ | refine zAn rfl rfl rfl ?_ | refine z6 rfl ?_ | refine zf ?_ | refine zl ?_ | refine zD (zAg rfl rfl) ?_)
         exact fin _ ⟨Y, Y, Y, Y, Y, Y, Y, trivial⟩
     refine rn3 ?_
     refine zM ⟨(i + 1, O.set i ((d / 2 ^ k + e % 2 ^ k * 2 ^ (32 - k) : Nat) : Int)), ⟨by simp only; omega, by simp [x2], x3.set (by omega), ?_⟩, by simp only; omega, ⟨Y, Y, Y, Y, Y, Y, Y, trivial⟩, Y⟩
     simp only
     rw [zFR (by omega), he, Int.toNat_natCast]
     exact hstep
   · have hie : i = r.length := by omega
     subst hie
     have hz : r.getD r.length 0 = 0 := by simp [List.getD]
     have z0 : (0 : Int).toNat = 0 := rfl
     rw [hz, z0, Nat.zero_mod, Nat.zero_mul, Nat.add_zero, List.take_of_length_le (by omega), List.take_length, hWv, hW] at x4
     have hpk : 0 < 2 ^ k := Nat.pow_pos (by decide)
     have hOv : zg O = n % m := by
       have h1 : d0 % 2 ^ k < 2 ^ k := Nat.mod_lt _ hpk
       have h2 : (zg O * 2 ^ k + d0 % 2 ^ k) / 2 ^ k = zg O := by rw [Nat.add_comm, Nat.add_mul_div_right _ _ hpk, Nat.div_eq_of_lt h1, Nat.zero_add]
       rw [x4, Nat.mul_div_cancel _ hpk] at h2
       exact h2.symm
     have nq := zDx Q w4 (by omega)
     have no := zDx O x3 (by omega)
     rw [hq] at nq
     rw [hOv] at no
     refine rn5 ?_
     refine zC7 2 130 J [(15, .sl 3 0 r.length)] Y zAW Y (by show _ ≤ Q.length; omega) ⟨Y, trivial⟩ ?_
     refine zB Y Y (zDK w3) nq ?_
     repeat (refine zD (zH rfl) ?_)
     refine zC7 3 132 r.length [(131, zAO (n / m))] Y zAW Y (by show _ ≤ O.length; omega) ⟨Y, trivial⟩ ?_
     refine zB Y Y (zDK x2) no ?_
     refine rn0 ?_
     exact zI hR Y Y
end Go.Proofs.YtnkealfaldjipaaGreatDoor
namespace Go.Ax.Bg
theorem zFL {a b k : Nat} (h : a < b) (hb : (za b).length ≤ k) : (za a).length ≤ k := by
 have h1 := zA3 (zAc b)
 rw [zAE] at h1
 have := zAr (Nat.lt_trans h h1)
 omega
theorem zE0 {a b k : Nat} (h : a ≤ b) (hb : (za b).length ≤ k) : (za a).length ≤ k := by
 rcases Nat.lt_or_ge a b with q | q
 · exact zFL q hb
 · have : a = b := by omega
   subst this; exact hb
theorem zGZ : za 1 = [1] := by
 rw [zGf (by decide)]
 have : 1 / B = 0 := by decide
 rw [this, zBq]; rfl
theorem zRR {n : Nat} : n = 1 ↔ (za n).length = 1 ∧ (za n).getD 0 0 = 1 := by
 constructor
 · rintro rfl; rw [zGZ]; exact ⟨rfl, rfl⟩
 · rintro ⟨h1, h2⟩
   have h3 := zAA (za n) 0
   rw [List.take_of_length_le (by omega), zAE, h2] at h3
   simpa [zg] using h3
/-- A row of which k elements on each side have changed places. -/
def zGS (l : List (List UInt8)) (k : Nat) : List (List UInt8) := (List.range l.length).map fun i => if i < k ∨ l.length - k ≤ i then l.getD (l.length - 1 - i) [] else l.getD i []
theorem zDU (l : List (List UInt8)) (k : Nat) : (zGS l k).length = l.length := by unfold zGS; simp
theorem zHE (l : List (List UInt8)) (k i : Nat) (hi : i < l.length) : (zGS l k).getD i [] = if i < k ∨ l.length - k ≤ i then l.getD (l.length - 1 - i) [] else l.getD i [] := by
 unfold zGS
 simp only [List.getD, List.getElem?_map, List.getElem?_range hi, Option.map_some, Option.getD_some]
theorem zKe {l m : List (List UInt8)} (h : l.length = m.length) (he : ∀ i, i < l.length → l.getD i [] = m.getD i []) : l = m := by
 apply List.ext_getElem h
 intro i h1 h2
 have := he i h1
 rw [zDw [] h1, zDw [] h2] at this
 exact this
theorem zQc (l : List (List UInt8)) : zGS l 0 = l := by
 refine zKe (zDU l 0) (fun i hi => ?_)
 rw [zDU] at hi
 rw [zHE l 0 i hi, if_neg (by omega)]
theorem zRf (l : List (List UInt8)) {k : Nat} (h : l.length ≤ 2 * k + 1) : zGS l k = l.reverse := by
 refine zKe (by rw [zDU, List.length_reverse]) (fun i hi => ?_)
 rw [zDU] at hi
 have hr : l.reverse.getD i [] = l.getD (l.length - 1 - i) [] := by
   simp only [List.getD]
   rw [List.getElem?_reverse hi]
 rw [zHE l k i hi, hr]
 split
 · rfl
 · congr 1; omega
theorem zQy (l : List (List UInt8)) {k : Nat} (h : k + 1 + k < l.length) : ((zGS l k).set k ((zGS l k).getD (l.length - 1 - k) [])).set (l.length - 1 - k) ((zGS l k).getD k []) = zGS l (k + 1) := by
 refine zKe (by simp [zDU]) (fun i hi => ?_)
 simp only [List.length_set, zDU] at hi
 rw [zHE l (k + 1) i hi, zHE l k (l.length - 1 - k) (by omega), if_neg (by omega), zHE l k k (by omega), if_neg (by omega)]
 simp only [List.getD]
 by_cases h1 : i = l.length - 1 - k
 · subst h1
   rw [List.getElem?_set_self (by simp [zDU]; omega), if_pos (by omega)]
   simp only [Option.getD_some]
   congr 2; omega
 · rw [List.getElem?_set_ne (Ne.symm h1)]
   by_cases h2 : i = k
   · subst h2
     rw [List.getElem?_set_self (by rw [zDU]; omega), if_pos (by omega)]
     simp only [Option.getD_some]
   · rw [List.getElem?_set_ne (Ne.symm h2)]
     have := zHE l k i hi
     simp only [List.getD] at this
     rw [this]
     by_cases h3 : i < k ∨ l.length - k ≤ i
     · rw [if_pos h3, if_pos (by omega)]
     · rw [if_neg h3, if_neg (by omega)]
end Go.Ax.Bg
namespace Go.Proofs.YtnkealfaldjipaaGreatDoor
open Go.Ax Go.Ax.Bg Go.RowKit
attribute [local irreducible] Ax zBG QOp zV
set_option maxRecDepth 100000
set_option maxHeartbeats 4000000
theorem zPJ (n m : Nat) (hm : 0 < m) (hn : (za n).length ≤ 1000000) (hml : (za m).length ≤ 1000000) : zW Tryz.prog 158 [zAO n, zAO m] (.tup [zAO (n / m), zAO (n % m)]) := by
 rcases Nat.lt_or_ge n m with h | h
 · rw [Nat.div_eq_of_lt h, Nat.mod_eq_of_lt h]
   exact zW.res (div_less n m h hn hml) (AEq.tup2 AEq.natNil)
 · have h1 : (za m).length ≠ 0 := by
     have := zCQ.2 (show m ≠ 0 by omega)
     omega
   rcases Nat.lt_or_ge (za m).length 2 with q | q
   · exact div_one n m h hn (by omega)
   · exact div_many n m h hn q
theorem gcd_ok (n m : Nat) (hn : (za n).length ≤ 1000000) (hm : (za m).length ≤ 1000000) : zW Tryz.prog 96 [zAO n, zAO m] (zAO (Nat.gcd n m)) := by
 refine zV.value0 (zG (P := Tryz.prog) (fn := Tryz.f96) Y Y (by kernel_rfl) Y (fun c hR hfix => ?_)) (fix := fun _ => False) (fun _ h => h) Y Y
 refine rn1 ?_
 refine zi (ι := Nat × Nat) (fun p => [(0, zAO p.1), (1, zAO p.2)]) (fun _ => []) (fun p => (za p.1).length ≤ 1000000 ∧ (za p.2).length ≤ 1000000 ∧ Nat.gcd p.1 p.2 = Nat.gcd n m) (fun p => p.2) (n, m) ⟨⟨Y, Y, trivial⟩, Y, hn, hm, Y⟩ ?_
 rintro ⟨a, b⟩ ⟨h1, h2, h3⟩
 simp only at *
 have hd := fun h => zPJ a b h h1 h2
 have hpos : 0 < (za b).length ↔ b ≠ 0 := zCQ
 have en : zAO b = .ro (.ints .u32 (za b)) 0 (za b).length := rfl
 rw [en] at hd ⊢
 refine rn6 ?_
 refine zE Y (fun h4 => ?_) (fun h4 => ?_)
 · have hb : b ≠ 0 := hpos.1 (by omega)
   refine rn1 ?_
   refine zB Y Y Y (hd (by omega)) ?_
   refine rn5 ?_
   refine zM ⟨(b, a % b), ⟨h2, zFL (Nat.mod_lt a (by omega)) h2, ?_⟩, Nat.mod_lt a (by omega), ⟨Y, Y, trivial⟩, Y⟩
   show Nat.gcd b (a % b) = Nat.gcd n m
   rw [← h3, Nat.gcd_comm a b, Nat.gcd_rec b a, Nat.gcd_comm]
 · have hb : b = 0 := by
     rcases Nat.eq_zero_or_pos b with q | q
     · exact q
     · have := hpos.2 (by omega); omega
   rw [hb, Nat.gcd_zero_right] at h3
   refine rn5 ?_
   refine zI hR Y ?_
   rw [← h3]; rfl
theorem one_ok (n : Nat) : zW Tryz.prog 97 [zAO n] (.bool (decide (n = 1))) := by
 refine zV.value0 (zG (P := Tryz.prog) (fn := Tryz.f97) Y Y (by kernel_rfl) Y (fun c hR hfix => ?_)) (fix := fun _ => False) (fun _ h => h) Y Y
 have h1 : n = 1 ↔ (za n).length = 1 ∧ (za n).getD 0 0 = 1 := zRR
 unfold zAO
 refine rn4 ?_
 refine zAF Y Y (fun h2 => ?_) (fun h2 => ?_)
 · refine rn6 ?_
   refine zI hR Y ?_
   show AV.bool (decide ((za n).getD _ 0 = 1)) = _
   congr 1
   rw [decide_eq_decide, h1]
   exact ⟨fun h => ⟨by omega, h⟩, fun h => h.2⟩
 · refine rn6 ?_
   refine zI hR Y ?_
   show AV.bool false = _
   rw [decide_eq_false]
   intro h
   exact h2 (by have := (h1.1 h).1; omega)
theorem zOM (l : List (List UInt8)) (hl : l.length ≤ 1000000000) :
   zV Tryz.prog 218 [.sl 0 0 l.length] [some ⟨9, .strs l⟩] (fun h => h < 1) (fun _ H => H = [some ⟨9, .strs l.reverse⟩]) := by
 refine zG (P := Tryz.prog) (fn := Tryz.f218) Y Y (by kernel_rfl) Y (fun c hR hfix => ?_)
 repeat (first | refine zD (zH rfl) ?_ | refine zD (zL rfl) ?_ | refine zC ?_ | refine zA ?_ | refine zX ?_ | refine zK rfl ?_ | refine zx ?_ | refine zD (zA9 rfl rfl rfl) ?_ | refine zD (zBo rfl rfl (by omega)) ?_)
 refine zi (ι := Nat) (fun k => [(0, .sl 0 0 l.length), (2, .int .i64 (k : Nat)), (3, .int .i64 ((l.length : Int) - 1 - k))]) (fun k => [some ⟨9, .strs (zGS l k)⟩]) (fun k => 2 * k ≤ l.length + 1) (fun k => l.length + 1 - k) 0 ⟨⟨Y, Y, ?_, trivial⟩, by rw [zQc], by omega⟩ ?_
 · show some (AV.int .i64 _) = _
   congr 2; omega
 rintro k hk
 have hrl := zDU l k
 refine rn4 ?_
 refine zE Y (fun h1 => ?_) (fun h1 => ?_)
 · have hk2 : k + 1 + k < l.length := by omega
   have e1 : ((l.length : Int) - 1 - (k : Nat)).toNat = l.length - 1 - k := by omega
   refine rn1 ?_
   refine zk (by kernel_rfl) ?_
   refine zS 0 Y (by kernel_rfl) (by kernel_rfl) (by kernel_rfl) Y (zH Y) Y ?_
   refine zS 1 Y (by kernel_rfl) (by kernel_rfl) (by kernel_rfl) Y (zH Y) Y ?_
   refine zS 2 Y (by kernel_rfl) (by kernel_rfl) (by kernel_rfl) Y (zH Y) Y ?_
   refine zS 3 Y (by kernel_rfl) (by kernel_rfl) (by kernel_rfl) Y (zH Y) Y ?_
   refine zS 4 Y (by kernel_rfl) (by kernel_rfl) (by kernel_rfl) Y (zH Y) Y ?_
   refine zS 5 Y (by kernel_rfl) (by kernel_rfl) (by kernel_rfl) Y (zH Y) Y ?_
   refine zS 6 Y (by kernel_rfl) (by kernel_rfl) (by kernel_rfl) Y (zd Y Y Y Y Y (by first | (simp only [Nat.zero_add, Int.toNat_natCast, Int.toNat_zero]; exact Y) | exact Y) (by omega)) Y ?_
   refine zS 8 Y (by kernel_rfl) (by kernel_rfl) (by kernel_rfl) Y (zH Y) Y ?_
   refine zS 9 Y (by kernel_rfl) (by kernel_rfl) (by kernel_rfl) Y (zH Y) Y ?_
   refine zS 10 Y (by kernel_rfl) (by kernel_rfl) (by kernel_rfl) Y (zd Y Y Y Y Y (by first | (simp only [Nat.zero_add, Int.toNat_natCast, Int.toNat_zero]; exact Y) | exact Y) (by omega)) Y ?_
   refine zBU 20 (.ptr 0 (l.length - 1 - k) 0) Y (AEq.of_eq (by rw [e1])) ?_
   have b1 : l.length - 1 - k < (zGS l k).length := by omega
   have b2 : k < (zGS l k).length := by omega
   apply zCo [(0, .sl 0 0 l.length), (2, .int .i64 (k : Nat)), (3, .int .i64 ((l.length : Int) - 1 - k)), (14, .sl 0 0 l.length), (15, .int .i64 (k : Nat)), (16, .sl 0 0 l.length), (17, .int .i64 ((l.length : Int) - 1 - k)), (21, .str ((zGS l k).getD (l.length - 1 - k) [])), (25, .str ((zGS l k).getD k []))]
   · intro fin
     refine zF (is := [7, 11]) (by kernel_rfl) (by simp) Y ⟨fun o ho => ?_, fun o ho => ?_, trivial⟩
     all_goals (cases ho)
     · repeat (first | refine zC ?_ | refine zo ?_ | refine zD (zE2 rfl rfl rfl rfl (by first | assumption | omega)) ?_)
       refine zF (is := [11]) (by kernel_rfl) (by simp) Y ⟨fun o ho => ?_, trivial⟩
       all_goals (cases ho)
       repeat (first | refine zC ?_ | refine zo ?_ | refine zD (zE2 rfl rfl rfl rfl (by first | assumption | omega)) ?_)
       exact fin _ ⟨Y, Y, Y, Y, Y, Y, Y, Y, Y, trivial⟩
     · repeat (first | refine zC ?_ | refine zo ?_ | refine zD (zE2 rfl rfl rfl rfl (by first | assumption | omega)) ?_)
       refine zF (is := [7]) (by kernel_rfl) (by simp) Y ⟨fun o ho => ?_, trivial⟩
       all_goals (cases ho)
       repeat (first | refine zC ?_ | refine zo ?_ | refine zD (zE2 rfl rfl rfl rfl (by first | assumption | omega)) ?_)
       exact fin _ ⟨Y, Y, Y, Y, Y, Y, Y, Y, Y, trivial⟩
   refine zS 12 Y (by kernel_rfl) (by kernel_rfl) (by kernel_rfl) Y (zd Y Y Y Y Y (by first | (simp only [Nat.zero_add, Int.toNat_natCast, Int.toNat_zero]; exact Y) | exact Y) (by omega)) Y ?_
   refine zF (is := [13]) (by kernel_rfl) (by simp) Y ⟨fun o ho => ?_, trivial⟩
   all_goals (cases ho)
   repeat (first | refine zC ?_ | refine zo ?_ | refine zAp rfl rfl rfl rfl rfl rfl rfl (by first | assumption | (show _ < List.length _; first | assumption | omega)) ?_)
   refine zS 14 Y (by kernel_rfl) (by kernel_rfl) (by kernel_rfl) Y (zd Y Y Y Y Y (by first | (simp only [Nat.zero_add, Int.toNat_natCast, Int.toNat_zero]; exact Y) | exact Y) (by omega)) Y ?_
   refine zBU 27 (.ptr 0 (l.length - 1 - k) 0) Y (AEq.of_eq (by rw [e1])) ?_
   have b3 : l.length - 1 - k < ((zGS l k).set k ((zGS l k).getD (l.length - 1 - k) [])).length := by simp; omega
   refine zF (is := [15]) (by kernel_rfl) (by simp) Y ⟨fun o ho => ?_, trivial⟩
   all_goals (cases ho)
   repeat (first | refine zC ?_ | refine zo ?_ | refine zAp rfl rfl rfl rfl rfl rfl rfl (by first | assumption | (show _ < List.length _; first | assumption | omega)) ?_)
   refine zh (by kernel_rfl) ?_
   repeat (first | refine zD (zH rfl) ?_ | refine zD (zL rfl) ?_ | refine zC ?_ | refine zA ?_ | refine zK rfl ?_ | refine zf ?_ | refine zD (zDZ rfl rfl (by omega)) ?_ | refine zD (zBo rfl rfl (by omega)) ?_)
   refine zM ⟨k + 1, by omega, by omega, ⟨Y, Y, ?_, trivial⟩, ?_⟩
   · show some (AV.int .i64 _) = _
     congr 2; omega
   · show ([some ⟨_, .strs (((zGS l k).set k _).set (l.length - 1 - k) _)⟩] : zZ) = _
     rw [zQy l hk2]
 · refine rn5 ?_
   refine ax_end hR Y ?_
   rw [zRf l (by omega)]
end Go.Proofs.YtnkealfaldjipaaGreatDoor
namespace Go.Proofs
open Go.Shelf
def Tryz.lays156_ren : Go.Shelf.Ren := ⟨fun | 156 => 219 | 165 => 238 | 166 => 239 | 169 => 241 | 240 => 251 | 241 => 252 | 276 => 259 | 277 => 260 | n => n, fun | 31 => 288 | 9 => 9 | 3 => 3 | 4 => 4 | 0 => 0 | 20 => 20 | 72 => 307 | 76 => 309 | 70 => 305 | 37 => 301 | 75 => 231 | 127 => 319 | 164 => 333 | 5 => 5 | 80 => 215 | n => n, fun | n => n⟩
theorem Tryz.lays156 : Go.Proofs.Lays.n156 Tryz.prog Tryz.lays156_ren := {
 mixed := by kernel_rfl
 f156 := Tryz.func219.trans (congrArg some (by kernel_rfl))
 f165 := Tryz.func238.trans (congrArg some (by kernel_rfl))
 f166 := Tryz.func239.trans (congrArg some (by kernel_rfl))
 f169 := Tryz.func241.trans (congrArg some (by kernel_rfl))
 f240 := Tryz.func251.trans (congrArg some (by kernel_rfl))
 f241 := Tryz.func252.trans (congrArg some (by kernel_rfl))
 f276 := Tryz.func259.trans (congrArg some (by kernel_rfl))
 f277 := Tryz.func260.trans (congrArg some (by kernel_rfl))
 t0 := Tryz.underlying0
 a0 := Tryz.isAgg0
 z0 := Tryz.sizeOf0
 v0 := Tryz.zeroValue0
 t3 := Tryz.underlying3
 a3 := Tryz.isAgg3
 z3 := Tryz.sizeOf3
 v3 := Tryz.zeroValue3
 t4 := Tryz.underlying4
 a4 := Tryz.isAgg4
 z4 := Tryz.sizeOf4
 v4 := Tryz.zeroValue4
 t9 := Tryz.underlying9
 a9 := Tryz.isAgg9
 z9 := Tryz.sizeOf9
 v9 := Tryz.zeroValue9
 t20 := Tryz.underlying20
 a20 := Tryz.isAgg20
 z20 := Tryz.sizeOf20
 v20 := Tryz.zeroValue20
 t31 := Tryz.underlying288
 a31 := Tryz.isAgg288
 z31 := Tryz.sizeOf288
 v31 := Tryz.zeroValue288
 t37 := Tryz.underlying301
 a37 := Tryz.isAgg301
 z37 := Tryz.sizeOf301
 v37 := Tryz.zeroValue301
 t70 := Tryz.underlying305
 a70 := Tryz.isAgg305
 z70 := Tryz.sizeOf305
 v70 := Tryz.zeroValue305
 t72 := Tryz.underlying307
 a72 := Tryz.isAgg307
 z72 := Tryz.sizeOf307
 v72 := Tryz.zeroValue307
 t75 := Tryz.underlying231
 a75 := Tryz.isAgg231
 z75 := Tryz.sizeOf231
 v75 := Tryz.zeroValue231
 t76 := Tryz.underlying309
 a76 := Tryz.isAgg309
 z76 := Tryz.sizeOf309
 v76 := Tryz.zeroValue309
 t127 := Tryz.underlying319
 a127 := Tryz.isAgg319
 z127 := Tryz.sizeOf319
 v127 := Tryz.zeroValue319
 t164 := Tryz.underlying333
 a164 := Tryz.isAgg333
 z164 := Tryz.sizeOf333
 v164 := Tryz.zeroValue333 }
theorem Tryz.Builder_Extra_156 : Builder.Extra Tryz.prog Tryz.lays156_ren := {
 sizeBuilder := by kernel_rfl
 liesBuilder := by kernel_rfl
 t5 := Tryz.underlying5
 a5 := Tryz.isAgg5
 z5 := Tryz.sizeOf5
 v5 := Tryz.zeroValue5
 infoByte := by kernel_rfl
 cellsByte := by kernel_rfl
 sizeByte := by kernel_rfl
 neB5 := by decide }
open Go.RowKit in
/-- No element: the empty string; the world is as it was. (Whatever the slice's address and capacity: a nil slice too.) (LAID: no walk: one application.) -/
theorem Tryz.strings_Join_none (a : Option Addr) (c : Nat) (sep : ByteArray) (w : World) :
   Calls Tryz.prog 219 #[.slice a 0 c, .string sep] w fun e w' => e = .returned (.string ⟨#[]⟩) ∧ w' = w := Any.strings_Join_none Tryz.lays156 Tryz.Builder_Extra_156 a c sep w
open Go.RowKit in
/-- strings.Join: "Join concatenates the elements of its first argument to create a single string. The separator string sep is placed between elements in the resulting string.": HOWEVER MANY ELEMENTS. Below the heap's end the world is as it was. (LAID: no walk: one application.) -/
theorem Tryz.strings_Join (bk o c : Nat) (xs : List ByteArray) (sep : ByteArray) (w : World) (hcells : ∀ (j : Nat) x, xs[j]? = some x → w.cell? ⟨bk, o + j, none⟩ = some (.string x)) (hbk : bk < w.heap.size) (hN : xs.length ≤ 140737488355328) (hcap : xs.length ≤ c) (hlen : (Lib.join (xs.map (·.data.toList)) sep.data.toList).length ≤ 140737488355328) :
   Calls Tryz.prog 219 #[.slice (some ⟨bk, o, none⟩) xs.length c, .string sep] w fun e w' => e = .returned (.string ⟨(Lib.join (xs.map (·.data.toList)) sep.data.toList).toArray⟩) ∧ Below w.heap.size w w' := Any.strings_Join Tryz.lays156 Tryz.Builder_Extra_156 bk o c xs sep w hcells hbk hN hcap hlen
def Tryz.laysM171_ren : Go.Shelf.Ren := ⟨fun | 171 => 216 | 243 => 237 | 246 => 250 | 283 => 255 | 284 => 256 | 285 => 257 | 286 => 258 | 129 => 262 | 317 => 261 | 318 => 263 | 319 => 264 | 320 => 265 | 337 => 266 | 338 => 267 | n => n, fun | 3 => 3 | 9 => 9 | 2 => 2 | 4 => 4 | 171 => 328 | 0 => 0 | 53 => 229 | 37 => 301 | 5 => 5 | 173 => 331 | 212 => 337 | 51 => 224 | 20 => 20 | 213 => 338 | 46 => 195 | 232 => 341 | 233 => 342 | n => n, fun | 17 => 5 | 18 => 6 | 19 => 7 | n => n⟩
theorem Tryz.laysM171 : Go.Proofs.LaysM.n171 Tryz.prog Tryz.laysM171_ren := {
 mixed := by kernel_rfl
 f129 := Tryz.func262.trans (congrArg some (by kernel_rfl))
 f171 := Tryz.func216.trans (congrArg some (by kernel_rfl))
 f243 := Tryz.func237.trans (congrArg some (by kernel_rfl))
 f246 := Tryz.func250.trans (congrArg some (by kernel_rfl))
 f283 := Tryz.func255.trans (congrArg some (by kernel_rfl))
 f284 := Tryz.func256.trans (congrArg some (by kernel_rfl))
 f285 := Tryz.func257.trans (congrArg some (by kernel_rfl))
 f286 := Tryz.func258.trans (congrArg some (by kernel_rfl))
 f317 := Tryz.func261.trans (congrArg some (by kernel_rfl))
 f318 := Tryz.func263.trans (congrArg some (by kernel_rfl))
 f319 := Tryz.func264.trans (congrArg some (by kernel_rfl))
 f320 := Tryz.func265.trans (congrArg some (by kernel_rfl))
 f337 := Tryz.func266.trans (congrArg some (by kernel_rfl))
 f338 := Tryz.func267.trans (congrArg some (by kernel_rfl))
 t0 := Tryz.underlying0
 a0 := Tryz.isAgg0
 z0 := Tryz.sizeOf0
 v0 := Tryz.zeroValue0
 t2 := Tryz.underlying2
 a2 := Tryz.isAgg2
 z2 := Tryz.sizeOf2
 v2 := Tryz.zeroValue2
 t3 := Tryz.underlying3
 a3 := Tryz.isAgg3
 z3 := Tryz.sizeOf3
 v3 := Tryz.zeroValue3
 t4 := Tryz.underlying4
 a4 := Tryz.isAgg4
 z4 := Tryz.sizeOf4
 v4 := Tryz.zeroValue4
 t5 := Tryz.underlying5
 a5 := Tryz.isAgg5
 z5 := Tryz.sizeOf5
 v5 := Tryz.zeroValue5
 t9 := Tryz.underlying9
 a9 := Tryz.isAgg9
 z9 := Tryz.sizeOf9
 v9 := Tryz.zeroValue9
 t20 := Tryz.underlying20
 a20 := Tryz.isAgg20
 z20 := Tryz.sizeOf20
 v20 := Tryz.zeroValue20
 t37 := Tryz.underlying301
 a37 := Tryz.isAgg301
 z37 := Tryz.sizeOf301
 v37 := Tryz.zeroValue301
 t46 := Tryz.underlying195
 a46 := Tryz.isAgg195
 z46 := Tryz.sizeOf195
 v46 := Tryz.zeroValue195
 t51 := Tryz.underlying224
 a51 := Tryz.isAgg224
 z51 := Tryz.sizeOf224
 v51 := Tryz.zeroValue224
 t53 := Tryz.underlying229
 a53 := Tryz.isAgg229
 z53 := Tryz.sizeOf229
 v53 := Tryz.zeroValue229
 t171 := Tryz.underlying328
 a171 := Tryz.isAgg328
 z171 := Tryz.sizeOf328
 v171 := Tryz.zeroValue328
 t173 := Tryz.underlying331
 a173 := Tryz.isAgg331
 z173 := Tryz.sizeOf331
 v173 := Tryz.zeroValue331
 t212 := Tryz.underlying337
 a212 := Tryz.isAgg337
 z212 := Tryz.sizeOf337
 v212 := Tryz.zeroValue337
 t213 := Tryz.underlying338
 a213 := Tryz.isAgg338
 z213 := Tryz.sizeOf338
 t232 := Tryz.underlying341
 a232 := Tryz.isAgg341
 z232 := Tryz.sizeOf341
 v232 := Tryz.zeroValue341
 t233 := Tryz.underlying342
 a233 := Tryz.isAgg342
 z233 := Tryz.sizeOf342
 v233 := Tryz.zeroValue342
 g17 := by kernel_rfl
 g18 := by kernel_rfl
 g19 := by kernel_rfl
 i0 := by kernel_rfl
 i2 := by kernel_rfl
 i3 := by kernel_rfl
 i4 := by kernel_rfl
 i5 := by kernel_rfl
 i9 := by kernel_rfl
 i20 := by kernel_rfl
 i37 := by kernel_rfl
 i46 := by kernel_rfl
 i51 := by kernel_rfl
 i53 := by kernel_rfl
 i171 := by kernel_rfl
 i173 := by kernel_rfl
 i212 := by kernel_rfl
 i232 := by kernel_rfl
 i233 := by kernel_rfl
 m17 := by kernel_rfl
 m18 := by kernel_rfl
 m19 := by kernel_rfl }
open Go.RowKit Go.Sort Go.Lib in
/-- strconv.Itoa: "Itoa is equivalent to FormatInt(int64(i), 10).": i's DECIMAL NUMERAL ('Lib.itoa': a '-' where i is negative, then the digits), FOR EVERY int. The world behind the call: the world before it, new blocks behind the heap (the library's 'var a [24]byte'), draws. (LAID: no walk: one application.) -/
theorem Tryz.strconv_Itoa (n : Int) (h0 : -9223372036854775808 ≤ n) (h1 : n ≤ 9223372036854775807) (w : World) (htab : Lib.TabIs Tryz.prog w "internal/strconv.uint64pow10" .u64 Lib.pow10Tab) :
   Calls Tryz.prog 216 #[.int .i64 n] w fun e w' => e = .returned (.string ⟨(Lib.itoa n).toArray⟩) ∧ ∃ k os, w' = grow (w.drewN k) os := Any.strconv_Itoa Tryz.laysM171 n h0 h1 w htab
def Tryz.laysPu14_ren : Go.Shelf.Ren := ⟨fun | 14 => 156 | 16 => 202 | 17 => 203 | 19 => 229 | 20 => 230 | 21 => 231 | 22 => 232 | 23 => 233 | 24 => 234 | 25 => 248 | 27 => 216 | 26 => 249 | 28 => 237 | 29 => 250 | 30 => 255 | 31 => 256 | 32 => 257 | 33 => 258 | 35 => 262 | 34 => 261 | 36 => 263 | 37 => 264 | 38 => 265 | 39 => 266 | 40 => 267 | n => n, fun | 9 => 9 | 3 => 3 | 22 => 229 | 24 => 231 | 25 => 232 | 4 => 4 | 34 => 299 | 5 => 5 | 36 => 195 | 37 => 301 | 0 => 0 | 39 => 302 | 21 => 21 | 44 => 316 | 47 => 319 | 50 => 327 | 48 => 325 | 2 => 2 | 52 => 328 | 55 => 331 | 59 => 337 | 60 => 224 | 20 => 20 | 61 => 338 | 65 => 341 | 66 => 342 | 67 => 215 | n => n, fun | 0 => 1 | 1 => 2 | 2 => 5 | 3 => 6 | 4 => 7 | n => n⟩
theorem Tryz.laysPu14 : Go.Proofs.LaysPu.n14 Tryz.prog Tryz.laysPu14_ren := {
 mixed := by kernel_rfl
 f14 := Tryz.func156.trans (congrArg some (by kernel_rfl))
 f16 := Tryz.func202.trans (congrArg some (by kernel_rfl))
 f17 := Tryz.func203.trans (congrArg some (by kernel_rfl))
 f19 := Tryz.func229.trans (congrArg some (by kernel_rfl))
 f20 := Tryz.func230.trans (congrArg some (by kernel_rfl))
 f21 := Tryz.func231.trans (congrArg some (by kernel_rfl))
 f22 := Tryz.func232.trans (congrArg some (by kernel_rfl))
 f23 := Tryz.func233.trans (congrArg some (by kernel_rfl))
 f24 := Tryz.func234.trans (congrArg some (by kernel_rfl))
 f25 := Tryz.func248.trans (congrArg some (by kernel_rfl))
 f26 := Tryz.func249.trans (congrArg some (by kernel_rfl))
 f27 := Tryz.func216.trans (congrArg some (by kernel_rfl))
 f28 := Tryz.func237.trans (congrArg some (by kernel_rfl))
 f29 := Tryz.func250.trans (congrArg some (by kernel_rfl))
 f30 := Tryz.func255.trans (congrArg some (by kernel_rfl))
 f31 := Tryz.func256.trans (congrArg some (by kernel_rfl))
 f32 := Tryz.func257.trans (congrArg some (by kernel_rfl))
 f33 := Tryz.func258.trans (congrArg some (by kernel_rfl))
 f34 := Tryz.func261.trans (congrArg some (by kernel_rfl))
 f35 := Tryz.func262.trans (congrArg some (by kernel_rfl))
 f36 := Tryz.func263.trans (congrArg some (by kernel_rfl))
 f37 := Tryz.func264.trans (congrArg some (by kernel_rfl))
 f38 := Tryz.func265.trans (congrArg some (by kernel_rfl))
 f39 := Tryz.func266.trans (congrArg some (by kernel_rfl))
 f40 := Tryz.func267.trans (congrArg some (by kernel_rfl))
 t0 := Tryz.underlying0
 a0 := Tryz.isAgg0
 z0 := Tryz.sizeOf0
 v0 := Tryz.zeroValue0
 i0 := by kernel_rfl
 t2 := Tryz.underlying2
 a2 := Tryz.isAgg2
 z2 := Tryz.sizeOf2
 v2 := Tryz.zeroValue2
 i2 := by kernel_rfl
 t3 := Tryz.underlying3
 a3 := Tryz.isAgg3
 z3 := Tryz.sizeOf3
 v3 := Tryz.zeroValue3
 i3 := by kernel_rfl
 t4 := Tryz.underlying4
 a4 := Tryz.isAgg4
 z4 := Tryz.sizeOf4
 v4 := Tryz.zeroValue4
 i4 := by kernel_rfl
 t5 := Tryz.underlying5
 a5 := Tryz.isAgg5
 z5 := Tryz.sizeOf5
 v5 := Tryz.zeroValue5
 i5 := by kernel_rfl
 t9 := Tryz.underlying9
 a9 := Tryz.isAgg9
 z9 := Tryz.sizeOf9
 v9 := Tryz.zeroValue9
 i9 := by kernel_rfl
 t20 := Tryz.underlying20
 a20 := Tryz.isAgg20
 z20 := Tryz.sizeOf20
 v20 := Tryz.zeroValue20
 i20 := by kernel_rfl
 t21 := Tryz.underlying21
 a21 := Tryz.isAgg21
 z21 := Tryz.sizeOf21
 v21 := Tryz.zeroValue21
 i21 := by kernel_rfl
 t22 := Tryz.underlying229
 a22 := Tryz.isAgg229
 z22 := Tryz.sizeOf229
 v22 := Tryz.zeroValue229
 i22 := by kernel_rfl
 t24 := Tryz.underlying231
 a24 := Tryz.isAgg231
 z24 := Tryz.sizeOf231
 v24 := Tryz.zeroValue231
 i24 := by kernel_rfl
 t25 := Tryz.underlying232
 a25 := Tryz.isAgg232
 z25 := Tryz.sizeOf232
 v25 := Tryz.zeroValue232
 i25 := by kernel_rfl
 t34 := Tryz.underlying299
 a34 := Tryz.isAgg299
 z34 := Tryz.sizeOf299
 v34 := Tryz.zeroValue299
 i34 := by kernel_rfl
 c34 := by kernel_rfl
 t36 := Tryz.underlying195
 a36 := Tryz.isAgg195
 z36 := Tryz.sizeOf195
 v36 := Tryz.zeroValue195
 i36 := by kernel_rfl
 t37 := Tryz.underlying301
 a37 := Tryz.isAgg301
 z37 := Tryz.sizeOf301
 v37 := Tryz.zeroValue301
 i37 := by kernel_rfl
 t39 := Tryz.underlying302
 a39 := Tryz.isAgg302
 z39 := Tryz.sizeOf302
 v39 := Tryz.zeroValue302
 i39 := by kernel_rfl
 t44 := Tryz.underlying316
 a44 := Tryz.isAgg316
 z44 := Tryz.sizeOf316
 v44 := Tryz.zeroValue316
 i44 := by kernel_rfl
 t47 := Tryz.underlying319
 a47 := Tryz.isAgg319
 z47 := Tryz.sizeOf319
 v47 := Tryz.zeroValue319
 i47 := by kernel_rfl
 t48 := Tryz.underlying325
 a48 := Tryz.isAgg325
 z48 := Tryz.sizeOf325
 v48 := Tryz.zeroValue325
 i48 := by kernel_rfl
 t50 := Tryz.underlying327
 a50 := Tryz.isAgg327
 z50 := Tryz.sizeOf327
 v50 := Tryz.zeroValue327
 i50 := by kernel_rfl
 t52 := Tryz.underlying328
 a52 := Tryz.isAgg328
 z52 := Tryz.sizeOf328
 v52 := Tryz.zeroValue328
 i52 := by kernel_rfl
 t55 := Tryz.underlying331
 a55 := Tryz.isAgg331
 z55 := Tryz.sizeOf331
 v55 := Tryz.zeroValue331
 i55 := by kernel_rfl
 t59 := Tryz.underlying337
 a59 := Tryz.isAgg337
 z59 := Tryz.sizeOf337
 v59 := Tryz.zeroValue337
 i59 := by kernel_rfl
 t60 := Tryz.underlying224
 a60 := Tryz.isAgg224
 z60 := Tryz.sizeOf224
 v60 := Tryz.zeroValue224
 i60 := by kernel_rfl
 t61 := Tryz.underlying338
 a61 := Tryz.isAgg338
 z61 := Tryz.sizeOf338
 t65 := Tryz.underlying341
 a65 := Tryz.isAgg341
 z65 := Tryz.sizeOf341
 v65 := Tryz.zeroValue341
 i65 := by kernel_rfl
 t66 := Tryz.underlying342
 a66 := Tryz.isAgg342
 z66 := Tryz.sizeOf342
 v66 := Tryz.zeroValue342
 i66 := by kernel_rfl
 t67 := Tryz.underlying215
 a67 := Tryz.isAgg215
 z67 := Tryz.sizeOf215
 v67 := Tryz.zeroValue215
 i67 := by kernel_rfl
 g0 := by kernel_rfl
 m0 := by kernel_rfl
 g1 := by kernel_rfl
 m1 := by kernel_rfl
 g2 := by kernel_rfl
 m2 := by kernel_rfl
 g3 := by kernel_rfl
 m3 := by kernel_rfl
 g4 := by kernel_rfl
 m4 := by kernel_rfl }
open Go.RowKit in
/-- strconv.ParseUint(s, 10, 32), AT EVERY STRING THAT SPELLS A uint32 ('Lib.parseUintB 32 s.data.toList = .ok u'): u, AND NO ERROR. (LAID: no walk: one application.) -/
theorem Tryz.strconv_ParseUint_10_at32_ok (s : ByteArray) (hmax : s.size ≤ 9223372036854775806) (u : Nat) (h : Lib.parseUintB 32 s.data.toList = .ok u) (w : World) :
   Calls Tryz.prog 156 #[.string s, .int .i64 10, .int .i64 32] w fun e w' => e = .returned (.tuple #[.int .u64 u, .nilIface]) ∧ (w' = w ∨ w' = Lib.bytesWorld w 5 s) := Any.strconv_ParseUint_10_at32_ok Tryz.laysPu14 s hmax u h w
def Tryz.lays212_ren : Go.Shelf.Ren := ⟨fun | 212 => 139 | 263 => 185 | 264 => 186 | n => n, fun | 46 => 195 | 51 => 224 | 146 => 264 | 53 => 229 | 148 => 266 | n => n, fun | n => n⟩
theorem Tryz.lays212 : Go.Proofs.Lays.n212 Tryz.prog Tryz.lays212_ren := {
 mixed := by kernel_rfl
 f212 := Tryz.func139.trans (congrArg some (by kernel_rfl))
 f263 := Tryz.func185.trans (congrArg some (by kernel_rfl))
 f264 := Tryz.func186.trans (congrArg some (by kernel_rfl))
 t46 := Tryz.underlying195
 a46 := Tryz.isAgg195
 z46 := Tryz.sizeOf195
 v46 := Tryz.zeroValue195
 t51 := Tryz.underlying224
 a51 := Tryz.isAgg224
 z51 := Tryz.sizeOf224
 v51 := Tryz.zeroValue224
 t53 := Tryz.underlying229
 a53 := Tryz.isAgg229
 z53 := Tryz.sizeOf229
 v53 := Tryz.zeroValue229
 t146 := Tryz.underlying264
 a146 := Tryz.isAgg264
 z146 := Tryz.sizeOf264
 v146 := Tryz.zeroValue264
 t148 := Tryz.underlying266
 a148 := Tryz.isAgg266
 z148 := Tryz.sizeOf266
 v148 := Tryz.zeroValue266 }
open Go.RowKit Go.Lib in
/-- math/bits.Mul: "Mul returns the full-width product of x and y": on a machine of 64 bits: Mul64's. (LAID: no walk: one application.) -/
theorem Tryz.bits_Mul (x y : Nat) (hx : x < 18446744073709551616) (hy : y < 18446744073709551616) (w : World) :
   Calls Tryz.prog 139 #[.int .u64 x, .int .u64 y] w fun e w' => e = .returned (.tuple #[.int .u64 ((x * y / 18446744073709551616 : Nat) : Int), .int .u64 ((x * y % 18446744073709551616 : Nat) : Int)]) ∧ w' = w := Any.bits_Mul Tryz.lays212 x y hx hy w
end Go.Proofs
namespace Go.Ax.Bg
open Go.Ax.Tb (zBm)
def dg (c : UInt8) : Bool := decide (48 ≤ c.toNat ∧ c.toNat < 58)
theorem dg_iff {c : UInt8} : dg c = true ↔ zBm c := by
 unfold dg zBm
 simp only [decide_eq_true_eq]
 constructor <;> intro h <;> exact ⟨by omega, by omega⟩
def trR (s : List UInt8) : List UInt8 := (s.reverse.dropWhile dg).reverse
def trL (s : List UInt8) : List UInt8 := s.dropWhile dg
theorem zGa {l m : List UInt8} (h : l.all dg = true) : (l ++ m).dropWhile dg = m.dropWhile dg := by
 induction l with
 | nil => rfl
 | cons x r ih =>
   simp only [List.all_cons, Bool.and_eq_true] at h
   rw [List.cons_append, List.dropWhile_cons_of_pos h.1, ih h.2]
theorem trR_of {s : List UInt8} {k : Nat} (hk : k ≤ s.length) (h : (s.drop k).all dg = true) (h2 : k = 0 ∨ dg (s.getD (k - 1) 0) = false) : trR s = s.take k := by
 unfold trR
 conv => lhs; rw [← List.take_append_drop k s]
 rw [List.reverse_append, zGa (by rw [List.all_reverse]; exact h)]
 rcases h2 with h2 | h2
 · subst h2; rfl
 · rcases Nat.eq_zero_or_pos k with q | q
   · subst q; rfl
   · have e : s.take k = s.take (k - 1) ++ [s.getD (k - 1) 0] := by
       have := zAk s 0 (k - 1) (by omega)
       rwa [show k - 1 + 1 = k by omega] at this
     rw [e, List.reverse_append, List.reverse_singleton, List.singleton_append, List.dropWhile_cons_of_neg (by rw [h2]; decide)]
     simp
theorem trL_of {s : List UInt8} {k : Nat} (h : (s.take k).all dg = true) (h2 : s.length ≤ k ∨ dg (s.getD k 0) = false) : trL s = s.drop k := by
 unfold trL
 conv => lhs; rw [← List.take_append_drop k s]
 rw [zGa h]
 rcases h2 with h2 | h2
 · rw [List.drop_of_length_le h2]; rfl
 · rcases Nat.lt_or_ge k s.length with q | q
   · rw [zBy s 0 k q, List.dropWhile_cons_of_neg (by rw [h2]; decide)]
   · rw [List.drop_of_length_le q]; rfl
theorem zOP {l : List UInt8} : l.dropWhile dg = [] ↔ l.all dg = true := by
 induction l with
 | nil => simp
 | cons x r ih =>
   cases h : dg x with
   | true => rw [List.dropWhile_cons_of_pos h, ih]; simp [h]
   | false => rw [List.dropWhile_cons_of_neg (by rw [h]; decide)]; simp [h]
theorem dw_head {l : List UInt8} {x : UInt8} {r : List UInt8} (h : l.dropWhile dg = x :: r) : dg x = false := by
 induction l with
 | nil => cases h
 | cons y q ih =>
   cases hy : dg y with
   | true => rw [List.dropWhile_cons_of_pos hy] at h; exact ih h
   | false =>
     rw [List.dropWhile_cons_of_neg (by rw [hy]; decide)] at h
     cases h; exact hy
theorem trR_nil {s : List UInt8} : trL (trR s) = [] ↔ s.all dg = true := by
 unfold trL trR
 rw [zOP, List.all_reverse]
 constructor
 · intro h
   cases hq : s.reverse.dropWhile dg with
   | nil => rw [zOP, List.all_reverse] at hq; exact hq
   | cons x r =>
     rw [hq] at h
     have := dw_head hq
     simp [this] at h
 · intro h
   have : s.reverse.dropWhile dg = [] := by rw [zOP, List.all_reverse]; exact h
   rw [this]; rfl
/-- Up to nine digits as a number. -/
theorem parse_go {l : List UInt8} (hd : ∀ c ∈ l, zBm c) : ∀ (a : Nat), zA8 a l ≤ 4294967295 → Lib.parseUintM 4294967295 a l = .ok (zA8 a l) := by
 induction l with
 | nil => intro a _; rfl
 | cons c r ih =>
   intro a h
   have hc := hd c (by simp)
   unfold zBm at hc
   rw [zDI] at h ⊢
   have h1 : a * 10 + (c.toNat - 48) ≤ 4294967295 := by
     refine Nat.le_trans ?_ h
     rw [zGh r]
     have : (a * 10 + (c.toNat - 48)) * 1 ≤ (a * 10 + (c.toNat - 48)) * 10 ^ r.length := Nat.mul_le_mul_left _ (Nat.one_le_pow _ _ (by decide))
     omega
   have i := ih (fun x hx => hd x (by simp [hx])) _ h
   unfold Lib.parseUintM
   rw [if_pos (by omega), if_neg (by omega), if_neg (by omega)]
   exact i
theorem zD5 {l : List UInt8} (h0 : l ≠ []) (hd : ∀ c ∈ l, zBm c) (h9 : l.length ≤ 9) : Lib.parseUintB 32 l = .ok (zA8 0 l) ∧ zA8 0 l < 1000000000 := by
 have hlt := zJc hd
 have hp : 10 ^ l.length ≤ 10 ^ 9 := Nat.pow_le_pow_right (by decide) h9
 have e9 : (10 : Nat) ^ 9 = 1000000000 := by decide
 rw [e9] at hp
 unfold Lib.parseUintB
 rw [if_neg h0]
 have e32 : (2 : Nat) ^ 32 - 1 = 4294967295 := by decide
 rw [e32]
 exact ⟨parse_go hd 0 (by omega), by omega⟩
theorem zLs : ∀ (ls : List (List UInt8)), Lib.join ls [] = ls.flatten
 | [] => rfl
 | x :: r => by
   rw [Lib.join_cons, List.flatten_cons]
   congr 1
   unfold Lib.joinTail
   congr 1
   simp
end Go.Ax.Bg
namespace Go.Proofs.YtnkealfaldjipaaGreatDoor
open Go.Ax Go.Ax.Bg Go.RowKit
set_option maxRecDepth 100000
set_option maxHeartbeats 4000000
theorem zNH (w : World) (q : Nat) (os : Array Obj) : Below w.heap.size w (Go.Sort.grow (w.drewN q) os) := by
 refine ⟨Y, Y, Y, ?_, fun k hk => ?_⟩
 · show w.heap.size ≤ (w.heap ++ os).size
   simp
 · show (w.heap ++ os)[k]? = w.heap[k]?
   rw [Array.getElem?_append_left hk]
theorem vals1 {w : World} {S : Nat → Prop} {σ : Nat → Option Blk} {a : AV} {vals : Array Value} (hv : VRs w S σ [a] vals) : ∃ x, vals = #[x] ∧ VR w S σ a x := by
 obtain ⟨h1, h2⟩ := hv
 have q := h2 0 (by simp)
 have hl : vals.toList.length = 1 := by simpa using h1
 match hq : vals.toList, hl with
 | [x], _ =>
   have e : vals = #[x] := by rw [← Array.toArray_toList (xs := vals), hq]
   subst e
   exact ⟨x, Y, by simpa using q⟩
theorem vals2 {w : World} {S : Nat → Prop} {σ : Nat → Option Blk} {a b : AV} {vals : Array Value} (hv : VRs w S σ [a, b] vals) : ∃ x y, vals = #[x, y] ∧ VR w S σ a x ∧ VR w S σ b y := by
 obtain ⟨h1, h2⟩ := hv
 have q := h2 0 (by simp)
 have q1 := h2 1 (by simp)
 have hl : vals.toList.length = 2 := by simpa using h1
 match hq : vals.toList, hl with
 | [x, y], _ =>
   have e : vals = #[x, y] := by rw [← Array.toArray_toList (xs := vals), hq]
   subst e
   exact ⟨x, y, Y, by simpa using q, by simpa using q1⟩
theorem vals3 {w : World} {S : Nat → Prop} {σ : Nat → Option Blk} {a b c : AV} {vals : Array Value} (hv : VRs w S σ [a, b, c] vals) : ∃ x y z, vals = #[x, y, z] ∧ VR w S σ a x ∧ VR w S σ b y ∧ VR w S σ c z := by
 obtain ⟨h1, h2⟩ := hv
 have q := h2 0 (by simp)
 have q1 := h2 1 (by simp)
 have q2 := h2 2 (by simp)
 have hl : vals.toList.length = 3 := by simpa using h1
 match hq : vals.toList, hl with
 | [x, y, z], _ =>
   have e : vals = #[x, y, z] := by rw [← Array.toArray_toList (xs := vals), hq]
   subst e
   exact ⟨x, y, z, Y, by simpa using q, by simpa using q1, by simpa using q2⟩
theorem itoa (n : Int) (h : -9223372036854775808 ≤ n ∧ n ≤ 9223372036854775807) : zW Tryz.prog 216 [.int .i64 n] (.str (Lib.itoa n)) := by
 refine zW.of_below ⟨Tryz.f216, Y, by kernel_rfl, Y⟩ Y Y (fun w S vals hG hS hv => ?_)
 obtain ⟨x, rfl, a⟩ := vals1 hv
 have hx : x = .int .i64 n := by cases a; rfl
 subst hx
 have hp : pinG w := hG
 refine (Tryz.strconv_Itoa n h.1 h.2 w hp.2.1).mono ?_
 rintro e w' ⟨rfl, k, os, rfl⟩
 exact ⟨_, Y, zNH w k os, .str _ _⟩
theorem itoaN (n : Nat) (h : n ≤ 9223372036854775807) : zW Tryz.prog 216 [.int .i64 (n : Nat)] (.str (Lib.decDigits n)) := by
 have := itoa n ⟨by omega, by omega⟩
 rwa [Go.Ax.Tb.itoa_nat] at this
theorem mulB (a b : Nat) (ha : a < 18446744073709551616) (hb : b < 18446744073709551616) : zW Tryz.prog 139 [.int .u64 (a : Nat), .int .u64 (b : Nat)] (.tup [.int .u64 (a * b / 18446744073709551616 : Nat), .int .u64 (a * b % 18446744073709551616 : Nat)]) := by
 refine zW.of_below ⟨Tryz.f139, Y, by kernel_rfl, Y⟩ Y Y (fun w S vals hG hS hv => ?_)
 obtain ⟨x, y, rfl, p, q⟩ := vals2 hv
 have hx : x = .int .u64 (a : Nat) := by cases p; rfl
 have hy : y = .int .u64 (b : Nat) := by cases q; rfl
 subst hx hy
 refine (Tryz.bits_Mul a b ha hb w).mono ?_
 rintro e w' ⟨rfl, rfl⟩
 refine ⟨_, Y, Below.refl _ _, .tup _ _ _ Y (fun i hi => ?_)⟩
 match i, hi with
 | 0, _ => exact .int _ _ _
 | 1, _ => exact .int _ _ _
theorem parse32 (s : List UInt8) (u : Nat) (hl : s.length ≤ 1000) (h : Lib.parseUintB 32 s = .ok u) : zW Tryz.prog 156 [.str s, .int .i64 10, .int .i64 32] (.tup [.int .u64 (u : Nat), .nilif]) := by
 refine zW.of_below ⟨Tryz.f156, Y, by kernel_rfl, Y⟩ Y Y (fun w S vals hG hS hv => ?_)
 obtain ⟨x, y, z, rfl, p, q, r⟩ := vals3 hv
 have hx : x = zHO s := by cases p; rfl
 have hy : y = .int .i64 10 := by cases q; rfl
 have hz : z = .int .i64 32 := by cases r; rfl
 subst hx hy hz
 have hd : (⟨s.toArray⟩ : ByteArray).data.toList = s := by simp
 have hsz : (⟨s.toArray⟩ : ByteArray).size = s.length := by simp [ByteArray.size]
 refine (Tryz.strconv_ParseUint_10_at32_ok ⟨s.toArray⟩ (by rw [hsz]; omega) u (by rw [hd]; exact h) w).mono ?_
 rintro e w' ⟨rfl, hw⟩
 refine ⟨_, Y, ?_, .tup _ _ _ Y (fun i hi => ?_)⟩
 · rcases hw with rfl | rfl
   · exact Below.refl _ _
   · exact Lib.bytesWorld_below _ _ _
 · match i, hi with
   | 0, _ => exact .int _ _ _
   | 1, _ => exact .nilif _
theorem join (ls : List (List UInt8)) (sep : List UInt8) (hN : ls.length ≤ 140737488355328) (hj : (Lib.join ls sep).length ≤ 140737488355328) : zW Tryz.prog 219 [.ro (.strs ls) 0 ls.length, .str sep] (.str (Lib.join ls sep)) := by
 refine zW.of_below ⟨Tryz.f219, Y, by kernel_rfl, Y⟩ Y Y (fun w S vals hG hS hv => ?_)
 obtain ⟨x, y, rfl, a, b⟩ := vals2 hv
 have hy : y = zHO sep := by cases b; rfl
 subst hy
 have hsep : (⟨sep.toArray⟩ : ByteArray).data.toList = sep := by simp
 have hbyte : ∀ l : List UInt8, (⟨l.toArray⟩ : ByteArray).data.toList = l := fun l => by simp
 generalize hn : ls.length = n at a
 cases a with
 | ro0 _ _ _ ad cap =>
   have : ls = [] := List.length_eq_zero_iff.mp hn
   subst this
   refine (Tryz.strings_Join_none ad cap ⟨sep.toArray⟩ w).mono ?_
   rintro e w' ⟨rfl, rfl⟩
   exact ⟨_, Y, Below.refl _ _, .str _ []⟩
 | ro _ _ _ _ bk o cap val hSb hlen hc hvv h1' =>
   subst hn
   have hxs : (ls.map (fun l => (⟨l.toArray⟩ : ByteArray))).length = ls.length := by simp
   have c := Tryz.strings_Join bk o cap (ls.map (fun l => (⟨l.toArray⟩ : ByteArray))) ⟨sep.toArray⟩ w (fun j x hx => ?_) (hS _ hSb) (by simpa using hN) (by simpa using hlen) ?_
   · rw [hxs] at c
     refine c.mono ?_
     rintro e w' ⟨rfl, hb⟩
     have e2 : ((ls.map (fun l => (⟨l.toArray⟩ : ByteArray))).map (fun x => x.data.toList)) = ls := by rw [List.map_map]; exact (List.map_congr_left (fun x _ => rfl)).trans (List.map_id _)
     rw [e2, hsep]
     exact ⟨_, Y, hb, .str _ _⟩
   · simp only [List.getElem?_map, Option.map_eq_some_iff] at hx
     obtain ⟨l, hl, rfl⟩ := hx
     have hlt : j < ls.length := (List.getElem?_eq_some_iff.1 hl).1
     have q := hc j 0 hlt (by simp [Cells.sz])
     have v := hvv j 0 hlt (by simp [Cells.sz])
     simp only [Cells.sz, Nat.mul_one, Nat.add_zero] at q
     simp only [Cells.at, Nat.zero_add, List.getD, hl, Option.getD_some] at v
     rw [q]
     generalize val j 0 = z at v
     cases v; rfl
   · have e2 : ((ls.map (fun l => (⟨l.toArray⟩ : ByteArray))).map (fun x => x.data.toList)) = ls := by rw [List.map_map]; exact (List.map_congr_left (fun x _ => rfl)).trans (List.map_id _)
     rw [e2, hsep]; exact hj
end Go.Proofs.YtnkealfaldjipaaGreatDoor
namespace Go.Proofs.YtnkealfaldjipaaGreatDoor
open Go.Ax Go.Ax.Bg Go.RowKit
attribute [local irreducible] Ax zBG QOp zV
set_option maxRecDepth 100000
set_option maxHeartbeats 4000000
def zII (s p : List UInt8) : Bool := decide (p.length ≤ s.length ∧ s.take p.length = p)
theorem zP1 (s p : List UInt8) (hs : s.length ≤ 9223372036854775807) (hp : p.length ≤ 9223372036854775807) : zW Tryz.prog 187 [.str s, .str p] (.bool (zII s p)) := by
 refine zV.value0 (zG (P := Tryz.prog) (fn := Tryz.f187) Y Y (by kernel_rfl) Y (fun c hR hfix => ?_)) (fix := fun _ => False) (fun _ h => h) Y Y
 repeat (first | refine zD (zH rfl) ?_ | refine zD (zL rfl) ?_ | refine zC ?_ | refine zA ?_ | refine zX ?_ | refine zK rfl ?_ | refine zD (zCk rfl rfl) ?_ | refine zD (zCY rfl rfl) ?_)
 refine zAF Y Y (fun h0 => ?_) (fun h0 => ?_)
 · repeat (first | refine zD (zH rfl) ?_ | refine zD (zL rfl) ?_ | refine zC ?_ | refine zA ?_ | refine zAL rfl rfl ?_ | refine zAS ?_ | refine zD (zAg rfl rfl) ?_ | refine zD (zCY rfl rfl) ?_ | refine zD (zFW rfl rfl) ?_ | refine zD (zCr rfl rfl rfl rfl rfl rfl (by omega)) ?_)
   refine zI hR Y ?_
   show AV.bool (decide ((List.drop _ s).take _ = p)) = _
   unfold zII
   congr 1
   rw [decide_eq_decide]
   simp only [Int.toNat_zero, List.drop_zero, Int.toNat_natCast, Nat.sub_zero]
   exact ⟨fun h => ⟨by omega, h⟩, fun h => h.2⟩
 · refine rn6 ?_
   refine zI hR Y ?_
   show AV.bool false = _
   unfold zII
   rw [decide_eq_false]
   exact fun h => h0 (by omega)
theorem zJn (s p : List UInt8) (hs : s.length ≤ 9223372036854775807) (hp : p.length ≤ 9223372036854775807) : zW Tryz.prog 143 [.str s, .str p] (.bool (zII s p)) := by
 have hc := zP1 s p hs hp
 refine zV.value0 (zG (P := Tryz.prog) (fn := Tryz.f143) Y Y (by kernel_rfl) Y (fun c hR hfix => ?_)) (fix := fun _ => False) (fun _ h => h) Y Y
 generalize zII s p = b at *
 refine rn0 ?_
 refine zB Y Y Y hc ?_
 refine rn0 ?_
 exact zI hR Y Y
/-- strings.Repeat("0", n), n small. -/
theorem repeat0 (n : Nat) (hn : n ≤ 60) : zW Tryz.prog 217 [.str [48], .int .i64 (n : Nat)] (.str (List.replicate n 48)) := by
 refine zV.value0 (zG (P := Tryz.prog) (fn := Tryz.f217) Y Y (by kernel_rfl) Y (fun c hR hfix => ?_)) (fix := fun _ => False) (fun _ h => h) Y Y
 refine rn4 ?_
 refine zE Y (fun h0 => ?_) (fun h0 => ?_)
 · have : n = 0 := by omega
   subst this
   refine rn6 ?_
   exact zI hR Y Y
 refine rn4 ?_
 refine zE Y (fun h1 => ?_) (fun h1 => ?_)
 · have : n = 1 := by omega
   subst this
   refine rn6 ?_
   exact zI hR Y Y
 refine rn6 ?_
 have hm := mulB 1 n (by omega) (by omega)
 rw [Nat.one_mul, Nat.div_eq_of_lt (by omega), Nat.mod_eq_of_lt (by omega)] at hm
 have p1 : zW Tryz.prog 143 [.str (List.replicate 128 32), .str [48]] (.bool false) := zJn _ _ (by decide) (by decide)
 have p2 : zW Tryz.prog 143 [.str (List.replicate 128 45), .str [48]] (.bool false) := zJn _ _ (by decide) (by decide)
 have p3 : zW Tryz.prog 143 [.str (List.replicate 64 48), .str [48]] (.bool true) := zJn _ _ (by decide) (by decide)
 refine zD (zAb (m := 1) Y Y Y zBO (by decide)) ?_
 repeat (refine zD (zH rfl) ?_)
 refine zD (zAb (m := n) Y Y Y zBO (by omega)) ?_
 refine zB Y Y Y hm ?_
 refine rn6 ?_
 refine zE Y (fun h => absurd h (by omega)) (fun h => ?_)
 refine rn1 ?_
 refine zD (zEn (m := n) Y Y Y (by omega)) ?_
 repeat (first | refine zD (zH rfl) ?_ | refine zD (zL rfl) ?_ | refine zC ?_ | refine zA ?_ | refine zX ?_ | refine zK rfl ?_ | refine zAX rfl ?_ | refine z6 rfl ?_ | refine zx ?_ | refine zl ?_ | refine zD (zEf rfl rfl) ?_ | refine zD (zKV rfl rfl) ?_ | refine zD (zCY rfl rfl) ?_ | refine zD (zFb rfl rfl rfl (by first | assumption | omega | simp)) ?_)
 refine zAF Y Y (fun h3 => ?_) (fun h3 => absurd (show (n : Int) ≤ 128 by omega) h3)
 refine rn2 ?_
 refine zB Y Y Y p1 ?_
 repeat (first | refine zD (zH rfl) ?_ | refine zD (zL rfl) ?_ | refine zC ?_ | refine zA ?_ | refine zX ?_ | refine zK rfl ?_ | refine z6 rfl ?_ | refine zD (zKV rfl rfl) ?_ | refine zD (zAg rfl rfl) ?_)
 refine zAF Y Y (fun h4 => ?_) (fun h4 => absurd (show (n : Int) ≤ 128 by omega) h4)
 refine rn2 ?_
 refine zB Y Y Y p2 ?_
 repeat (first | refine zD (zH rfl) ?_ | refine zD (zL rfl) ?_ | refine zC ?_ | refine zA ?_ | refine zX ?_ | refine zK rfl ?_ | refine z6 rfl ?_ | refine zD (zKV rfl rfl) ?_ | refine zD (zAg rfl rfl) ?_)
 refine zAF Y Y (fun h5 => ?_) (fun h5 => absurd (show (n : Int) ≤ 64 by omega) h5)
 refine rn2 ?_
 refine zB Y Y Y p3 ?_
 refine rn5 ?_
 refine zD (zCr Y Y Y Y Y Y (by show (0 : Int) ≤ 0 ∧ (0 : Int) ≤ (n : Nat) ∧ ((n : Nat) : Int) ≤ ((64 : Nat) : Int); omega)) ?_
 refine rn6 ?_
 refine zI hR Y ?_
 show AV.str ((List.drop 0 (List.replicate 64 48)).take (n - 0)) = _
 rw [List.drop_zero, Nat.sub_zero, List.take_replicate, Nat.min_eq_left (by omega)]
/-- strings.asciiSet: the digits. -/
def zEC (k : Nat) : List AV := (List.range 256).map fun j => AV.bool (decide (48 ≤ j ∧ j < 48 + k))
theorem zCd (k : Nat) : (zEC k).length = 256 := by unfold zEC; simp
theorem zJf (k j : Nat) (hj : j < 256) : (zEC k)[j]? = some (AV.bool (decide (48 ≤ j ∧ j < 48 + k))) := by
 unfold zEC
 rw [List.getElem?_map, List.getElem?_range hj]; rfl
theorem setL_set (k : Nat) (hk : k < 10) : (zEC k).set (48 + k) (.bool true) = zEC (k + 1) := by
 apply List.ext_getElem?
 intro i
 rcases Nat.lt_or_ge i 256 with hi | hi
 · rw [zJf (k + 1) i hi]
   by_cases h : i = 48 + k
   · subst h
     rw [List.getElem?_set_self (by rw [zCd]; exact hi)]
     congr 2
     exact (decide_eq_true (by omega)).symm
   · rw [List.getElem?_set_ne (Ne.symm h), zJf k i hi]
     congr 2
     rw [decide_eq_decide]; omega
 · rw [List.getElem?_eq_none (by rw [List.length_set, zCd]; exact hi), List.getElem?_eq_none (by rw [zCd]; exact hi)]
def digS : List UInt8 := [48, 49, 50, 51, 52, 53, 54, 55, 56, 57]
theorem zPf (k : Nat) (hk : k < 10) : (digS.getD k 0).toNat = 48 + k := by
 have : k = 0 ∨ k = 1 ∨ k = 2 ∨ k = 3 ∨ k = 4 ∨ k = 5 ∨ k = 6 ∨ k = 7 ∨ k = 8 ∨ k = 9 := by omega
 rcases this with rfl | rfl | rfl | rfl | rfl | rfl | rfl | rfl | rfl | rfl <;> rfl
theorem box_all (l : List AV) : (List.range (Cells.box l).sz).map ((Cells.box l).at 0) = l := by
 apply List.ext_getElem?
 intro i
 rcases Nat.lt_or_ge i l.length with h | h
 · rw [List.getElem?_map, List.getElem?_range (by exact h)]
   show some (l.getD i .any) = _
   rw [List.getD, List.getElem?_eq_getElem h]; rfl
 · rw [List.getElem?_eq_none (by simpa [Cells.sz] using h), List.getElem?_eq_none h]
theorem set_ok : zW Tryz.prog 197 [.str digS] (.tup [.agg (zEC 10), .bool true]) := by
 refine zV.value0 (zG (P := Tryz.prog) (fn := Tryz.f197) Y Y (by kernel_rfl) Y (fun c hR hfix => ?_)) (fix := fun _ => False) (fun _ h => h) Y (by kernel_rfl)
 refine rn4 ?_
 refine zBQ [some ⟨273, .box (zEC 0)⟩] (by kernel_rfl) ?_
 refine zi (ι := Nat) (fun k => [(0, .str digS), (2, .ptr 0 0 0), (4, .int .i64 (k : Nat))]) (fun k => [some ⟨273, .box (zEC k)⟩]) (fun k => k ≤ 10) (fun k => 10 - k) 0 ⟨⟨Y, Y, Y, trivial⟩, Y, by omega⟩ ?_
 rintro k hk
 have hdl : digS.length = 10 := rfl
 refine rn6 ?_
 refine zE Y (fun h1 => ?_) (fun h1 => ?_)
 · have hk2 : k < 10 := by omega
   repeat (first | refine zD (zH rfl) ?_ | refine zD (zL rfl) ?_ | refine zC ?_ | refine zA ?_ | refine zX ?_ | refine zK rfl ?_ | refine zx ?_ | refine zl ?_ | refine zD (zCk rfl rfl) ?_ | refine zD (zFb rfl rfl rfl (by first | assumption | omega | simp)) ?_)
   refine zE Y (fun h2 => absurd h2 (by rw [Int.toNat_natCast, zPf k hk2]; omega)) (fun h2 => ?_)
   refine rn1 ?_
   refine zN 18 (.int .u8 (48 + k : Nat)) Y (AEq.of_eq (by rw [Int.toNat_natCast, zPf k hk2])) ?_
   refine zD (zMf (m := ((48 + k : Nat) : Int)) (jx := 48 + k) Y Y Y Y (by rw [Int.toNat_natCast, Nat.zero_add]) (by omega)) ?_
   refine zAp Y Y Y Y Y (by rw [show (Cells.box (zEC k)).sz = 256 from zCd k]; exact Nat.ble_eq.symm ▸ (by omega : 48 + k + 1 ≤ 256)) Y Nat.zero_lt_one ?_
   refine rn5 ?_
   refine zM ⟨k + 1, by omega, by omega, ⟨Y, Y, Y, trivial⟩, ?_⟩
   show ([some ⟨_, .box ((zEC k).set (48 + k) (.bool true))⟩] : zZ) = _
   rw [setL_set k hk2]
 · have hke : k = 10 := by omega
   subst hke
   refine rn5 ?_
   refine zD (zLG (ob := ⟨273, .box (zEC 10)⟩) Y Y Y (zCd 10).symm Y Y (box_all _) Nat.zero_lt_one) ?_
   refine zO (c' := .box (zEC 10)) Y Y (by rw [show (Cells.box (zEC 10)).sz = 256 from zCd 10]; rfl) Y (by rw [show (Cells.box (zEC 10)).sz = 256 from zCd 10]; exact zCd 10) Nat.zero_lt_one Y Y (fun i' j' hi' hj' => ?_) ?_
   · rw [if_pos (Nat.lt_one_iff.1 hi')]; rfl
   refine rn0 ?_
   exact zI hR Y Y
theorem zJV (ch : UInt8) : zW Tryz.prog 225 [.rp (.box (zEC 10)) 0 0, .int .u8 (ch.toNat : Nat)] (.bool (dg ch)) := by
 have hlt := ch.toNat_lt
 have hat := zJf 10 ch.toNat (by simpa using hlt)
 refine zV.value0 (zG (P := Tryz.prog) (fn := Tryz.f225) Y Y (by kernel_rfl) Y (fun c hR hfix => ?_)) (fix := fun _ => False) (fun _ h => h) Y Y
 repeat (first | refine zD (zH rfl) ?_ | refine zD (zL rfl) ?_ | refine zC ?_ | refine zA ?_ | refine zX ?_ | refine zK rfl ?_ | refine zD (zB7 rfl) ?_)
 refine zD (zGe (m := ((ch.toNat : Nat) : Int)) (jx := ch.toNat) Y Y Y Y (by rw [Int.toNat_natCast, Nat.zero_add]) (by omega)) ?_
 refine zD (zAh Y Y Y hat) ?_
 refine rn0 ?_
 exact zI hR Y Y
theorem right_ok (s : List UInt8) (hs : s.length ≤ 9223372036854775807) : zW Tryz.prog 199 [.str s, .rp (.box (zEC 10)) 0 0] (.str (trR s)) := by
 refine zV.value0 (zG (P := Tryz.prog) (fn := Tryz.f199) Y Y (by kernel_rfl) Y (fun c hR hfix => ?_)) (fix := fun _ => False) (fun _ h => h) Y Y
 refine rn1 ?_
 refine zi (ι := Nat) (fun k => [(0, .str (s.take k)), (1, .rp (.box (zEC 10)) 0 0)]) (fun _ => []) (fun k => k ≤ s.length ∧ (s.drop k).all dg = true) (fun k => k) s.length ⟨⟨by rw [List.take_length]; rfl, Y, trivial⟩, Y, Nat.le_refl _, by simp⟩ ?_
 rintro k ⟨hk, hd⟩
 have hlen : (s.take k).length = k := by simp; omega
 have hof := trR_of hk hd
 refine rn6 ?_
 refine zE Y (fun h1 => ?_) (fun h1 => ?_)
 · have hk1 : 0 < k := by omega
   have hg : (s.take k).getD (k - 1) 0 = s.getD (k - 1) 0 := by
     simp only [List.getD, List.getElem?_take, show k - 1 < k by omega, if_true]
   have e1 : ((k : Int) - 1).toNat = k - 1 := by omega
   have hc := zJV (s.getD (k - 1) 0)
   repeat (first | refine zD (zH rfl) ?_ | refine zA ?_ | refine zX ?_ | refine zK rfl ?_ | refine zx ?_ | refine zl ?_ | refine zD (zCY rfl rfl) ?_ | refine zD (zBo rfl rfl (by omega)) ?_ | refine zD (zFb rfl rfl rfl (by first | assumption | omega | simp)) ?_)
   refine zN 13 (.int .u8 ((s.getD (k - 1) 0).toNat : Nat)) Y (AEq.of_eq (by rw [hlen, e1, hg])) ?_
   refine zB Y Y Y hc ?_
   refine rn5 ?_
   refine zC9 Y (fun h2 => ?_) (fun h2 => ?_)
   · have h3 : dg (s.getD (k - 1) 0) = false := by simpa using h2
     repeat (first | refine zD (zH rfl) ?_ | refine zD (zL rfl) ?_ | refine zC ?_ | refine zA ?_ | refine zX ?_ | refine zK rfl ?_ | refine zAm ?_ | refine zr ?_ | refine zq ?_ | refine zAD ?_ | refine zKM rfl ?_ | refine zAS ?_)
     refine zI hR Y ?_
     rw [hof (.inr h3)]; rfl
   · have h3 : dg (s.getD (k - 1) 0) = true := by simpa using h2
     repeat (first | refine zD (zH rfl) ?_ | refine zA ?_ | refine zK rfl ?_ | refine zl ?_ | refine zD (zCY rfl rfl) ?_ | refine zD (zBo rfl rfl (by omega)) ?_)
     refine zD (zCr Y Y Y Y Y Y (by omega)) ?_
     refine rn5 ?_
     refine zM ⟨k - 1, ⟨by omega, ?_⟩, by omega, ⟨?_, Y, trivial⟩, Y⟩
     · rw [zBy s 0 (k - 1) (by omega), show k - 1 + 1 = k by omega, List.all_cons, h3, hd]; rfl
     · show some (AV.str ((List.drop 0 (s.take k)).take ((((s.take k).length : Int) - 1).toNat - 0))) = _
       rw [List.drop_zero, hlen, e1, Nat.sub_zero, List.take_take, Nat.min_eq_left (by omega)]
 · have hk0 : k = 0 := by omega
   subst hk0
   refine rn5 ?_
   refine zI hR Y ?_
   rw [hof (.inl rfl)]; rfl
theorem left_ok (s : List UInt8) (hs : s.length ≤ 9223372036854775807) : zW Tryz.prog 198 [.str s, .rp (.box (zEC 10)) 0 0] (.str (trL s)) := by
 refine zV.value0 (zG (P := Tryz.prog) (fn := Tryz.f198) Y Y (by kernel_rfl) Y (fun c hR hfix => ?_)) (fix := fun _ => False) (fun _ h => h) Y Y
 refine rn1 ?_
 refine zi (ι := Nat) (fun k => [(0, .str (s.drop k)), (1, .rp (.box (zEC 10)) 0 0)]) (fun _ => []) (fun k => k ≤ s.length ∧ (s.take k).all dg = true) (fun k => s.length - k) 0 ⟨⟨by rw [List.drop_zero]; rfl, Y, trivial⟩, Y, Nat.zero_le _, by simp⟩ ?_
 rintro k ⟨hk, hd⟩
 have hlen : (s.drop k).length = s.length - k := by simp
 have hof := trL_of hd
 refine rn6 ?_
 refine zE Y (fun h1 => ?_) (fun h1 => ?_)
 · have hk1 : k < s.length := by omega
   have hg : (s.drop k).getD 0 0 = s.getD k 0 := by simp [List.getD]
   have hc := zJV (s.getD k 0)
   repeat (first | refine zD (zH rfl) ?_ | refine zA ?_ | refine zX ?_ | refine zK rfl ?_ | refine zx ?_ | refine zl ?_ | refine zD (zFb rfl rfl rfl (by first | assumption | omega | simp)) ?_)
   refine zN 10 (.int .u8 ((s.getD k 0).toNat : Nat)) Y (AEq.of_eq (by rw [Int.toNat_zero, hg])) ?_
   refine zB Y Y Y hc ?_
   refine rn5 ?_
   refine zC9 Y (fun h2 => ?_) (fun h2 => ?_)
   · have h3 : dg (s.getD k 0) = false := by simpa using h2
     repeat (first | refine zD (zH rfl) ?_ | refine zD (zL rfl) ?_ | refine zC ?_ | refine zA ?_ | refine zX ?_ | refine zK rfl ?_ | refine zAm ?_ | refine zr ?_ | refine zq ?_ | refine zAD ?_ | refine zKM rfl ?_ | refine zAS ?_)
     refine zI hR Y ?_
     rw [hof (.inr h3)]; rfl
   · have h3 : dg (s.getD k 0) = true := by simpa using h2
     refine rn1 ?_
     refine zD (zCr Y Y Y Y Y Y (by omega)) ?_
     refine rn5 ?_
     refine zM ⟨k + 1, ⟨by omega, ?_⟩, by omega, ⟨?_, Y, trivial⟩, Y⟩
     · rw [zAk s 0 k hk1, List.all_append, hd]; simp only [List.all_cons, List.all_nil, h3, Bool.and_true]
     · show some (AV.str ((List.drop 1 (s.drop k)).take ((s.drop k).length - 1))) = _
       rw [List.drop_drop, List.take_of_length_le (by simp; omega)]
 · have hk0 : s.length ≤ k := by omega
   refine rn5 ?_
   refine zI hR Y ?_
   rw [hof (.inl hk0)]; rfl
theorem trim_ok (s : List UInt8) (hs : s.length ≤ 9223372036854775807) : zW Tryz.prog 155 [.str s, .str digS] (.str (trL (trR s))) := by
 have h1 := set_ok
 have h2 := right_ok s hs
 have hle : (trR s).length ≤ s.length := by
   unfold trR
   rw [List.length_reverse]
   have := (List.dropWhile_sublist (p := dg) (l := s.reverse)).length_le
   simpa using this
 have h3 := left_ok (trR s) (by omega)
 refine zV.value0 (zG (P := Tryz.prog) (fn := Tryz.f155) Y Y (by kernel_rfl) Y (fun c hR hfix => ?_)) (fix := fun _ => False) (fun _ h => h) Y Y
 have hl := zCd 10
 refine rn6 ?_
 by_cases h0 : s = []
 · subst h0
   refine rn6 ?_
   exact zI hR Y Y
 rw [show decide (s = _) = false from decide_eq_false h0]
 refine rn6 ?_
 refine zB Y Y Y h1 ?_
 refine rn4 ?_
 refine zO (c' := .box (zEC 10)) Y Y Y Y (zCd 10) Nat.zero_lt_one Y (zCd 10) (fun i' j' hi' hj' => ?_) ?_
 · rw [if_pos (Nat.lt_one_iff.1 hi')]; rfl
 refine rn5 ?_
 have hrl : ∀ (h : Nat) (o : AObj), ([some ⟨273, .box (zEC 10)⟩] : zZ)[h]? = some (some o) → zAC o.c := zGX (fun i j hi hj => by
   show noRef ((zEC 10).getD j .any) = true
   rw [List.getD, zJf 10 j (by have : j < (zEC 10).length := hj; rwa [zCd] at this)]; rfl)
 refine zAd [some ⟨273, .box (zEC 10)⟩] Y ?_
 refine zGU rfl rfl rfl rfl h2 hrl ⟨trivial, fun o ho => by simp at ho; subst ho; exact Nat.zero_lt_one, trivial⟩ rfl rfl rfl ?_
 skip
 refine zGU rfl rfl rfl rfl h3 hrl ⟨trivial, fun o ho => by simp at ho; subst ho; exact Nat.zero_lt_one, trivial⟩ rfl rfl rfl ?_
 refine rn2 ?_
 exact zI hR Y Y
end Go.Proofs.YtnkealfaldjipaaGreatDoor
namespace Go.Proofs.YtnkealfaldjipaaGreatDoor
open Go.Ax Go.Ax.Bg Go.RowKit
open Go.Ax.Tb (zBm zD7 zB1 zCf)
attribute [local irreducible] Ax zBG QOp zV
set_option maxRecDepth 100000
set_option maxHeartbeats 4000000
theorem zPc {i : Nat} (h : i ≤ 9) : 10 ^ i ≤ 1000000000 := by
 have := Nat.pow_le_pow_right (show 0 < 10 by decide) h
 exact Nat.le_trans this (by decide)
theorem zJe (S : List UInt8) (hd : ∀ c ∈ S, zBm c) (hl : S.length ≤ 1000000) : zW Tryz.prog 95 [.str S] (zAO (zA8 0 S)) := by
 refine zV.value0 (zG (P := Tryz.prog) (fn := Tryz.f95) Y Y (by kernel_rfl) Y (fun c hR hfix => ?_)) (fix := fun _ => False) (fun _ h => h) Y Y
 refine rn0 ?_
 refine z7 3 (zAO 0) Y AEq.natNil ?_
 refine zx ?_
 refine zi (ι := Nat × List UInt8) (fun p => [(0, .str p.2), (3, zAO p.1)]) (fun _ => []) (fun p => p.2.length ≤ S.length ∧ (∀ c ∈ p.2, zBm c) ∧ zA8 p.1 p.2 = zA8 0 S ∧ p.1 < 10 ^ (S.length - p.2.length)) (fun p => p.2.length) (0, S) ⟨⟨Y, Y, trivial⟩, Y, Nat.le_refl _, hd, Y, by simp⟩ ?_
 rintro ⟨v, s⟩ ⟨h1, h2, h3, h4⟩
 simp only at *
 refine rn6 ?_
 refine zE Y (fun h5 => ?_) (fun h5 => ?_)
 · have hs0 : s ≠ [] := by rintro rfl; simp at h5
   obtain ⟨k, hk, hk1, hk9, hks⟩ : ∃ k : Nat, (if (9 : Int) < (s.length : Nat) then (9 : Int) else (s.length : Nat)) = (k : Int) ∧ 1 ≤ k ∧ k ≤ 9 ∧ k ≤ s.length := by
     have : 0 < s.length := List.length_pos_iff.2 hs0
     by_cases hz : (9 : Int) < (s.length : Nat)
     · exact ⟨9, by rw [if_pos hz]; rfl, by omega, by omega, by omega⟩
     · exact ⟨s.length, by rw [if_neg hz], by omega, by omega, Nat.le_refl _⟩
   have ht0 : s.take k ≠ [] := by
     intro e
     have := congrArg List.length e
     rw [List.length_take, Nat.min_eq_left hks] at this
     simp at this; omega
   have htl : (s.take k).length = k := by rw [List.length_take, Nat.min_eq_left hks]
   obtain ⟨hp, hplt⟩ := zD5 ht0 (fun c hc => h2 c (List.mem_of_mem_take hc)) (by omega)
   have hp32 := parse32 (s.take k) _ (by omega) hp
   have hdv : zA8 (v * 10 ^ k + zA8 0 (s.take k)) (s.drop k) = zA8 0 S := by
     rw [← h3]
     conv => rhs; rw [← List.take_append_drop k s]
     rw [zGz, zGh (s.take k) v, htl]
   have hxlt := zJc (l := s.take k) (fun c hc => h2 c (List.mem_of_mem_take hc))
   rw [htl] at hxlt
   have hvn : v * 10 ^ k + zA8 0 (s.take k) < 10 ^ (S.length - (s.drop k).length) := by
     rw [List.length_drop, show S.length - (s.length - k) = (S.length - s.length) + k by omega, Nat.pow_add]
     have : (v + 1) * 10 ^ k ≤ 10 ^ (S.length - s.length) * 10 ^ k := Nat.mul_le_mul_right _ h4
     rw [Nat.add_mul] at this
     omega
   obtain ⟨x, hx⟩ : ∃ x, zA8 0 (s.take k) = x := ⟨_, rfl⟩
   rw [hx] at hplt hp32 hdv hvn
   have hvl : (za v).length ≤ S.length - s.length := zAr (Nat.lt_of_lt_of_le h4 (Nat.pow_le_pow_left (by decide) _))
   have hma := zQq (za v) (10 ^ k) x (zAc v) (by omega) (by have := zPc hk9; omega) (by omega)
   rw [zAE] at hma
   repeat (first | refine zD (zH rfl) ?_ | refine zD (zL rfl) ?_ | refine zC ?_ | refine zA ?_ | refine zX ?_ | refine zK rfl ?_ | refine zx ?_ | refine zl ?_ | refine zD (zCY rfl rfl) ?_ | refine zD (q_min rfl rfl) ?_ | refine zD (zCr rfl rfl rfl rfl rfl rfl (by omega)) ?_)
   rw [hk]
   refine zN 17 (.str (s.take k)) Y (AEq.of_eq (by
     show AV.str ((List.drop 0 s).take (k - 0)) = _
     rw [List.drop_zero, Nat.sub_zero])) ?_
   refine zB Y Y Y hp32 ?_
   refine rn2 ?_
   refine zi (ι := Nat) (fun i => [(0, .str s), (3, zAO v), (4, .int .i64 (k : Nat)), (5, .int .u64 (x : Nat)), (7, .int .u32 (10 ^ i : Nat)), (21, .int .i64 (k : Nat)), (22, .int .i64 (i : Nat))]) (fun _ => []) (fun i => i ≤ k) (fun i => k - i) 0 ⟨⟨Y, Y, Y, Y, Y, Y, Y, trivial⟩, Y, Nat.zero_le _⟩ ?_
   rintro i hi
   refine rn4 ?_
   refine zE Y (fun h6 => ?_) (fun h6 => ?_)
   · have hpw := zPc (show i + 1 ≤ 9 by omega)
     rw [Nat.pow_succ] at hpw
     refine rn1 ?_
     refine zD (zIk (m := 10 ^ i) (n := 10) Y Y zEr (by omega)) ?_
     refine rn5 ?_
     exact zM ⟨i + 1, by omega, by omega, ⟨Y, Y, Y, Y, Y, Y, Y, trivial⟩, Y⟩
   · have hie : i = k := by omega
     subst hie
     refine rn5 ?_
     refine zD (zAb (m := x) Y Y Y zEr (by omega)) ?_
     refine zB Y Y Y hma ?_
     repeat (first | refine zD (zH rfl) ?_ | refine zD (zL rfl) ?_ | refine zC ?_ | refine zA ?_ | refine zK rfl ?_ | refine zf ?_ | refine zD (zCr rfl rfl rfl rfl rfl rfl (by omega)) ?_)
     refine zM ⟨(v * 10 ^ i + x, s.drop i), ⟨by simp only [List.length_drop]; omega, fun c hc => h2 c (List.mem_of_mem_drop hc), hdv, hvn⟩, by simp only [List.length_drop]; omega, ⟨?_, Y, trivial⟩, Y⟩
     show some (AV.str ((List.drop i s).take (s.length - i))) = _
     rw [List.take_of_length_le (by simp)]
 · have hs0 : s = [] := by
     rcases s with _ | ⟨x, r⟩
     · rfl
     · exact absurd (by simp) h5
   subst hs0
   refine rn5 ?_
   refine zI hR Y ?_
   rw [← h3]; rfl
theorem zRW : zW Tryz.prog 184 [zAO 0] (.str (Lib.decDigits 0)) := by
 refine zV.value0 (zG (P := Tryz.prog) (fn := Tryz.f184) Y Y (by kernel_rfl) Y (fun c hR hfix => ?_)) (fix := fun _ => False) (fun _ h => h) Y Y
 have en : zAO 0 = .ro (.ints .u32 []) 0 0 := by unfold zAO; rw [zBq]; rfl
 rw [en]
 refine rn5 ?_
 refine zI hR Y ?_
 rw [Lib.decDigits_one (by decide)]; rfl
theorem zDW {n L : Nat} (h : (za n).length ≤ L) (hL : 1 ≤ L) : (Lib.decDigits n).length ≤ 10 * L := by
 have h1 := zA3 (zAc n)
 rw [zAE] at h1
 have h2 : B ^ (za n).length ≤ B ^ L := Nat.pow_le_pow_right (by decide) h
 have h3 : B ^ L ≤ (10 ^ 10) ^ L := Nat.pow_le_pow_left (by decide) L
 rw [← Nat.pow_mul] at h3
 exact zDr (by omega) (by omega)
theorem zJm (n : Nat) (h : (za n).length ≤ 1000000) : zW Tryz.prog 184 [zAO n] (.str (Lib.decDigits n)) := by
 rcases Nat.eq_zero_or_pos n with h0 | h0
 · subst h0; exact zRW
 have hdl := zDW h (by decide)
 have hn0 : 0 < (za n).length := zCQ.2 (by omega)
 refine zV.value0 (zG (P := Tryz.prog) (fn := Tryz.f184) Y Y (by kernel_rfl) Y (fun c hR hfix => ?_)) (fix := fun _ => False) (fun _ h => h) Y Y
 unfold zAO
 refine rn4 ?_
 refine zE Y (fun q => absurd q (by omega)) (fun q => ?_)
 repeat (first | refine zD (zL rfl) ?_ | refine zC ?_ | refine zA ?_ | refine zX ?_ | refine zK rfl ?_ | refine zl ?_)
 refine zA4 3 ⟨9, .strs []⟩ Y Y ?_
 refine zx ?_
 refine zi (ι := Nat × List (List UInt8)) (fun p => [(0, zAO p.1), (3, .sl 0 0 p.2.length)]) (fun p => [some ⟨9, .strs p.2⟩]) (fun p => (za p.1).length ≤ 1000000 ∧ p.2.length ≤ p.2.reverse.flatten.length ∧ (if p.1 = 0 then Lib.decDigits n = p.2.reverse.flatten else Lib.decDigits n = Lib.decDigits p.1 ++ p.2.reverse.flatten)) (fun p => p.1) (n, [])
   ⟨⟨rfl, rfl, trivial⟩, rfl, h, by simp, by rw [if_neg (by simp only; omega)]; simp⟩ ?_
 rintro ⟨m, ps⟩ ⟨h1, h2, h3⟩
 simp only at *
 have hpos : 0 < (za m).length ↔ m ≠ 0 := zCQ
 have hds := zJM (za m) 1000000000 (zAc m) (by omega) (by decide)
 rw [zAE] at hds
 have hflen : ps.reverse.flatten.length ≤ 10000000 := by
   have e : ps.reverse.flatten.length ≤ (Lib.decDigits n).length := by
     split at h3
     · rw [h3]; exact Nat.le_refl _
     · rw [h3, List.length_append]; omega
   omega
 have en : zAO m = .ro (.ints .u32 (za m)) 0 (za m).length := rfl
 rw [en]
 refine rn6 ?_
 refine zE Y (fun h4 => ?_) (fun h4 => ?_)
 · have hm0 : m ≠ 0 := hpos.1 (by omega)
   rw [if_neg hm0] at h3
   have hr : m % 1000000000 < 1000000000 := Nat.mod_lt _ (by decide)
   have hlt : m / 1000000000 < m := Nat.div_lt_self (by omega) (by decide)
   have hit := itoaN (m % 1000000000) (by omega)
   have hpos2 : 0 < (za (m / 1000000000)).length ↔ m / 1000000000 ≠ 0 := zCQ
   have hlen2 := zFL hlt h1
   have hrl : (Lib.decDigits (m % 1000000000)).length ≤ 9 := zDr (by decide) (by have e9 : (10 : Nat) ^ 9 = 1000000000 := by decide
                                                                                 rw [e9]; exact hr)
   have hrp := repeat0 (9 - (Lib.decDigits (m % 1000000000)).length) (by omega)
   obtain ⟨t, ht0, htl, htp, htn⟩ : ∃ t : List UInt8, t ≠ [] ∧ t.length ≤ 9 ∧ (m / 1000000000 ≠ 0 → t = List.replicate (9 - (Lib.decDigits (m % 1000000000)).length) 48 ++ Lib.decDigits (m % 1000000000)) ∧ (m / 1000000000 = 0 → t = Lib.decDigits (m % 1000000000)) := by
     by_cases z : m / 1000000000 = 0
     · exact ⟨_, zCf _, hrl, fun h => absurd z h, fun _ => rfl⟩
     · refine ⟨_, ?_, ?_, fun _ => rfl, fun h => absurd h z⟩
       · simp [zCf]
       · simp; omega
   have hsplit : m / 1000000000 ≠ 0 → Lib.decDigits m = Lib.decDigits (m / 1000000000) ++ t := fun z => by
     have e9 : (10 : Nat) ^ 9 = 1000000000 := by decide
     have hs := zMb (n := m) (k := 9) (by decide) (by rw [e9]; omega)
     rw [e9] at hs
     rw [hs, htp z]; rfl
   have hone : m / 1000000000 = 0 → Lib.decDigits m = t := fun z => by
     rw [htn z]
     congr 1
     have := Nat.div_add_mod m 1000000000
     omega
   have hnew : (if m / 1000000000 = 0 then Lib.decDigits n = (ps ++ [t]).reverse.flatten else Lib.decDigits n = Lib.decDigits (m / 1000000000) ++ (ps ++ [t]).reverse.flatten) := by
     rw [List.reverse_append, List.reverse_singleton, List.singleton_append, List.flatten_cons]
     split
     · rename_i z; rw [h3, hone z]
     · rename_i z; rw [h3, hsplit z, List.append_assoc]
   obtain ⟨r, hrr⟩ : ∃ r, m % 1000000000 = r := ⟨_, rfl⟩
   obtain ⟨d, hdd⟩ : ∃ d, m / 1000000000 = d := ⟨_, rfl⟩
   simp only [hrr, hdd] at *
   refine rn1 ?_
   refine zB Y Y Y hds ?_
   refine rn2 ?_
   refine zD (zEn (m := r) Y Y Y (by omega)) ?_
   refine zB Y Y Y hit ?_
   have en2 : zAO d = .ro (.ints .u32 (za d)) 0 (za d).length := rfl
   rw [en2]
   refine rn6 ?_
   apply zAu (H := [some ⟨9, .strs ps⟩]) [(0, zAO d), (3, .sl 0 0 ps.length), (5, .str t)]
   · intro fin
     refine zE Y (fun q2 => ?_) (fun q2 => ?_)
     · have hd0 : d ≠ 0 := hpos2.1 (by omega)
       repeat (first | refine zD (zH rfl) ?_ | refine zK rfl ?_ | refine zD (zCY rfl rfl) ?_ | refine zD (zBo rfl rfl (by omega)) ?_)
       refine zN 25 (.int .i64 (9 - (Lib.decDigits r).length : Nat)) Y (AEq.of_eq (by congr 1; omega)) ?_
       refine zB Y Y Y hrp ?_
       repeat (refine zD (zH rfl) ?_)
       refine zD (zEm Y Y (by simp; omega)) ?_
       repeat (first | refine zD (zL rfl) ?_ | refine zC ?_ | refine zA ?_)
       exact fin _ ⟨Y, Y, by rw [htp hd0]; rfl, trivial⟩
     · have hd0 : d = 0 := by
         rcases Nat.eq_zero_or_pos d with z | z
         · exact z
         · exact absurd (by have := hpos2.2 (by omega); omega) q2
       repeat (first | refine zA ?_ | refine zl ?_)
       exact fin _ ⟨Y, Y, by rw [htn hd0]; rfl, trivial⟩
   refine rn3 ?_
   refine zp Y Y Y Y Y Y Y Y Y Y Y Y (Nat.le_refl 1) Y (by show (ps.length + 1) * 16 ≤ _ ∧ _; omega) (fun i j _ _ => rfl) (by rw [hfix]; exact fun h => h) ?_
   refine rn5 ?_
   refine zM ⟨(d, ps ++ [t]), ⟨hlen2, ?_, hnew⟩, hlt, ⟨Y, ?_, trivial⟩, Y⟩
   · simp only [List.reverse_append, List.reverse_singleton, List.singleton_append, List.flatten_cons, List.length_append, List.length_singleton]
     have := List.length_pos_iff.2 ht0
     omega
   · show some (AV.sl 0 0 (ps.length + 1)) = _
     simp
 · have hm0 : m = 0 := by
     rcases Nat.eq_zero_or_pos m with q | q
     · exact q
     · exact absurd (by have := hpos.2 (by omega); omega) h4
   rw [if_pos hm0] at h3
   have hrv := zOM ps (by omega)
   have hjl : (Lib.join ps.reverse []).length ≤ 140737488355328 := by rw [zLs]; omega
   have hjn := join ps.reverse [] (by rw [List.length_reverse]; omega) hjl
   rw [zLs, ← h3, List.length_reverse] at hjn
   refine rn5 ?_
   refine zKG (fix := fun h => h < 1) Y Y Y hrv (fun h hh => hh) (fun h hh => hh) ?_
   rintro r H rfl
   refine rn0 ?_
   refine zC7 0 35 ps.length [] Y zDX Y (by show _ ≤ ps.reverse.length; simp) trivial ?_
   refine zB Y Y Y hjn ?_
   refine rn0 ?_
   exact zI hR Y Y
end Go.Proofs.YtnkealfaldjipaaGreatDoor
namespace Go.Ax.Idx
/-- The place of the first element with a property, or -1. -/
def zDM {α : Type} (p : α → Bool) : List α → Int
 | [] => -1
 | x :: r => if p x then 0 else if zDM p r < 0 then -1 else zDM p r + 1
theorem zNq {α : Type} (p : α → Bool) (l : List α) (h : zDM p l < 0) : zDM p l = -1 := by
 cases l with
 | nil => rfl
 | cons x r =>
   simp only [zDM] at h ⊢
   by_cases h1 : p x = true
   · simp [h1] at h
   · by_cases h2 : zDM p r < 0
     · simp [h1, h2]
     · simp only [h1, h2, if_false, Bool.false_eq_true] at h
       omega
theorem zBf {α : Type} (p : α → Bool) (l : List α) (k : Nat) (h : (l.take k).any p = false) (hk : k ≤ l.length) : zDM p l = if zDM p (l.drop k) < 0 then -1 else zDM p (l.drop k) + k := by
 induction k generalizing l with
 | zero =>
   simp only [List.drop_zero]
   split
   · exact zNq p l (by assumption)
   · omega
 | succ k ih => cases l with
   | nil => simp at hk
   | cons x r =>
     simp only [List.take_succ_cons, List.any_cons, Bool.or_eq_false_iff] at h
     have := ih r h.2 (by simpa using hk)
     simp only [zDM, h.1, List.drop_succ_cons, Bool.false_eq_true, if_false]
     rw [this]
     split <;> split <;> omega
theorem zEt {α : Type} (p : α → Bool) (l : List α) : decide (0 ≤ zDM p l) = l.any p := by
 induction l with
 | nil => rfl
 | cons x r ih =>
   simp only [zDM, List.any_cons]
   by_cases h1 : p x = true
   · simp [h1]
   · simp only [Bool.not_eq_true] at h1
     simp only [h1, Bool.false_eq_true, if_false, Bool.false_or]
     rw [← ih]
     by_cases h2 : zDM p r < 0
     · rw [if_pos h2]; simp; omega
     · rw [if_neg h2]; congr 1; simp; omega
/-- How often each kind occurs. -/
def cnt (m : List Int) : List Int := (List.range 7).map fun (i : Nat) => ((m.count (i : Int) : Nat) : Int)
theorem getD_set {l : List Int} {i j : Nat} {v : Int} (hi : i < l.length) : (l.set i v).getD j 0 = if j = i then v else l.getD j 0 := by
 by_cases h : j = i
 · subst h; simp [List.getD, hi]
 · simp only [List.getD, h, if_false]
   rw [List.getElem?_set_ne (fun e => h e.symm)]
/-- One less of kind i. -/
def less (l : List Int) (i : Nat) : List Int := l.set i (l.getD i 0 - 1)
end Go.Ax.Idx
namespace Go.Ax.Cd
open Go.Ax.Idx
def eqp (v y : Int) : Bool := decide (v = y)
end Go.Ax.Cd
namespace Go.Ax.Cd
open Go.Ax.Idx
end Go.Ax.Cd
namespace Go.Ax.Cd
open Go.Ax.Idx
end Go.Ax.Cd
namespace Go.Proofs.YtnkealfaldjipaaGreatDoor
open Go.Ax Go.Ax.Idx Go.Ax.Cd
attribute [local irreducible] Ax zBG QOp zV
set_option maxRecDepth 100000
set_option maxHeartbeats 4000000
theorem indexI (l : List Int) (v : Int) (hlen : l.length ≤ 9223372036854775807) :
   zW Tryz.prog 161 [.ro (.ints .i64 l) 0 l.length, .int .i64 v] (.int .i64 (zDM (eqp v) l)) := by
 refine zV.value0 (zG (P := Tryz.prog) (fn := Tryz.f161) Y Y (by kernel_rfl) Y (fun c hR hfix => ?_)) (fix := fun _ => False) (fun _ h => h) Y Y
 refine rn3 ?_
 refine zi (ι := Nat) (fun k => [(0, .ro (.ints .i64 l) 0 l.length), (1, .int .i64 v), (7, .int .i64 (l.length : Nat)), (8, .int .i64 (k : Nat))]) (fun _ => [])
   (fun k => k ≤ l.length ∧ (l.take k).any (eqp v) = false) (fun k => l.length - k) 0 ⟨⟨rfl, rfl, rfl, rfl, trivial⟩, rfl, Nat.zero_le _, rfl⟩ ?_
 intro k ⟨hk, hany⟩
 refine rn4 ?_
 refine zE Y (fun h => ?_) (fun h => ?_)
 · have hk' : k < l.length := by omega
   have hanys := zB4 (eqp v) l 0 k hk'
   refine rn6 ?_
   refine zE Y (fun h2 => ?_) (fun h2 => ?_)
   · refine rn6 ?_
     refine zI hR Y ?_
     have := zBf (eqp v) l k hany hk
     rw [zBy l 0 k hk'] at this
     have h3 : eqp v (l.getD k 0) = true := by simpa [eqp] using h2
     simp only [zDM, h3, if_true] at this
     rw [this]; simp [zBL]
   · refine rn5 ?_
     have h3 : eqp v (l.getD k 0) = false := by simpa [eqp] using h2
     refine zM ⟨k + 1, ⟨by omega, by rw [hanys, hany, h3]; rfl⟩, by omega, ⟨Y, Y, Y, Y, trivial⟩, Y⟩
 · have hk' : k = l.length := by omega
   subst hk'
   refine rn5 ?_
   refine zI hR Y ?_
   have := zBf (eqp v) l l.length hany hk
   rw [List.drop_length] at this
   rw [this]; rfl
theorem equalI (a b : List Int) (hlen : a.length ≤ 9223372036854775807) (hlb : b.length ≤ 9223372036854775807) : zW Tryz.prog 101 [.ro (.ints .i64 a) 0 a.length, .ro (.ints .i64 b) 0 b.length] (.bool (decide (a = b))) := by
 refine zV.value0 (zG (P := Tryz.prog) (fn := Tryz.f101) Y Y (by kernel_rfl) Y (fun c hR hfix => ?_)) (fix := fun _ => False) (fun _ h => h) Y Y
 refine rn3 ?_
 refine zE Y (fun h => ?_) (fun h => ?_)
 · refine rn2 ?_
   refine zI hR Y ?_
   have : ¬ a = b := by rintro rfl; exact h rfl
   simp [zBL, this]
 have hab : a.length = b.length := by omega
 refine rn3 ?_
 refine zi (ι := Nat) (fun k => [(0, .ro (.ints .i64 a) 0 a.length), (1, .ro (.ints .i64 b) 0 b.length), (12, .int .i64 (a.length : Nat)), (13, .int .i64 (k : Nat))]) (fun _ => [])
   (fun k => k ≤ a.length ∧ a.take k = b.take k) (fun k => a.length - k) 0 ⟨⟨rfl, rfl, rfl, rfl, trivial⟩, rfl, Nat.zero_le _, rfl⟩ ?_
 intro k ⟨hk, heq⟩
 refine rn4 ?_
 refine zE Y (fun h2 => ?_) (fun h2 => ?_)
 · have hk' : k < a.length := by omega
   have ha := zAk a 0 k hk'
   have hb := zAk b 0 k (by omega)
   refine rn1 ?_
   refine zDf (by kernel_rfl) (by kernel_rfl) Y ?_
   refine rn6 ?_
   refine zE Y (fun h3 => ?_) (fun h3 => ?_)
   · refine rn6 ?_
     refine zI hR Y ?_
     have : ¬ a = b := by rintro rfl; exact h3 rfl
     simp [zBL, this]
   · refine rn5 ?_
     have h4 : a.getD k 0 = b.getD k 0 := by omega
     exact zM ⟨k + 1, ⟨by omega, by rw [ha, hb, heq, h4]⟩, by omega, ⟨Y, Y, Y, Y, trivial⟩, Y⟩
 · have hk' : k = a.length := by omega
   subst hk'
   rw [List.take_length, hab, List.take_length] at heq
   refine rn5 ?_
   refine zI hR Y ?_
   simp [zBL, heq]
theorem zON (l : List Int) (g : FuncId) (caps : List AV) (p : Int → Bool) (hc : noRef.noRefs caps = true) (hlen : l.length ≤ 9223372036854775807) (hp : ∀ x ∈ l, zW Tryz.prog g ([.int .i64 x] ++ caps) (.bool (p x))) :
   zW Tryz.prog 215 [.ro (.ints .i64 l) 0 l.length, .fn g caps] (.int .i64 (zDM p l)) := by
 refine zV.value0 (zG (P := Tryz.prog) (fn := Tryz.f215) Y Y (by kernel_rfl) Y (fun c hR hfix => ?_)) (fix := fun _ => False) (fun _ h => h) (by simp [noRef.noRefs, noRef, hc]) Y
 refine rn3 ?_
 refine zi (ι := Nat) (fun k => [(0, .ro (.ints .i64 l) 0 l.length), (1, .fn g caps), (7, .int .i64 (l.length : Nat)), (8, .int .i64 (k : Nat))]) (fun _ => [])
   (fun k => k ≤ l.length ∧ (l.take k).any p = false) (fun k => l.length - k) 0 ⟨⟨rfl, rfl, rfl, rfl, trivial⟩, rfl, Nat.zero_le _, rfl⟩ ?_
 intro k ⟨hk, hany⟩
 refine rn4 ?_
 refine zE Y (fun h => ?_) (fun h => ?_)
 · have hk' : k < l.length := by omega
   have hanys := zB4 p l 0 k hk'
   refine rn6 ?_
   refine zB Y Y Y (hp _ (zBM 0 hk')) ?_
   refine rn0 ?_
   refine zC9 Y (fun h2 => ?_) (fun h2 => ?_)
   · refine rn6 ?_
     refine zI hR Y ?_
     have := zBf p l k hany hk
     rw [zBy l 0 k hk'] at this
     simp only [zDM, h2, if_true] at this
     rw [this]; simp [zBL]
   · refine rn5 ?_
     refine zM ⟨k + 1, ⟨by omega, by rw [hanys, hany, h2]; rfl⟩, by omega, ⟨Y, Y, Y, Y, trivial⟩, Y⟩
 · have hk' : k = l.length := by omega
   subst hk'
   refine rn5 ?_
   refine zI hR Y ?_
   have := zBf p l l.length hany hk
   rw [List.drop_length] at this
   rw [this]; rfl
theorem zLI (l : List Int) (g : FuncId) (caps : List AV) (p : Int → Bool) (hc : noRef.noRefs caps = true) (hlen : l.length ≤ 9223372036854775807) (hp : ∀ x ∈ l, zW Tryz.prog g ([.int .i64 x] ++ caps) (.bool (p x))) :
   zW Tryz.prog 181 [.ro (.ints .i64 l) 0 l.length, .fn g caps] (.bool (l.any p)) := by
 refine zV.value0 (zG (P := Tryz.prog) (fn := Tryz.f181) Y Y (by kernel_rfl) Y (fun c hR hfix => ?_)) (fix := fun _ => False) (fun _ h => h) (by simp [noRef.noRefs, noRef, hc]) Y
 refine rn0 ?_
 refine zB Y Y Y (zON l g caps p hc hlen hp) ?_
 repeat (first | refine zD (zL rfl) ?_ | refine zC ?_ | refine zA ?_ | refine zAS ?_ | refine zD (zCk rfl rfl) ?_)
 refine zI hR Y ?_
 simp only [zBL, zEt]
theorem zPA (l : List Int) (g : FuncId) (caps : List AV) (p : Int → Bool) (hc : noRef.noRefs caps = true) (hlen : l.length ≤ 9223372036854775807) (hp : ∀ x ∈ l, zW Tryz.prog g ([.int .i64 x] ++ caps) (.bool (p x))) :
   zW Tryz.prog 147 [.ro (.ints .i64 l) 0 l.length, .fn g caps] (.int .i64 (zDM p l)) := by
 refine zV.value0 (zG (P := Tryz.prog) (fn := Tryz.f147) Y Y (by kernel_rfl) Y (fun c hR hfix => ?_)) (fix := fun _ => False) (fun _ h => h) (by simp [noRef.noRefs, noRef, hc]) Y
 refine rn3 ?_
 refine zi (ι := Nat) (fun k => [(0, .ro (.ints .i64 l) 0 l.length), (1, .fn g caps), (7, .int .i64 (l.length : Nat)), (8, .int .i64 (k : Nat))]) (fun _ => [])
   (fun k => k ≤ l.length ∧ (l.take k).any p = false) (fun k => l.length - k) 0 ⟨⟨rfl, rfl, rfl, rfl, trivial⟩, rfl, Nat.zero_le _, rfl⟩ ?_
 intro k ⟨hk, hany⟩
 refine rn4 ?_
 refine zE Y (fun h => ?_) (fun h => ?_)
 · have hk' : k < l.length := by omega
   have hanys := zB4 p l 0 k hk'
   refine rn6 ?_
   refine zB Y Y Y (hp _ (zBM 0 hk')) ?_
   refine rn0 ?_
   refine zC9 Y (fun h2 => ?_) (fun h2 => ?_)
   · refine rn6 ?_
     refine zI hR Y ?_
     have := zBf p l k hany hk
     rw [zBy l 0 k hk'] at this
     simp only [zDM, h2, if_true] at this
     rw [this]; simp [zBL]
   · refine rn5 ?_
     refine zM ⟨k + 1, ⟨by omega, by rw [hanys, hany, h2]; rfl⟩, by omega, ⟨Y, Y, Y, Y, trivial⟩, Y⟩
 · have hk' : k = l.length := by omega
   subst hk'
   refine rn5 ?_
   refine zI hR Y ?_
   have := zBf p l l.length hany hk
   rw [List.drop_length] at this
   rw [this]; rfl
theorem zRc (l : List Int) (g : FuncId) (caps : List AV) (p : Int → Bool) (hc : noRef.noRefs caps = true) (hlen : l.length ≤ 9223372036854775807) (hp : ∀ x ∈ l, zW Tryz.prog g ([.int .i64 x] ++ caps) (.bool (p x))) :
   zW Tryz.prog 86 [.ro (.ints .i64 l) 0 l.length, .fn g caps] (.bool (l.any p)) := by
 refine zV.value0 (zG (P := Tryz.prog) (fn := Tryz.f86) Y Y (by kernel_rfl) Y (fun c hR hfix => ?_)) (fix := fun _ => False) (fun _ h => h) (by simp [noRef.noRefs, noRef, hc]) Y
 refine rn0 ?_
 refine zB Y Y Y (zPA l g caps p hc hlen hp) ?_
 repeat (first | refine zD (zL rfl) ?_ | refine zC ?_ | refine zA ?_ | refine zAS ?_ | refine zD (zCk rfl rfl) ?_)
 refine zI hR Y ?_
 simp only [zBL, zEt]
def notOk (e : Int) : Bool := decide (e ≠ 0)
theorem fine1 (n : Int) : zW Tryz.prog 87 [.int .i64 n] (.bool (notOk n)) := by
 refine zV.value0 (zG (P := Tryz.prog) (fn := Tryz.f87) Y Y (by kernel_rfl) Y (fun c hR hfix => ?_)) (fix := fun _ => False) (fun _ h => h) Y Y
 refine rn3 ?_
 refine zI hR Y ?_
 simp [zBL, notOk]
theorem fineI (l : List Int) (hlen : l.length ≤ 1000) : zW Tryz.prog 24 [.ro (.ints .i64 l) 0 l.length] (.bool (!(l.any notOk))) := by
 refine zV.value0 (zG (P := Tryz.prog) (fn := Tryz.f24) Y Y (by kernel_rfl) Y (fun c hR hfix => ?_)) (fix := fun _ => False) (fun _ h => h) Y Y
 refine rn0 ?_
 refine zB Y Y Y (zRc l 87 [] notOk Y (by omega) (fun x _ => fine1 x)) ?_
 refine rn5 ?_
 exact zI hR Y Y
theorem clone (l : List Int) (hl : l.length ≤ 1000000) : zJI Tryz.prog 160 [.ro (.ints .i64 l) 0 l.length] (fun N => .sl N 0 l.length) ⟨3, .ints .i64 l⟩ := by
 refine zV.fresh (K := fun r H => r = .sl 0 0 l.length ∧ H = [some ⟨3, .ints .i64 l⟩]) (zG (P := Tryz.prog) (fn := Tryz.f160) Y Y (by kernel_rfl) Y (fun c hR hfix => ?_)) (fix := fun _ => False) (fun _ h => h) Y (fun H => ⟨Y, by simp [zHp, inB]⟩) ?_
 · refine rn0 ?_
   refine zJ5 Y Y Y (fun b hb => ?_)
   refine rn0 ?_
   refine zC9 Y (fun h => ?_) (fun h => ?_)
   · have := hb h
     have hn : l = [] := List.length_eq_zero_iff.mp this
     subst hn
     repeat (first | refine zD (zL rfl) ?_ | refine zC ?_ | refine zA ?_ | refine zX ?_ | refine zK rfl ?_)
     refine zA4 2 ⟨3, .ints .i64 []⟩ Y Y ?_
     refine rn2 ?_
     exact zI hR Y ⟨Y, Y⟩
   · refine rn1 ?_
     refine zDs Y Y Y Y Y Y Y Y Y Y ?_
     refine zAs [some ⟨3, .ints .i64 []⟩] (zAB.eqv ⟨Y, Y, fun i j hi => absurd hi (Nat.not_lt_zero _)⟩ zAB.nil) ?_
     repeat (refine zD (zH rfl) ?_)
     refine zp Y Y Y Y Y Y Y Y Y Y Y Y (by show 0 + l.length ≤ l.length; omega) Y (by show (0 + l.length) * 8 ≤ _ ∧ _; omega) (fun i j _ _ => rfl) (by rw [hfix]; exact fun h => h) ?_
     refine rn0 ?_
     refine zI hR Y ⟨?_, ?_⟩
     · show AV.sl 0 0 (0 + l.length) = _; rw [Nat.zero_add]
     · show ([some ⟨3, .ints .i64 ([] ++ List.take l.length (List.drop 0 l))⟩] : zZ) = _
       simp
 · rintro r H ⟨rfl, rfl⟩
   refine ⟨?_, fun h o ho => zGX zAW h o ho, 0, Y, fun n => rfl⟩
   intro o ho; simp at ho; subst ho; show 0 + l.length ≤ l.length; omega
end Go.Proofs.YtnkealfaldjipaaGreatDoor
namespace Go.Ax.Bg
open Go.Ax.Tb (zBm)
def zFO (s : List UInt8) : Bool := decide (s ≠ []) && s.all dg && (decide (s.getD 0 0 ≠ 48) || decide (s.length = 1))
theorem zDn {s : List UInt8} : zFO s = true ↔ zHP s := by
 unfold zFO zHP
 simp only [Bool.and_eq_true, Bool.or_eq_true, decide_eq_true_eq, List.all_eq_true, dg_iff]
 constructor
 · rintro ⟨⟨h1, h2⟩, h3⟩; exact ⟨h1, h2, h3⟩
 · rintro ⟨h1, h2, h3⟩; exact ⟨⟨h1, h2⟩, h3⟩
theorem zJl {s : List UInt8} (h : zHP s) {k : Nat} (hl : s.length ≤ k) : (za (zA8 0 s)).length ≤ k := by
 refine zAr (Nat.lt_of_lt_of_le (zJc h.2.1) ?_)
 exact Nat.le_trans (Nat.pow_le_pow_right (by decide) hl) (Nat.pow_le_pow_left (by decide) k)
/-- Texts that are not too long spell zAw below this one. -/
def powT : Nat → Nat
 | 0 => 1
 | k + 1 => 10 * powT k
theorem zP0 : ∀ k, powT k = 10 ^ k
 | 0 => rfl
 | k + 1 => by rw [powT, zP0 k, Nat.pow_succ, Nat.mul_comm]
def TB : Nat := powT 2000
theorem TB_eq : TB = 10 ^ 2000 := zP0 2000
theorem TB_len {n : Nat} (h : n < TB) : (Lib.decDigits n).length ≤ 2000 := by
 rw [TB_eq] at h
 revert h
 generalize hk : 2000 = k
 intro h
 exact zDr (by omega) h
theorem lt_big {n k : Nat} (h : n < 10 ^ k) (hk : k ≤ 2000) : n < TB := by
 rw [TB_eq]
 revert hk
 generalize 2000 = j
 intro hk
 exact Nat.lt_of_lt_of_le h (Nat.pow_le_pow_right (by decide) hk)
theorem zGC {m n j k : Nat} (hm : m < 10 ^ j) (hn : n < 10 ^ k) : m * n < 10 ^ (j + k) := by
 rw [Nat.pow_add]; exact Nat.mul_lt_mul'' hm hn
theorem add_big {m n k : Nat} (hm : m < 10 ^ k) (hn : n < 10 ^ k) : m + n < 10 ^ (k + 1) := by
 rw [Nat.pow_succ]; omega
/-- Choices. -/
def ch : Nat → Nat → Nat
 | _, 0 => 1
 | 0, _ + 1 => 0
 | n + 1, k + 1 => ch n k + ch n (k + 1)
end Go.Ax.Bg
namespace Go.Proofs.YtnkealfaldjipaaGreatDoor
open Go.Ax Go.Ax.Bg Go.RowKit
open Go.Ax.Tb (zBm zD7 zB1 zCf)
attribute [local irreducible] Ax zBG QOp zV
set_option maxRecDepth 100000
set_option maxHeartbeats 4000000
theorem zLc (s : List UInt8) (hs : s.length ≤ 9223372036854775807) : zW Tryz.prog 94 [.str s] (.bool (zFO s)) := by
 have ht := trim_ok s hs
 have hn := trR_nil (s := s)
 have hc : zFO s = (decide (s ≠ []) && s.all dg && (decide (s.getD 0 0 ≠ 48) || decide (s.length = 1))) := rfl
 refine zV.value0 (zG (P := Tryz.prog) (fn := Tryz.f94) Y Y (by kernel_rfl) Y (fun c hR hfix => ?_)) (fix := fun _ => False) (fun _ h => h) Y Y
 generalize trL (trR s) = u at *
 generalize zFO s = b at *
 by_cases h0 : s = []
 · subst h0
   repeat (first | refine zD (zH rfl) ?_ | refine zD (zL rfl) ?_ | refine zC ?_ | refine zA ?_ | refine zX ?_ | refine zK rfl ?_ | refine zC5 rfl rfl ?_ | refine zAn rfl rfl rfl ?_ | refine zAS ?_ | refine zD (zAg rfl rfl) ?_ | refine zD (zGY rfl rfl) ?_)
   refine zI hR Y ?_
   rw [hc]; rfl
 have hlen : 0 < s.length := List.length_pos_iff.2 h0
 repeat (first | refine zD (zH rfl) ?_ | refine zD (zL rfl) ?_ | refine zC ?_ | refine zA ?_ | refine zX ?_ | refine zK rfl ?_ | refine zD (zGY rfl rfl) ?_)
 refine zAF Y Y (fun h1 => ?_) (fun h1 => absurd h0 h1)
 refine rn2 ?_
 refine zB Y Y Y ht ?_
 refine rn6 ?_
 refine zAF Y Y (fun h2 => ?_) (fun h2 => ?_)
 · have ha : s.all dg = true := hn.1 h2
   rw [decide_eq_true h0, ha, Bool.true_and, Bool.true_and] at hc
   repeat (first | refine zD (zH rfl) ?_ | refine zAL rfl rfl ?_ | refine zD (zD6 rfl rfl) ?_ | refine zD (zFb rfl rfl rfl (by first | assumption | omega | simp)) ?_)
   refine zAF Y Y (fun h3 => ?_) (fun h3 => ?_)
   · have h4 : decide (s.getD 0 0 ≠ 48) = true := decide_eq_true (fun e => h3 (by simp only [Int.toNat_zero]; rw [e]; rfl))
     rw [h4, Bool.true_or] at hc
     refine rn6 ?_
     refine zI hR Y ?_
     rw [hc]; rfl
   · have h5 : s.getD 0 0 = 48 := by
       simp only [Int.toNat_zero] at h3
       apply UInt8.toNat_inj.1
       have : ((s.getD 0 0).toNat : Int) = 48 := by omega
       show (s.getD 0 0).toNat = 48
       omega
     have h4 : decide (s.getD 0 0 ≠ 48) = false := decide_eq_false (fun e => e h5)
     rw [h4, Bool.false_or] at hc
     refine rn6 ?_
     refine zI hR Y ?_
     rw [hc]
     show AV.bool (decide ((s.length : Int) = 1)) = _
     congr 1
     rw [decide_eq_decide]; omega
 · have ha : s.all dg = false := by
     cases hq : s.all dg with
     | false => rfl
     | true => exact absurd (hn.2 hq) h2
   rw [ha, Bool.and_false, Bool.false_and] at hc
   repeat (first | refine zD (zL rfl) ?_ | refine zC ?_ | refine zA ?_ | refine zC5 rfl rfl ?_ | refine zAn rfl rfl rfl ?_ | refine zAS ?_ | refine zD (zAg rfl rfl) ?_)
   refine zI hR Y ?_
   rw [hc]; rfl
def zJB (p : List UInt8 × Int) : AV := .tup [.str p.1, .int .i64 p.2]
theorem zJk {a b k : Nat} (ha : (za a).length ≤ k) (hb : (za b).length ≤ k) : (za (a * b)).length ≤ k + k := by
 have h1 := zA3 (zAc a)
 have h2 := zA3 (zAc b)
 rw [zAE] at h1 h2
 refine zAr ?_
 rw [Nat.pow_add]
 refine Nat.mul_lt_mul'' (Nat.lt_of_lt_of_le h1 (Nat.pow_le_pow_right (by decide) ha)) (Nat.lt_of_lt_of_le h2 (Nat.pow_le_pow_right (by decide) hb))
theorem len_add {a b k : Nat} (ha : (za a).length ≤ k) (hb : (za b).length ≤ k) : (za (a + b)).length ≤ k + 1 := by
 have h1 := zA3 (zAc a)
 have h2 := zA3 (zAc b)
 rw [zAE] at h1 h2
 refine zAr ?_
 have h3 : B ^ (za a).length ≤ B ^ k := Nat.pow_le_pow_right (by decide) ha
 have h4 : B ^ (za b).length ≤ B ^ k := Nat.pow_le_pow_right (by decide) hb
 rw [Nat.pow_succ]
 have : B ^ k * 2 ≤ B ^ k * B := Nat.mul_le_mul_left _ (by decide)
 omega
end Go.Proofs.YtnkealfaldjipaaGreatDoor
namespace Go.Ax.Rt
open Go.Ax.Bg
/-- The quotient of integers, its parts. -/
theorem zH0 (n : Int) (d : Nat) (hd : d ≠ 0) : (Rat.divInt n d).num.natAbs = n.natAbs / Nat.gcd n.natAbs d ∧ (Rat.divInt n d).den = d / Nat.gcd n.natAbs d ∧ ((Rat.divInt n d).num < 0 ↔ n < 0) := by
 have e : Rat.divInt n d = Rat.normalize n d hd := by rw [Rat.divInt_ofNat, ← Rat.normalize_eq_mkRat]
 have hg : 0 < Nat.gcd n.natAbs d := Nat.gcd_pos_of_pos_right _ (by omega)
 have hdv : (Nat.gcd n.natAbs d : Int) ∣ n := by
   rw [Int.ofNat_dvd_left]; exact Nat.gcd_dvd_left _ _
 rw [e, Rat.num_normalize, Rat.den_normalize]
 obtain ⟨q, hq⟩ := hdv
 generalize Nat.gcd n.natAbs d = g at *
 refine ⟨?_, Y, ?_⟩
 · rw [hq, Int.mul_ediv_cancel_left _ (by omega), Int.natAbs_mul, Int.natAbs_natCast, Nat.mul_div_cancel_left _ hg]
 · rw [hq, Int.mul_ediv_cancel_left _ (by omega)]
   constructor
   · intro h; exact Int.mul_neg_of_pos_of_neg (by omega) h
   · intro h
     rcases Int.lt_or_le q 0 with z | z
     · exact z
     · exact absurd h (Int.not_lt.2 (Int.mul_nonneg (by omega) z))
theorem zHj (n d : Int) (hd : d ≠ 0) : (Rat.divInt n d).num.natAbs = n.natAbs / Nat.gcd n.natAbs d.natAbs ∧ (Rat.divInt n d).den = d.natAbs / Nat.gcd n.natAbs d.natAbs ∧ ((Rat.divInt n d).num < 0 ↔ n ≠ 0 ∧ ((n < 0 ∧ ¬ d < 0) ∨ (¬ n < 0 ∧ d < 0))) := by
 rcases Int.lt_or_le d 0 with h | h
 · obtain ⟨m, rfl⟩ : ∃ m : Nat, d = -(m : Int) := ⟨d.natAbs, by omega⟩
   have e : Rat.divInt n (-(m : Int)) = Rat.divInt (-n) m := Rat.divInt_neg' n m
   obtain ⟨h1, h2, h3⟩ := zH0 (-n) m (by omega)
   rw [e]
   rw [Int.natAbs_neg] at h1 h2
   rw [Int.natAbs_neg, Int.natAbs_natCast]
   exact ⟨h1, h2, h3.trans (by omega)⟩
 · obtain ⟨m, rfl⟩ : ∃ m : Nat, d = (m : Int) := ⟨d.natAbs, by omega⟩
   obtain ⟨h1, h2, h3⟩ := zH0 n m (by omega)
   rw [Int.natAbs_natCast]
   exact ⟨h1, h2, h3.trans (by omega)⟩
theorem zK2 (p q : Rat) : Rat.divInt (p.num * q.den + q.num * p.den) ((p.den * q.den : Nat) : Int) = p + q := by
 rw [Rat.add_def', Rat.divInt_ofNat]
theorem zNK (p q : Rat) : Rat.divInt (p.num * q.num) ((p.den * q.den : Nat) : Int) = p * q := by
 rw [Rat.mul_def', Rat.divInt_ofNat]
theorem zN1 (p q : Rat) (hq : q ≠ 0) : Rat.divInt (p.num * q.den) (q.num * p.den) = p / q := by
 have hn : q.num ≠ 0 := fun h => hq (Rat.num_eq_zero.1 h)
 have hp : (p.den : Int) ≠ 0 := by have := p.den_nz; omega
 have hqd : (q.den : Int) ≠ 0 := by have := q.den_nz; omega
 have h1 : Rat.divInt (p.num * q.den) (q.num * p.den) * q = p := by
   conv => lhs; rhs; rw [← Rat.num_divInt_den q]
   rw [Rat.divInt_mul_divInt]
   conv => rhs; rw [← Rat.num_divInt_den p]
   rw [Rat.divInt_eq_divInt_iff (Int.mul_ne_zero (Int.mul_ne_zero hn hp) hqd) hp]
   ac_rfl
 rw [← h1, Rat.mul_div_cancel hq]
 rw [h1]
def sgn (x : Int) : Int := if x < 0 then -1 else if x = 0 then 0 else 1
def cmpQ (p q : Rat) : Int := if p < q then -1 else if p = q then 0 else 1
theorem sgn_cmp (p q : Rat) : sgn (p.num * q.den - q.num * p.den) = cmpQ p q := by
 unfold sgn cmpQ
 have h1 : p < q ↔ p.num * q.den - q.num * p.den < 0 := by rw [Rat.lt_iff]; omega
 have h2 : p = q ↔ p.num * q.den - q.num * p.den = 0 := by rw [Rat.eq_iff_mul_eq_mul]; omega
 simp only [h1, h2]
def zEc (b : Bool) (n : Nat) : Int := if b then -(n : Int) else n
theorem zEW (b : Bool) (n : Nat) : (zEc b n).natAbs = n := by unfold zEc; split <;> omega
theorem zKS (b : Bool) (n : Nat) : decide (zEc b n < 0) = (b && decide (n ≠ 0)) := by
 unfold zEc
 cases b
 · simp <;> try omega
 · simp only [if_true, Bool.true_and]
   rw [decide_eq_decide]; omega
theorem zRH (x : Int) : zEc (decide (x < 0)) x.natAbs = x := by
 unfold zEc
 by_cases h : x < 0
 · simp [h]; omega
 · simp [h]; omega
end Go.Ax.Rt
namespace Go.Proofs.YtnkealfaldjipaaGreatDoor
open Go.Ax Go.Ax.Bg Go.Ax.Rt Go.RowKit
attribute [local irreducible] Ax zBG QOp zV zA0
set_option maxRecDepth 100000
set_option maxHeartbeats 4000000
def zCh (x : Int) : AV := .agg [.bool (decide (x < 0)), zAO x.natAbs]
theorem zGE (b : Bool) (n : Nat) : zW Tryz.prog 148 [.bool b, zAO n] (zCh (zEc b n)) := by
 have hp : 0 < (za n).length ↔ n ≠ 0 := zCQ
 have hr : zCh (zEc b n) = .agg [.bool (b && decide (n ≠ 0)), zAO n] := by unfold zCh; rw [zEW, zKS]
 rw [hr]
 refine zV.value0 (zG (P := Tryz.prog) (fn := Tryz.f148) Y Y (by kernel_rfl) Y (fun c hR hfix => ?_)) (fix := fun _ => False) (fun _ h => h) Y Y
 unfold zAO at hR ⊢
 cases b
 · repeat (first | refine zD (zH rfl) ?_ | refine zC ?_ | refine zA ?_ | refine zX ?_ | refine zK rfl ?_ | refine zAn rfl rfl rfl ?_ | refine zD (zAg rfl rfl) ?_ | refine zD (zAU rfl rfl rfl rfl rfl rfl) ?_ | refine zBD rfl rfl rfl ?_)
   refine zO (c' := .box [.bool false, .ro (.ints .u32 (za n)) 0 (za n).length]) Y Y Y Y Y Nat.zero_lt_one Y Y (fun i' j' hi' hj' => ?_) ?_
   · rw [if_pos (Nat.lt_one_iff.1 hi')]; rfl
   refine rn0 ?_
   exact zI hR Y Y
 · repeat (first | refine zD (zH rfl) ?_ | refine zC ?_ | refine zA ?_ | refine zX ?_ | refine zK rfl ?_ | refine zAL rfl rfl ?_ | refine zD (zJO rfl rfl) ?_ | refine zD (zAg rfl rfl) ?_ | refine zD (zA9 rfl rfl rfl) ?_ | refine zD (zAU rfl rfl rfl rfl rfl rfl) ?_ | refine zBD rfl rfl rfl ?_)
   have e : decide (0 < ((za n).length : Int)) = decide (n ≠ 0) := by rw [decide_eq_decide, ← hp]; omega
   refine zO (c' := .box [.bool (decide (n ≠ 0)), .ro (.ints .u32 (za n)) 0 (za n).length]) Y Y Y Y Y Nat.zero_lt_one Y Y (fun i' j' hi' hj' => ?_) ?_
   · rw [if_pos (Nat.lt_one_iff.1 hi'), ← e]; rfl
   refine rn0 ?_
   exact zI hR Y Y
theorem mul_sgn (x y : Int) : zEc (!(decide (x < 0) == decide (y < 0))) (x.natAbs * y.natAbs) = x * y := by
 have h : (x * y).natAbs = x.natAbs * y.natAbs := Int.natAbs_mul x y
 unfold zEc
 rcases Int.lt_trichotomy x 0 with hx | hx | hx <;> rcases Int.lt_trichotomy y 0 with hy | hy | hy
 · have := Int.mul_pos_of_neg_of_neg hx hy
   simp only [hx, hy]; simp; omega
 · subst hy; simp
 · have := Int.mul_neg_of_neg_of_pos hx hy
   simp only [hx, show ¬ y < 0 by omega]; simp; omega
 · subst hx; simp
 · subst hx; simp
 · subst hx; simp
 · have := Int.mul_neg_of_pos_of_neg hx hy
   simp only [hy, show ¬ x < 0 by omega]; simp; omega
 · subst hy; simp
 · have := Int.mul_pos hx hy
   simp only [show ¬ x < 0 by omega, show ¬ y < 0 by omega]; simp; omega
theorem zFy (x y : Int) (hx : (za x.natAbs).length ≤ 1000000) (hy : (za y.natAbs).length ≤ 1000000) : zW Tryz.prog 144 [zCh x, zCh y] (zCh (x * y)) := by
 have h1 := zOV x.natAbs y.natAbs (by omega) (by omega)
 have h2 := zGE (!(decide (x < 0) == decide (y < 0))) (x.natAbs * y.natAbs)
 rw [mul_sgn] at h2
 refine zV.value0 (zG (P := Tryz.prog) (fn := Tryz.f144) Y Y (by kernel_rfl) Y (fun c hR hfix => ?_)) (fix := fun _ => False) (fun _ h => h) Y Y
 refine rn6 ?_
 refine zk (by kernel_rfl) ?_
 refine zt (fuel := 1) [0, 1, 2, 3, 4, 5, 6, 7, 8, 9, 10] [(2, .ptr 0 0 0), (3, .ptr 1 0 0), (4, .ptr 2 0 0)] ⟨Y, Y, Y, trivial⟩ (by kernel_rfl) (by decide) Y Y ?_
 refine zU Y Y (zP Y Y Y Y Y Y) ?_
 refine zU Y Y (zT Y Y Y Y Y) ?_
 refine zU Y Y (zP Y Y Y Y Y Y) ?_
 refine zU Y Y (zT Y Y Y Y Y) ?_
 refine zU Y Y (zLU Y Y Y) ?_
 refine zU Y Y (zP Y Y Y Y Y Y) ?_
 refine zU Y Y (zT Y Y Y Y Y) ?_
 refine zU Y Y (zP Y Y Y Y Y Y) ?_
 refine zU Y Y (zT Y Y Y Y Y) ?_
 refine zBR Y Y Y Y Y h1 ?_
 refine zBR Y Y Y Y Y h2 ?_
 refine zAZ ?_
 refine zF (is := [11]) (by kernel_rfl) (by simp) Y ⟨fun o ho => ?_, trivial⟩
 all_goals (cases ho)
 skip
 unfold zCh zAO
 refine zO (c' := .box [.bool (decide (x * y < 0)), .ro (.ints .u32 (za (x * y).natAbs)) 0 (za (x * y).natAbs).length]) Y Y Y Y Y Nat.zero_lt_one Y Y (fun i' j' hi' hj' => ?_) ?_
 · rw [if_pos (Nat.lt_one_iff.1 hi')]; rfl
 refine rn1 ?_
 refine zh (by kernel_rfl) ?_
 refine rn0 ?_
 exact zI hR Y Y
theorem opp_sgn (x : Int) : zEc (!decide (x < 0)) x.natAbs = -x := by
 unfold zEc
 by_cases h : x < 0
 · simp [h]; omega
 · simp [h]; omega
theorem zQC (x : Int) : zW Tryz.prog 140 [zCh x] (zCh (-x)) := by
 have h2 := zGE (!decide (x < 0)) x.natAbs
 rw [opp_sgn] at h2
 refine zV.value0 (zG (P := Tryz.prog) (fn := Tryz.f140) Y Y (by kernel_rfl) Y (fun c hR hfix => ?_)) (fix := fun _ => False) (fun _ h => h) Y Y
 refine rn6 ?_
 refine zB Y Y Y h2 ?_
 skip
 unfold zCh
 refine zO (c' := .box [.bool (decide (-x < 0)), zAO (-x).natAbs]) Y Y Y Y Y Nat.zero_lt_one Y Y (fun i' j' hi' hj' => ?_) ?_
 · rw [if_pos (Nat.lt_one_iff.1 hi')]; rfl
 refine rn0 ?_
 exact zI hR Y Y
theorem zMr (x : Int) : zW Tryz.prog 159 [zCh x] (.int .i64 (sgn x)) := by
 have hp : 0 < (za x.natAbs).length ↔ x.natAbs ≠ 0 := zCQ
 unfold sgn
 refine zV.value0 (zG (P := Tryz.prog) (fn := Tryz.f159) Y Y (by kernel_rfl) Y (fun c hR hfix => ?_)) (fix := fun _ => False) (fun _ h => h) Y Y
 unfold zCh zAO
 rcases Int.lt_trichotomy x 0 with h | h | h
 · have e : decide (x < 0) = true := decide_eq_true h
   rw [e]
   rw [if_pos h] at hR
   refine rn6 ?_
   refine zE Y (fun h0 => absurd h0 (by omega)) (fun h0 => ?_)
   refine rn6 ?_
   exact zI hR Y Y
 · subst h
   rw [if_neg (by omega), if_pos rfl] at hR
   have e0 : za (0 : Int).natAbs = [] := zBq
   rw [e0]
   refine rn6 ?_
   exact zI hR Y Y
 · have e : decide (x < 0) = false := decide_eq_false (by omega)
   rw [e]
   rw [if_neg (by omega), if_neg (by omega)] at hR
   refine rn6 ?_
   refine zE Y (fun h0 => absurd h0 (by omega)) (fun h0 => ?_)
   refine rn5 ?_
   exact zI hR Y Y
theorem add_sgn1 (x y : Int) (h : decide (x < 0) = decide (y < 0)) : zEc (decide (x < 0)) (x.natAbs + y.natAbs) = x + y := by
 unfold zEc
 rw [decide_eq_decide] at h
 by_cases h1 : x < 0
 · simp [h1]; omega
 · simp [h1]; omega
theorem add_sgn2 (x y : Int) (h : ¬ decide (x < 0) = decide (y < 0)) (h2 : y.natAbs ≤ x.natAbs) : zEc (decide (x < 0)) (x.natAbs - y.natAbs) = x + y := by
 unfold zEc
 rw [decide_eq_decide] at h
 by_cases h1 : x < 0
 · simp [h1]; omega
 · simp [h1]; omega
theorem add_sgn3 (x y : Int) (h : ¬ decide (x < 0) = decide (y < 0)) (h2 : ¬ y.natAbs ≤ x.natAbs) : zEc (decide (y < 0)) (y.natAbs - x.natAbs) = x + y := by
 unfold zEc
 rw [decide_eq_decide] at h
 by_cases h1 : y < 0
 · simp [h1]; omega
 · simp [h1]; omega
theorem zPy {x y : Int} : 0 ≤ zD0 x y ↔ y ≤ x := by
 unfold zD0
 split
 · omega
 · split <;> omega
theorem zP4 (x y : Int) (hx : (za x.natAbs).length ≤ 1000000) (hy : (za y.natAbs).length ≤ 1000000) : zW Tryz.prog 151 [zCh x, zCh y] (zCh (x + y)) := by
 by_cases h : decide (x < 0) = decide (y < 0)
 · have h1 := add_ok x.natAbs y.natAbs (by omega) (by omega)
   have h2 := zGE (decide (x < 0)) (x.natAbs + y.natAbs)
   rw [add_sgn1 x y h] at h2
   refine zV.value0 (zG (P := Tryz.prog) (fn := Tryz.f151) Y Y (by kernel_rfl) Y (fun c hR hfix => ?_)) (fix := fun _ => False) (fun _ h => h) Y Y
   unfold zCh at hR ⊢
   repeat (first | refine zC ?_ | refine zA ?_ | refine zX ?_ | refine zK rfl ?_ | refine zD (zT rfl rfl rfl rfl rfl) ?_ | refine zD (zP rfl rfl rfl rfl rfl rfl) ?_ | refine zD (zKy rfl rfl rfl) ?_ | refine zFP rfl rfl ?_ | refine zBD rfl rfl rfl ?_)
   refine z7 9 (.bool true) Y (AEq.of_eq (by rw [h]; simp)) ?_
   refine rn5 ?_
   refine zk (by kernel_rfl) ?_
   refine zt (fuel := 1) [0, 1, 2, 3, 4, 5, 6, 7] [(2, .ptr 0 0 0), (3, .ptr 1 0 0), (4, .ptr 2 0 0)] ⟨Y, Y, Y, trivial⟩ (by kernel_rfl) (by decide) Y Y ?_
   refine zU Y Y (zP Y Y Y Y Y Y) ?_
   refine zU Y Y (zT Y Y Y Y Y) ?_
   refine zU Y Y (zP Y Y Y Y Y Y) ?_
   refine zU Y Y (zT Y Y Y Y Y) ?_
   refine zU Y Y (zP Y Y Y Y Y Y) ?_
   refine zU Y Y (zT Y Y Y Y Y) ?_
   refine zBR Y Y Y Y Y h1 ?_
   refine zBR Y Y Y Y Y h2 ?_
   refine zAZ ?_
   refine zF (is := [8]) (by kernel_rfl) (by simp) Y ⟨fun o ho => ?_, trivial⟩
   all_goals (cases ho)
   skip
   unfold zCh
   refine zO (c' := .box [.bool (decide (x + y < 0)), zAO (x + y).natAbs]) Y Y Y Y Y Nat.zero_lt_one Y Y (fun i' j' hi' hj' => ?_) ?_
   · rw [if_pos (Nat.lt_one_iff.1 hi')]; rfl
   refine rn1 ?_
   refine zh (by kernel_rfl) ?_
   refine rn2 ?_
   exact zI hR Y Y
 · have h0 := zMI x.natAbs y.natAbs (by omega) (by omega)
   by_cases hc : y.natAbs ≤ x.natAbs
   · have h1 := sub_ok x.natAbs y.natAbs hc (by omega)
     have h2 := zGE (decide (x < 0)) (x.natAbs - y.natAbs)
     rw [add_sgn2 x y h hc] at h2
     refine zV.value0 (zG (P := Tryz.prog) (fn := Tryz.f151) Y Y (by kernel_rfl) Y (fun c hR hfix => ?_)) (fix := fun _ => False) (fun _ h => h) Y Y
     unfold zCh at hR ⊢
     repeat (first | refine zC ?_ | refine zA ?_ | refine zX ?_ | refine zK rfl ?_ | refine zD (zT rfl rfl rfl rfl rfl) ?_ | refine zD (zP rfl rfl rfl rfl rfl rfl) ?_ | refine zD (zKy rfl rfl rfl) ?_ | refine zFP rfl rfl ?_ | refine zBD rfl rfl rfl ?_)
     refine z7 9 (.bool false) Y (AEq.of_eq (by rw [beq_eq_false_iff_ne.2 h])) ?_
     refine rn5 ?_
     refine zB Y Y Y h0 ?_
     repeat (first | refine zC ?_ | refine zA ?_ | refine zD (zCk rfl rfl) ?_)
     refine zE Y (fun h5 => ?_) (fun h5 => absurd (zPy.2 (Int.ofNat_le.2 hc)) h5)
     repeat (refine zX ?_)
     refine zk (by kernel_rfl) ?_
     refine zt (fuel := 1) [0, 1, 2, 3, 4, 5, 6, 7] [(2, .ptr 0 0 0), (3, .ptr 1 0 0), (4, .ptr 2 0 0)] ⟨Y, Y, Y, trivial⟩ (by kernel_rfl) (by decide) Y Y ?_
     refine zU Y Y (zP Y Y Y Y Y Y) ?_
     refine zU Y Y (zT Y Y Y Y Y) ?_
     refine zU Y Y (zP Y Y Y Y Y Y) ?_
     refine zU Y Y (zT Y Y Y Y Y) ?_
     refine zU Y Y (zP Y Y Y Y Y Y) ?_
     refine zU Y Y (zT Y Y Y Y Y) ?_
     refine zBR Y Y Y Y Y h1 ?_
     refine zBR Y Y Y Y Y h2 ?_
     refine zAZ ?_
     refine zF (is := [8]) (by kernel_rfl) (by simp) Y ⟨fun o ho => ?_, trivial⟩
     all_goals (cases ho)
     skip
     unfold zCh
     refine zO (c' := .box [.bool (decide (x + y < 0)), zAO (x + y).natAbs]) Y Y Y Y Y Nat.zero_lt_one Y Y (fun i' j' hi' hj' => ?_) ?_
     · rw [if_pos (Nat.lt_one_iff.1 hi')]; rfl
     refine rn1 ?_
     refine zh (by kernel_rfl) ?_
     refine rn2 ?_
     exact zI hR Y Y
   · have h1 := sub_ok y.natAbs x.natAbs (by omega) (by omega)
     have h2 := zGE (decide (y < 0)) (y.natAbs - x.natAbs)
     rw [add_sgn3 x y h hc] at h2
     refine zV.value0 (zG (P := Tryz.prog) (fn := Tryz.f151) Y Y (by kernel_rfl) Y (fun c hR hfix => ?_)) (fix := fun _ => False) (fun _ h => h) Y Y
     unfold zCh at hR ⊢
     repeat (first | refine zC ?_ | refine zA ?_ | refine zX ?_ | refine zK rfl ?_ | refine zD (zT rfl rfl rfl rfl rfl) ?_ | refine zD (zP rfl rfl rfl rfl rfl rfl) ?_ | refine zD (zKy rfl rfl rfl) ?_ | refine zFP rfl rfl ?_ | refine zBD rfl rfl rfl ?_)
     refine z7 9 (.bool false) Y (AEq.of_eq (by rw [beq_eq_false_iff_ne.2 h])) ?_
     refine rn5 ?_
     refine zB Y Y Y h0 ?_
     repeat (first | refine zC ?_ | refine zA ?_ | refine zD (zCk rfl rfl) ?_)
     refine zE Y (fun h5 => absurd (Int.ofNat_le.1 (zPy.1 h5)) hc) (fun h5 => ?_)
     refine rn1 ?_
     refine zk (by kernel_rfl) ?_
     refine zt (fuel := 1) [0, 1, 2, 3, 4, 5, 6, 7] [(2, .ptr 0 0 0), (3, .ptr 1 0 0), (4, .ptr 2 0 0)] ⟨Y, Y, Y, trivial⟩ (by kernel_rfl) (by decide) Y Y ?_
     refine zU Y Y (zP Y Y Y Y Y Y) ?_
     refine zU Y Y (zT Y Y Y Y Y) ?_
     refine zU Y Y (zP Y Y Y Y Y Y) ?_
     refine zU Y Y (zT Y Y Y Y Y) ?_
     refine zU Y Y (zP Y Y Y Y Y Y) ?_
     refine zU Y Y (zT Y Y Y Y Y) ?_
     refine zBR Y Y Y Y Y h1 ?_
     refine zBR Y Y Y Y Y h2 ?_
     refine zAZ ?_
     refine zF (is := [8]) (by kernel_rfl) (by simp) Y ⟨fun o ho => ?_, trivial⟩
     all_goals (cases ho)
     skip
     unfold zCh
     refine zO (c' := .box [.bool (decide (x + y < 0)), zAO (x + y).natAbs]) Y Y Y Y Y Nat.zero_lt_one Y Y (fun i' j' hi' hj' => ?_) ?_
     · rw [if_pos (Nat.lt_one_iff.1 hi')]; rfl
     refine rn1 ?_
     refine zh (by kernel_rfl) ?_
     refine rn0 ?_
     exact zI hR Y Y
theorem len_neg {x : Int} {k : Nat} (h : (za x.natAbs).length ≤ k) : (za (-x).natAbs).length ≤ k := by rw [Int.natAbs_neg]; exact h
theorem isub_ok (x y : Int) (hx : (za x.natAbs).length ≤ 1000000) (hy : (za y.natAbs).length ≤ 1000000) : zW Tryz.prog 188 [zCh x, zCh y] (zCh (x - y)) := by
 have h1 := zQC y
 have h2 := zP4 x (-y) hx (len_neg hy)
 rw [show x + -y = x - y from rfl] at h2
 refine zV.value0 (zG (P := Tryz.prog) (fn := Tryz.f188) Y Y (by kernel_rfl) Y (fun c hR hfix => ?_)) (fix := fun _ => False) (fun _ h => h) Y Y
 refine rn6 ?_
 refine zk (by kernel_rfl) ?_
 refine zt (fuel := 1) [0, 1, 2, 3] [(2, .ptr 0 0 0), (3, .ptr 1 0 0), (4, .ptr 2 0 0)] ⟨Y, Y, Y, trivial⟩ (by kernel_rfl) (by decide) Y Y ?_
 refine zU Y Y (zn Y Y Y Y Y Y Y (by first | exact Nat.zero_lt_one | assumption | omega)) ?_
 refine zU Y Y (zn Y Y Y Y Y Y Y (by first | exact Nat.zero_lt_one | assumption | omega)) ?_
 refine zBR Y Y Y Y Y h1 ?_
 refine zBR Y Y Y Y Y h2 ?_
 refine zAZ ?_
 refine zF (is := [4]) (by kernel_rfl) (by simp) Y ⟨fun o ho => ?_, trivial⟩
 all_goals (cases ho)
 skip
 unfold zCh
 refine zO (c' := .box [.bool (decide (x - y < 0)), zAO (x - y).natAbs]) Y Y Y Y Y Nat.zero_lt_one Y Y (fun i' j' hi' hj' => ?_) ?_
 · rw [if_pos (Nat.lt_one_iff.1 hi')]; rfl
 refine rn1 ?_
 refine zh (by kernel_rfl) ?_
 refine rn0 ?_
 exact zI hR Y Y
theorem icmp_ok (x y : Int) (hx : (za x.natAbs).length ≤ 1000000) (hy : (za y.natAbs).length ≤ 1000000) : zW Tryz.prog 145 [zCh x, zCh y] (.int .i64 (sgn (x - y))) := by
 have h1 := isub_ok x y hx hy
 have h2 := zMr (x - y)
 refine zV.value0 (zG (P := Tryz.prog) (fn := Tryz.f145) Y Y (by kernel_rfl) Y (fun c hR hfix => ?_)) (fix := fun _ => False) (fun _ h => h) Y Y
 refine rn6 ?_
 refine zB Y Y Y h1 ?_
 skip
 refine zB Y Y Y h2 ?_
 refine rn0 ?_
 exact zI hR Y Y
theorem whole_ok (n : Int) (h : -9223372036854775808 ≤ n ∧ n < 9223372036854775808) : zW Tryz.prog 146 [.int .i64 n] (zCh n) := by
 refine zV.value0 (zG (P := Tryz.prog) (fn := Tryz.f146) Y Y (by kernel_rfl) Y (fun c hR hfix => ?_)) (fix := fun _ => False) (fun _ h => h) Y Y
 rcases Int.lt_or_le n 0 with hn | hn
 · have h1 := zKH n.natAbs (by omega)
   refine rn4 ?_
   refine zE Y (fun _ => ?_) (fun h0 => absurd hn h0)
   refine rn3 ?_
   refine zD (q_neg Y (by omega)) ?_
   refine zN 7 (.int .i64 ((n.natAbs - 1 : Nat) : Int)) Y (AEq.of_eq (congrArg _ (by omega))) ?_
   refine zD (zAb (m := n.natAbs - 1) Y Y Y zBO (by omega)) ?_
   refine zD (zFK (m := n.natAbs - 1) (n := 1) Y Y zBO (by omega)) ?_
   refine zN 9 (.int .u64 ((n.natAbs : Nat) : Int)) Y (AEq.of_eq (congrArg _ (by omega))) ?_
   skip
   refine zB Y Y Y h1 ?_
   repeat (refine zD (zAU rfl rfl rfl rfl rfl rfl) ?_)
   refine zO (c' := .box [.bool true, zAO n.natAbs]) Y Y Y Y Y Nat.zero_lt_one Y Y (fun i' j' hi' hj' => ?_) ?_
   · rw [if_pos (Nat.lt_one_iff.1 hi')]; rfl
   refine rn2 ?_
   refine zI hR Y ?_
   unfold zCh
   rw [show decide (n < 0) = true from decide_eq_true hn]
   rfl
 · have h1 := zKH n.natAbs (by omega)
   refine rn4 ?_
   refine zE Y (fun h0 => absurd h0 (by omega)) (fun h0 => ?_)
   refine rn1 ?_
   refine zN 12 (.int .i64 ((n.natAbs : Nat) : Int)) Y (AEq.of_eq (congrArg _ (by omega))) ?_
   refine zD (zAb (m := n.natAbs) Y Y Y zBO (by omega)) ?_
   skip
   refine zB Y Y Y h1 ?_
   repeat (refine zD (zAU rfl rfl rfl rfl rfl rfl) ?_)
   refine zO (c' := .box [.bool false, zAO n.natAbs]) Y Y Y Y Y Nat.zero_lt_one Y Y (fun i' j' hi' hj' => ?_) ?_
   · rw [if_pos (Nat.lt_one_iff.1 hi')]; rfl
   refine rn0 ?_
   refine zI hR Y ?_
   unfold zCh
   rw [show decide (n < 0) = false from decide_eq_false (by omega)]
   rfl
def qA (q : Rat) : AV := .agg [.bool (decide (q.num < 0)), zAO q.num.natAbs, zAO q.den]
theorem zH1 (n : Nat) : zCh (n : Int) = .agg [.bool false, zAO n] := by
 unfold zCh
 rw [show decide ((n : Int) < 0) = false from decide_eq_false (by omega), Int.natAbs_natCast]
theorem bne_iff {x y z : Int} (h : z < 0 ↔ x ≠ 0 ∧ ((x < 0 ∧ ¬ y < 0) ∨ (¬ x < 0 ∧ y < 0))) (hz : x = 0 → z = 0) : zEc (!(decide (x < 0) == decide (y < 0))) z.natAbs = z := by
 unfold zEc
 by_cases h1 : x < 0 <;> by_cases h2 : y < 0
 · simp [h1, h2]; have : ¬ z < 0 := fun q => by have := h.1 q; omega
   omega
 · simp [h1, h2]; have : z < 0 := h.2 (by omega)
   omega
 · simp [h1, h2]
   rcases Int.lt_or_le z 0 with q | q
   · omega
   · have : x = 0 := by
       rcases Int.lt_trichotomy x 0 with w | w | w
       · exact absurd w h1
       · exact w
       · exact absurd (h.2 ⟨by omega, .inr ⟨h1, h2⟩⟩) (by omega)
     have := hz this
     omega
 · simp [h1, h2]; have : ¬ z < 0 := fun q => by have := h.1 q; omega
   omega
theorem gcd_len {a b k : Nat} (ha : (za a).length ≤ k) (hb : (za b).length ≤ k) : (za (Nat.gcd a b)).length ≤ k := by
 rcases Nat.eq_zero_or_pos a with h | h
 · subst h; rw [Nat.gcd_zero_left]; exact hb
 · exact zE0 (Nat.gcd_le_left b h) ha
theorem zMU (n d : Int) (hd : d ≠ 0) (hn : (za n.natAbs).length ≤ 1000000) (hdl : (za d.natAbs).length ≤ 1000000) : zW Tryz.prog 150 [zCh n, zCh d] (qA (Rat.divInt n d)) := by
 obtain ⟨e1, e2, e3⟩ := zHj n d hd
 have hg := gcd_ok n.natAbs d.natAbs hn hdl
 have hgl := gcd_len hn hdl
 have hgp : 0 < Nat.gcd n.natAbs d.natAbs := Nat.gcd_pos_of_pos_right _ (by omega)
 have h1 := zPJ n.natAbs _ hgp hn hgl
 have h2 := zPJ d.natAbs _ hgp hdl hgl
 have h3 := zGE (!(decide (n < 0) == decide (d < 0))) (Rat.divInt n d).num.natAbs
 rw [bne_iff e3 (fun h0 => by rw [h0, Rat.zero_divInt]; rfl)] at h3
 rw [← e1] at h1
 rw [← e2] at h2
 refine zV.value0 (zG (P := Tryz.prog) (fn := Tryz.f150) Y Y (by kernel_rfl) Y (fun c hR hfix => ?_)) (fix := fun _ => False) (fun _ h => h) Y Y
 refine rn6 ?_
 refine zB Y Y Y hg ?_
 refine rn5 ?_
 refine zB Y Y Y h1 ?_
 refine rn5 ?_
 refine zB Y Y Y h2 ?_
 repeat (first | refine zD (zH rfl) ?_ | refine zD (zL rfl) ?_ | refine zC ?_ | refine zA ?_ | refine zX ?_ | refine zK rfl ?_ | refine zD (zT rfl rfl rfl rfl rfl) ?_ | refine zD (zBN rfl rfl) ?_ | refine zD (zP rfl rfl rfl rfl rfl rfl) ?_ | refine zD (zLU rfl rfl rfl) ?_)
 refine zB Y Y Y h3 ?_
 repeat (first | refine zD (zH rfl) ?_ | refine zD (zAU rfl rfl rfl rfl rfl rfl) ?_)
 refine zO (c' := .box [.bool (decide ((Rat.divInt n d).num < 0)), zAO (Rat.divInt n d).num.natAbs, zAO (Rat.divInt n d).den]) Y Y Y Y Y Nat.zero_lt_one Y Y (fun i' j' hi' hj' => ?_) ?_
 · rw [if_pos (Nat.lt_one_iff.1 hi')]; rfl
 refine rn0 ?_
 exact zI hR Y Y
def Sz (k : Nat) (q : Rat) : Prop := (za q.num.natAbs).length ≤ k ∧ (za q.den).length ≤ k
theorem zDY {x y : Int} {k : Nat} (hx : (za x.natAbs).length ≤ k) (hy : (za y.natAbs).length ≤ k) : (za (x * y).natAbs).length ≤ k + k := by
 rw [Int.natAbs_mul]; exact zJk hx hy
theorem zM4 {x y : Int} {k : Nat} (hx : (za x.natAbs).length ≤ k) (hy : (za y.natAbs).length ≤ k) : (za (x + y).natAbs).length ≤ k + 1 :=
 zE0 (Int.natAbs_add_le x y) (len_add hx hy)
theorem den_ne (q : Rat) : (q.den : Int) ≠ 0 := by have := q.den_nz; omega
theorem zE7 (p q : Rat) (hp : Sz 100000 p) (hq : Sz 100000 q) : zW Tryz.prog 91 [qA p, qA q] (qA (p + q)) := by
 have l1 : (za (q.den : Int).natAbs).length ≤ 100000 := hq.2
 have l2 : (za (p.den : Int).natAbs).length ≤ 100000 := hp.2
 have h1 := zFy p.num q.den (by have := hp.1; omega) (by omega)
 have h2 := zFy q.num p.den (by have := hq.1; omega) (by omega)
 have m1 := zDY hp.1 l1
 have m2 := zDY hq.1 l2
 have h3 := zP4 (p.num * q.den) (q.num * p.den) (by omega) (by omega)
 have h4 := zOV p.den q.den (by have := hp.2; omega) (by have := hq.2; omega)
 have m3 := zM4 m1 m2
 have m4 := zJk hp.2 hq.2
 have h5 := zMU (p.num * q.den + q.num * p.den) ((p.den * q.den : Nat) : Int) (by have := Nat.mul_ne_zero p.den_nz q.den_nz; omega) (by omega) (by rw [Int.natAbs_natCast]; omega)
 rw [zH1, zK2] at h5
 rw [zH1] at h1 h2
 refine zV.value0 (zG (P := Tryz.prog) (fn := Tryz.f91) Y Y (by kernel_rfl) Y (fun c hR hfix => ?_)) (fix := fun _ => False) (fun _ h => h) Y Y
 refine rn6 ?_
 refine zk (by kernel_rfl) ?_
 refine zt (fuel := 1) [0, 1, 2, 3, 4, 5, 6, 7, 8, 9, 10, 11, 12, 13, 14, 15, 16, 17, 18, 19] [(2, .ptr 0 0 0), (3, .ptr 1 0 0), (4, .ptr 2 0 0)] ⟨Y, Y, Y, trivial⟩ (by kernel_rfl) (by decide) Y Y ?_
 refine zU Y Y (zP Y Y Y Y Y Y) ?_
 refine zU Y Y (zn Y Y Y Y Y Y Y (by first | exact Nat.zero_lt_one | assumption | omega)) ?_
 refine zU Y Y (zP Y Y Y Y Y Y) ?_
 refine zU Y Y (zT Y Y Y Y Y) ?_
 refine zU Y Y (zAU Y Y Y Y Y Y) ?_
 refine zBR Y Y Y Y Y h1 ?_
 refine zU Y Y (zP Y Y Y Y Y Y) ?_
 refine zU Y Y (zn Y Y Y Y Y Y Y (by first | exact Nat.zero_lt_one | assumption | omega)) ?_
 refine zU Y Y (zP Y Y Y Y Y Y) ?_
 refine zU Y Y (zT Y Y Y Y Y) ?_
 refine zU Y Y (zAU Y Y Y Y Y Y) ?_
 refine zBR Y Y Y Y Y h2 ?_
 refine zBR Y Y Y Y Y h3 ?_
 refine zU Y Y (zP Y Y Y Y Y Y) ?_
 refine zU Y Y (zT Y Y Y Y Y) ?_
 refine zU Y Y (zP Y Y Y Y Y Y) ?_
 refine zU Y Y (zT Y Y Y Y Y) ?_
 refine zBR Y Y Y Y Y h4 ?_
 refine zU Y Y (zAU Y Y Y Y Y Y) ?_
 refine zBR Y Y Y Y Y h5 ?_
 refine zAZ ?_
 refine zF (is := [20]) (by kernel_rfl) (by simp) Y ⟨fun o ho => ?_, trivial⟩
 all_goals (cases ho)
 skip
 unfold qA
 refine zO (c' := .box [.bool (decide ((p + q).num < 0)), zAO (p + q).num.natAbs, zAO (p + q).den]) Y Y Y Y Y Nat.zero_lt_one Y Y (fun i' j' hi' hj' => ?_) ?_
 · rw [if_pos (Nat.lt_one_iff.1 hi')]; rfl
 refine rn1 ?_
 refine zh (by kernel_rfl) ?_
 refine rn0 ?_
 exact zI hR Y Y
theorem zFx (p q : Rat) (hp : Sz 100000 p) (hq : Sz 100000 q) : zW Tryz.prog 105 [qA p, qA q] (qA (p * q)) := by
 have h1 := zFy p.num q.num (by have := hp.1; omega) (by have := hq.1; omega)
 have m1 := zDY hp.1 hq.1
 have h4 := zOV p.den q.den (by have := hp.2; omega) (by have := hq.2; omega)
 have m4 := zJk hp.2 hq.2
 have h5 := zMU (p.num * q.num) ((p.den * q.den : Nat) : Int) (by have := Nat.mul_ne_zero p.den_nz q.den_nz; omega) (by omega) (by rw [Int.natAbs_natCast]; omega)
 rw [zH1, zNK] at h5
 refine zV.value0 (zG (P := Tryz.prog) (fn := Tryz.f105) Y Y (by kernel_rfl) Y (fun c hR hfix => ?_)) (fix := fun _ => False) (fun _ h => h) Y Y
 refine rn6 ?_
 refine zk (by kernel_rfl) ?_
 refine zt (fuel := 1) [0, 1, 2, 3, 4, 5, 6, 7, 8, 9, 10, 11] [(2, .ptr 0 0 0), (3, .ptr 1 0 0), (4, .ptr 2 0 0)] ⟨Y, Y, Y, trivial⟩ (by kernel_rfl) (by decide) Y Y ?_
 refine zU Y Y (zP Y Y Y Y Y Y) ?_
 refine zU Y Y (zn Y Y Y Y Y Y Y (by first | exact Nat.zero_lt_one | assumption | omega)) ?_
 refine zU Y Y (zP Y Y Y Y Y Y) ?_
 refine zU Y Y (zn Y Y Y Y Y Y Y (by first | exact Nat.zero_lt_one | assumption | omega)) ?_
 refine zBR Y Y Y Y Y h1 ?_
 refine zU Y Y (zP Y Y Y Y Y Y) ?_
 refine zU Y Y (zT Y Y Y Y Y) ?_
 refine zU Y Y (zP Y Y Y Y Y Y) ?_
 refine zU Y Y (zT Y Y Y Y Y) ?_
 refine zBR Y Y Y Y Y h4 ?_
 refine zU Y Y (zAU Y Y Y Y Y Y) ?_
 refine zBR Y Y Y Y Y h5 ?_
 refine zAZ ?_
 refine zF (is := [12]) (by kernel_rfl) (by simp) Y ⟨fun o ho => ?_, trivial⟩
 all_goals (cases ho)
 skip
 unfold qA
 refine zO (c' := .box [.bool (decide ((p * q).num < 0)), zAO (p * q).num.natAbs, zAO (p * q).den]) Y Y Y Y Y Nat.zero_lt_one Y Y (fun i' j' hi' hj' => ?_) ?_
 · rw [if_pos (Nat.lt_one_iff.1 hi')]; rfl
 refine rn1 ?_
 refine zh (by kernel_rfl) ?_
 refine rn0 ?_
 exact zI hR Y Y
theorem qdiv_ok (p q : Rat) (hp : Sz 100000 p) (hq : Sz 100000 q) (h0 : q ≠ 0) : zW Tryz.prog 108 [qA p, qA q] (qA (p / q)) := by
 have l1 : (za (q.den : Int).natAbs).length ≤ 100000 := hq.2
 have l2 : (za (p.den : Int).natAbs).length ≤ 100000 := hp.2
 have h1 := zFy p.num q.den (by have := hp.1; omega) (by omega)
 have h2 := zFy q.num p.den (by have := hq.1; omega) (by omega)
 have m1 := zDY hp.1 l1
 have m2 := zDY hq.1 l2
 have hn : q.num ≠ 0 := fun h => h0 (Rat.num_eq_zero.1 h)
 have h5 := zMU (p.num * q.den) (q.num * p.den) (Int.mul_ne_zero hn (den_ne p)) (by omega) (by omega)
 rw [zN1 p q h0] at h5
 rw [zH1] at h1 h2
 refine zV.value0 (zG (P := Tryz.prog) (fn := Tryz.f108) Y Y (by kernel_rfl) Y (fun c hR hfix => ?_)) (fix := fun _ => False) (fun _ h => h) Y Y
 refine rn6 ?_
 refine zk (by kernel_rfl) ?_
 refine zt (fuel := 1) [0, 1, 2, 3, 4, 5, 6, 7, 8, 9, 10, 11, 12] [(2, .ptr 0 0 0), (3, .ptr 1 0 0), (4, .ptr 2 0 0)] ⟨Y, Y, Y, trivial⟩ (by kernel_rfl) (by decide) Y Y ?_
 refine zU Y Y (zP Y Y Y Y Y Y) ?_
 refine zU Y Y (zn Y Y Y Y Y Y Y (by first | exact Nat.zero_lt_one | assumption | omega)) ?_
 refine zU Y Y (zP Y Y Y Y Y Y) ?_
 refine zU Y Y (zT Y Y Y Y Y) ?_
 refine zU Y Y (zAU Y Y Y Y Y Y) ?_
 refine zBR Y Y Y Y Y h1 ?_
 refine zU Y Y (zP Y Y Y Y Y Y) ?_
 refine zU Y Y (zn Y Y Y Y Y Y Y (by first | exact Nat.zero_lt_one | assumption | omega)) ?_
 refine zU Y Y (zP Y Y Y Y Y Y) ?_
 refine zU Y Y (zT Y Y Y Y Y) ?_
 refine zU Y Y (zAU Y Y Y Y Y Y) ?_
 refine zBR Y Y Y Y Y h2 ?_
 refine zBR Y Y Y Y Y h5 ?_
 refine zAZ ?_
 refine zF (is := [13]) (by kernel_rfl) (by simp) Y ⟨fun o ho => ?_, trivial⟩
 all_goals (cases ho)
 skip
 unfold qA
 refine zO (c' := .box [.bool (decide ((p / q).num < 0)), zAO (p / q).num.natAbs, zAO (p / q).den]) Y Y Y Y Y Nat.zero_lt_one Y Y (fun i' j' hi' hj' => ?_) ?_
 · rw [if_pos (Nat.lt_one_iff.1 hi')]; rfl
 refine rn1 ?_
 refine zh (by kernel_rfl) ?_
 refine rn0 ?_
 exact zI hR Y Y
theorem zPb (p q : Rat) (hp : Sz 100000 p) (hq : Sz 100000 q) : zW Tryz.prog 84 [qA p, qA q] (.int .i64 (cmpQ p q)) := by
 have l1 : (za (q.den : Int).natAbs).length ≤ 100000 := hq.2
 have l2 : (za (p.den : Int).natAbs).length ≤ 100000 := hp.2
 have h1 := zFy p.num q.den (by have := hp.1; omega) (by omega)
 have h2 := zFy q.num p.den (by have := hq.1; omega) (by omega)
 have m1 := zDY hp.1 l1
 have m2 := zDY hq.1 l2
 have h5 := icmp_ok (p.num * q.den) (q.num * p.den) (by omega) (by omega)
 rw [sgn_cmp p q] at h5
 rw [zH1] at h1 h2
 refine zV.value0 (zG (P := Tryz.prog) (fn := Tryz.f84) Y Y (by kernel_rfl) Y (fun c hR hfix => ?_)) (fix := fun _ => False) (fun _ h => h) Y Y
 refine rn6 ?_
 refine zk (by kernel_rfl) ?_
 refine zt (fuel := 0) [0, 1, 2, 3, 4, 5, 6, 7, 8, 9, 10, 11, 12, 13] [(2, .ptr 0 0 0), (3, .ptr 1 0 0)] ⟨Y, Y, trivial⟩ (by kernel_rfl) (by decide) Y Y ?_
 refine zU Y Y (zP Y Y Y Y Y Y) ?_
 refine zU Y Y (zn Y Y Y Y Y Y Y (by first | exact Nat.zero_lt_one | assumption | omega)) ?_
 refine zU Y Y (zP Y Y Y Y Y Y) ?_
 refine zU Y Y (zT Y Y Y Y Y) ?_
 refine zU Y Y (zAU Y Y Y Y Y Y) ?_
 refine zBR Y Y Y Y Y h1 ?_
 refine zU Y Y (zP Y Y Y Y Y Y) ?_
 refine zU Y Y (zn Y Y Y Y Y Y Y (by first | exact Nat.zero_lt_one | assumption | omega)) ?_
 refine zU Y Y (zP Y Y Y Y Y Y) ?_
 refine zU Y Y (zT Y Y Y Y Y) ?_
 refine zU Y Y (zAU Y Y Y Y Y Y) ?_
 refine zBR Y Y Y Y Y h2 ?_
 refine zBR Y Y Y Y Y h5 ?_
 refine zU Y Y (zL Y) ?_
 refine zAZ ?_
 refine zh (by kernel_rfl) ?_
 refine rn0 ?_
 exact zI hR Y Y
theorem zNy (p : Rat) : zW Tryz.prog 98 [qA p] (.int .i64 (sgn p.num)) := by
 have h1 := zMr p.num
 refine zV.value0 (zG (P := Tryz.prog) (fn := Tryz.f98) Y Y (by kernel_rfl) Y (fun c hR hfix => ?_)) (fix := fun _ => False) (fun _ h => h) Y Y
 refine rn6 ?_
 refine zB Y Y Y h1 ?_
 refine rn0 ?_
 exact zI hR Y Y
theorem qopp_ok (p : Rat) : zW Tryz.prog 79 [qA p] (qA (-p)) := by
 have h1 := zQC p.num
 refine zV.value0 (zG (P := Tryz.prog) (fn := Tryz.f79) Y Y (by kernel_rfl) Y (fun c hR hfix => ?_)) (fix := fun _ => False) (fun _ h => h) Y Y
 refine rn6 ?_
 refine zk (by kernel_rfl) ?_
 refine zt (fuel := 1) [0, 1, 2, 3, 4, 5] [(1, .ptr 0 0 0), (2, .ptr 1 0 0)] ⟨Y, Y, trivial⟩ (by kernel_rfl) (by decide) Y Y ?_
 refine zU Y Y (zP Y Y Y Y Y Y) ?_
 refine zU Y Y (zn Y Y Y Y Y Y Y (by first | exact Nat.zero_lt_one | assumption | omega)) ?_
 refine zBR Y Y Y Y Y h1 ?_
 refine zU Y Y (zP Y Y Y Y Y Y) ?_
 refine zU Y Y (zT Y Y Y Y Y) ?_
 refine zU Y Y (zAU Y Y Y Y Y Y) ?_
 refine zAZ ?_
 refine zF (is := [6]) (by kernel_rfl) (by simp) Y ⟨fun o ho => ?_, trivial⟩
 all_goals (cases ho)
 skip
 refine zO (c' := .box [.bool (decide ((-p).num < 0)), zAO (-p).num.natAbs, zAO (-p).den]) Y Y Y Y Y Nat.zero_lt_one Y Y (fun i' j' hi' hj' => ?_) ?_
 · rw [if_pos (Nat.lt_one_iff.1 hi')]; rfl
 refine rn1 ?_
 refine zh (by kernel_rfl) ?_
 refine rn0 ?_
 exact zI hR Y Y
end Go.Proofs.YtnkealfaldjipaaGreatDoor
namespace Go.Proofs.YtnkealfaldjipaaGreatDoor
open Go.Ax Go.Ax.Bg Go.Ax.Rt Go.RowKit
attribute [local irreducible] Ax zBG QOp zV zA0
set_option maxRecDepth 100000
set_option maxHeartbeats 4000000
open Go.Ax.Tb (zC6 zKz)
theorem zNI : zAO 1 = .ro (.ints .u32 [1]) 0 1 := by unfold zAO; rw [zGZ]; rfl
theorem qA_int (z : Int) : qA (z : Rat) = .agg [.bool (decide (z < 0)), zAO z.natAbs, zAO 1] := rfl
theorem qof_ok (n : Int) (h : -9223372036854775808 ≤ n ∧ n < 9223372036854775808) : zW Tryz.prog 85 [.int .i64 n] (qA (n : Rat)) := by
 have h1 := whole_ok n h
 refine zV.value0 (zG (P := Tryz.prog) (fn := Tryz.f85) Y Y (by kernel_rfl) Y (fun c hR hfix => ?_)) (fix := fun _ => False) (fun _ h => h) Y Y
 refine rn4 ?_
 refine zB Y Y Y h1 ?_
 unfold zCh
 repeat (first | refine zD (zAU rfl rfl rfl rfl rfl rfl) ?_ | refine zj rfl rfl rfl rfl rfl rfl rfl rfl rfl rfl rfl ?_)
 refine zO (c' := .box [.bool (decide (n < 0)), zAO n.natAbs, .ro (.ints .u32 [1]) 0 1]) Y Y Y Y Y Nat.zero_lt_one Y Y (fun i' j' hi' hj' => ?_) ?_
 · rw [if_pos (Nat.lt_one_iff.1 hi')]; rfl
 refine rn0 ?_
 refine zI hR Y ?_
 rw [qA_int, zNI]
 rfl
theorem zOK (s : List UInt8) (b : Int) : zW Tryz.prog 221 [.str s, .int .u8 b] (.int .i64 (Lib.indexByte s b.toNat.toUInt8)) := by
 refine zV.value0 (zG (P := Tryz.prog) (fn := Tryz.f221) Y Y (by kernel_rfl) Y (fun c hR hfix => ?_)) (fix := fun _ => False) (fun _ h => h) Y Y
 refine rn0 ?_
 refine zD (zMl Y Y Y Y (by kernel_rfl) (by kernel_rfl) (by kernel_rfl) (by kernel_rfl)) ?_
 refine rn0 ?_
 exact zI hR Y Y
theorem indexI1 (s : List UInt8) (b : UInt8) : zW Tryz.prog 194 [.str s, .str [b]] (.int .i64 (Lib.indexByte s b)) := by
 refine zV.value0 (zG (P := Tryz.prog) (fn := Tryz.f194) Y Y (by kernel_rfl) Y (fun c hR hfix => ?_)) (fix := fun _ => False) (fun _ h => h) Y Y
 refine rn6 ?_
 refine zE Y (fun h => ?_) (fun h => ?_)
 · refine rn6 ?_
   refine zI hR Y ?_
   subst h
   simp [zBL, Lib.indexByte]
 repeat (first | refine zD (zH rfl) ?_ | refine zD (zL rfl) ?_ | refine zC ?_ | refine zA ?_ | refine zX ?_ | refine zK rfl ?_ | refine zAX rfl ?_ | refine zD (zEf rfl rfl) ?_ | refine zD (zFb rfl rfl rfl (by first | assumption | omega | simp)) ?_)
 refine zB Y Y Y (zOK s b.toNat) ?_
 refine rn6 ?_
 refine zI hR Y ?_
 simp [zBL]
theorem zMF (l : List UInt8) (b : UInt8) : Lib.indexByte l b < l.length := by
 induction l with
 | nil => simp [Lib.indexByte]
 | cons c r ih =>
   rw [Lib.indexByte]
   simp only [List.length_cons]
   split
   · omega
   · split
     · omega
     · omega
theorem cutI (s : List UInt8) (b : UInt8) (h : s.length ≤ 9223372036854775807) : zW Tryz.prog 154 [.str s, .str [b]] (.tup [.str (zC6 b s).1, .str (zC6 b s).2.1, .bool (zC6 b s).2.2]) := by
 have hc := zKz b s
 have hlt := zMF s b
 have hge := Lib.indexByte_ge s b
 have ci := indexI1 s b
 refine zV.value0 (zG (P := Tryz.prog) (fn := Tryz.f154) Y Y (by kernel_rfl) Y (fun c hR hfix => ?_)) (fix := fun _ => False) (fun _ h => h) Y Y
 generalize Lib.indexByte s b = i at *
 refine rn0 ?_
 refine zB Y Y Y ci ?_
 repeat (first | refine zD (zH rfl) ?_ | refine zD (zL rfl) ?_ | refine zC ?_ | refine zA ?_ | refine zX ?_ | refine zK rfl ?_ | refine zD (zCk rfl rfl) ?_)
 refine zE Y (fun h0 => ?_) (fun h0 => ?_)
 · rw [if_pos h0] at hc
   rw [hc] at hR
   have hb1 : ([b] : List UInt8).length = 1 := rfl
   have hi1 : (i + 1).toNat = i.toNat + 1 := by omega
   repeat (refine zX ?_)
   refine zDf (by kernel_rfl) (by kernel_rfl) Y ?_
   repeat (first | refine zD (zH rfl) ?_ | refine zD (zL rfl) ?_ | refine zC ?_ | refine zA ?_ | refine zAS ?_ | refine zCN ?_ | refine zD (zCY rfl rfl) ?_ | refine zD (zDZ rfl rfl (by omega)) ?_ | refine zD (zCr rfl rfl rfl rfl rfl rfl (by omega)) ?_)
   refine zI hR Y ?_
   simp [zBL, hi1]
   exact List.take_of_length_le (by simp)
 · rw [if_neg h0] at hc
   rw [hc] at hR
   refine rn1 ?_
   exact zI hR Y Y
theorem cutS (s : List UInt8) (b : UInt8) (h : s.length ≤ 9223372036854775807) : zW Tryz.prog 93 [.str s, .str [b]] (.tup [.str (zC6 b s).1, .str (zC6 b s).2.1, .bool (zC6 b s).2.2]) := by
 have ci := cutI s b h
 refine zV.value0 (zG (P := Tryz.prog) (fn := Tryz.f93) Y Y (by kernel_rfl) Y (fun c hR hfix => ?_)) (fix := fun _ => False) (fun _ h => h) Y Y
 generalize zC6 b s = q at *
 refine rn0 ?_
 refine zB Y Y Y ci ?_
 refine rn2 ?_
 exact zI hR Y Y
theorem cutP1 (s p : List UInt8) (hs : s.length ≤ 9223372036854775807) (hp : p.length ≤ 9223372036854775807) : zW Tryz.prog 153 [.str s, .str p] (.tup [.str (if zII s p then s.drop p.length else s), .bool (zII s p)]) := by
 have h1 := zP1 s p hs hp
 refine zV.value0 (zG (P := Tryz.prog) (fn := Tryz.f153) Y Y (by kernel_rfl) Y (fun c hR hfix => ?_)) (fix := fun _ => False) (fun _ h => h) Y Y
 by_cases h : zII s p = true
 · have hle : p.length ≤ s.length := by unfold zII at h; exact (of_decide_eq_true h).1
   rw [h] at h1 hR
   refine rn0 ?_
   refine zB Y Y Y h1 ?_
   repeat (first | refine zD (zH rfl) ?_ | refine zD (zL rfl) ?_ | refine zC ?_ | refine zA ?_ | refine zX ?_ | refine zK rfl ?_ | refine z6 rfl ?_ | refine zl ?_ | refine zAS ?_ | refine zD (zDy rfl) ?_ | refine zD (zCY rfl rfl) ?_ | refine zD (zCr rfl rfl rfl rfl rfl rfl (by omega)) ?_)
   refine zI hR Y ?_
   simp only [zBL, Int.toNat_natCast]
   rw [List.take_of_length_le (by simp)]
   rfl
 · rw [Bool.not_eq_true] at h
   rw [h] at h1 hR
   refine rn0 ?_
   refine zB Y Y Y h1 ?_
   refine rn5 ?_
   exact zI hR Y Y
theorem cutP (s p : List UInt8) (hs : s.length ≤ 9223372036854775807) (hp : p.length ≤ 9223372036854775807) : zW Tryz.prog 92 [.str s, .str p] (.tup [.str (if zII s p then s.drop p.length else s), .bool (zII s p)]) := by
 have h1 := cutP1 s p hs hp
 refine zV.value0 (zG (P := Tryz.prog) (fn := Tryz.f92) Y Y (by kernel_rfl) Y (fun c hR hfix => ?_)) (fix := fun _ => False) (fun _ h => h) Y Y
 generalize zII s p = b at *
 refine rn0 ?_
 refine zB Y Y Y h1 ?_
 refine rn2 ?_
 exact zI hR Y Y
end Go.Proofs.YtnkealfaldjipaaGreatDoor
namespace Go.Ax.Rt
open Go.Ax.Bg
open Go.Ax.Tb (zBm zB1 zCf zC6 zQE zPd zEQ)
def zDB : List UInt8 → Bool
 | c :: _ => decide (c = 45)
 | [] => false
def zEJ (s : List UInt8) : List UInt8 := if zDB s then s.drop 1 else s
def zEB (s : List UInt8) : List UInt8 := (zC6 47 (zEJ s)).1
def zEE (s : List UInt8) : List UInt8 := (zC6 47 (zEJ s)).2.1
def zGR (s : List UInt8) : Bool := (zC6 47 (zEJ s)).2.2
/-- rat.Check -/
def zDa (s : List UInt8) : Int :=
 if zFO (zEB s) = false ∨ (zGR s = true ∧ zFO (zEE s) = false) ∨ (zDB s = true ∧ zEB s = [48]) then 5
 else if 2000 < (zEB s).length ∨ 2000 < (zEE s).length then 2
 else if zGR s = true ∧ (zEE s = [48] ∨ zEE s = [49] ∨ Nat.gcd (zA8 0 (zEB s)) (zA8 0 (zEE s)) ≠ 1) then 3 else 0
def zKf (s : List UInt8) : Nat := if zGR s then zA8 0 (zEE s) else 1
def zAM (s : List UInt8) : Rat := Rat.divInt (zEc (zDB s) (zA8 0 (zEB s))) (zKf s : Nat)
def zAJ (q : Rat) : List UInt8 := (if q.num < 0 then [45] else []) ++ (Lib.decDigits q.num.natAbs ++ (if q.den = 1 then [] else 47 :: Lib.decDigits q.den))
def zBK (q : Rat) : Bool := decide ((Lib.decDigits q.num.natAbs).length ≤ 2000) && decide ((Lib.decDigits q.den).length ≤ 2000)
def zEZ (q : Rat) : List UInt8 × Int := if zBK q then (zAJ q, 0) else ([], 2)
theorem zLl (b : UInt8) : ∀ l : List UInt8, l = (zC6 b l).1 ++ (if (zC6 b l).2.2 then b :: (zC6 b l).2.1 else [])
 | [] => rfl
 | c :: r => by
   rw [zC6]
   split
   · rename_i h; subst h; simp
   · have := zLl b r
     simp only [List.cons_append, List.cons.injEq, true_and]
     exact this
structure Parts (s : List UInt8) (q : Rat) : Prop where
 num : q.num = zEc (zDB s) (zA8 0 (zEB s))
 den : q.den = zKf s
 cn : zHP (zEB s)
 cd : zGR s = true → zHP (zEE s) ∧ zA8 0 (zEE s) ≠ 0 ∧ zA8 0 (zEE s) ≠ 1
 ln : (zEB s).length ≤ 2000
 ld : (zEE s).length ≤ 2000
 ng : zDB s = true → zA8 0 (zEB s) ≠ 0
theorem zML {s : List UInt8} {n : Nat} (hc : zHP s) (hn : n < 10) (h : zA8 0 s = n) : s = [UInt8.ofNat (48 + n)] := by
 rw [← zFY hc, h, Lib.decDigits_one hn]
theorem zHI {s : List UInt8} (h : zGR s = false) : zKf s = 1 := by unfold zKf; rw [h]; rfl
theorem zFq {s : List UInt8} (h : zGR s = true) : zKf s = zA8 0 (zEE s) := by unfold zKf; rw [h]; rfl
theorem zFe {s : List UInt8} (h : zDa s = 0) : Parts s (zAM s) := by
 unfold zDa at h
 split at h
 · omega
 split at h
 · omega
 split at h
 · omega
 rename_i h1 h2 h3
 simp only [not_or, not_and, Bool.not_eq_false] at h1 h2 h3
 obtain ⟨a1, a2, a3⟩ := h1
 have cn := zDn.1 a1
 have cd : zGR s = true → zHP (zEE s) ∧ zA8 0 (zEE s) ≠ 0 ∧ zA8 0 (zEE s) ≠ 1 := fun hd => by
   have c := zDn.1 (a2 hd)
   exact ⟨c, fun e => (h3 hd).1 (zML c (by decide) e), fun e => (h3 hd).2.1 (zML c (by decide) e)⟩
 have hd0 : zKf s ≠ 0 := by
   cases e : zGR s
   · rw [zHI e]; decide
   · rw [zFq e]; exact (cd e).2.1
 have hg : Nat.gcd (zA8 0 (zEB s)) (zKf s) = 1 := by
   cases e : zGR s
   · rw [zHI e]; exact Nat.gcd_one_right _
   · rw [zFq e]; exact Classical.not_not.1 (h3 e).2.2
 obtain ⟨e1, e2, e3⟩ := zH0 (zEc (zDB s) (zA8 0 (zEB s))) (zKf s) hd0
 rw [zEW, hg, Nat.div_one] at e1
 rw [zEW, hg, Nat.div_one] at e2
 refine ⟨?_, e2, cn, cd, by omega, by omega, fun hn e => a3 hn (zML cn (by decide) e)⟩
 show (Rat.divInt _ _).num = _
 have := zEW (zDB s) (zA8 0 (zEB s))
 omega
theorem neg_body {s : List UInt8} : s = (if zDB s then [45] else []) ++ zEJ s := by
 unfold zEJ
 cases s with
 | nil => rfl
 | cons c r =>
   unfold zDB
   by_cases h : c = 45
   · subst h; rfl
   · simp [h]
theorem Parts.text {s : List UInt8} {q : Rat} (h : Parts s q) : zAJ q = s := by
 conv => rhs; rw [neg_body (s := s), zLl 47 (zEJ s)]
 change zAJ q = _ ++ (zEB s ++ if zGR s then 47 :: zEE s else [])
 unfold zAJ
 rw [h.num, h.den, zEW, zFY h.cn]
 congr 1
 · have := zKS (zDB s) (zA8 0 (zEB s))
   cases e : zDB s
   · rw [e] at this; simp at this
     rw [if_neg (by simpa [e] using this)]; rfl
   · rw [e] at this
     have hn := h.ng e
     simp [hn] at this
     rw [if_pos this]; rfl
 · congr 1
   cases e : zGR s
   · rw [zHI e]; rfl
   · obtain ⟨c, c0, c1⟩ := h.cd e
     rw [zFq e, if_neg c1, zFY c]; rfl
theorem zMp (q : Rat) : zDB (zAJ q) = decide (q.num < 0) ∧ zEJ (zAJ q) = Lib.decDigits q.num.natAbs ++ (if q.den = 1 then [] else 47 :: Lib.decDigits q.den) := by
 have hne := zCf q.num.natAbs
 have h45 := zEQ q.num.natAbs 45 (by decide)
 unfold zEJ zAJ
 by_cases h : q.num < 0
 · simp [h, zDB]
 · have : zDB (Lib.decDigits q.num.natAbs ++ (if q.den = 1 then [] else 47 :: Lib.decDigits q.den)) = false := by
     cases e : Lib.decDigits q.num.natAbs with
     | nil => exact absurd e hne
     | cons c r =>
       rw [e] at h45
       have : c ≠ 45 := fun e => h45 (by simp [e])
       simp [zDB, this]
   simp [h, this]
theorem zJ3 (q : Rat) : zC6 47 (zEJ (zAJ q)) = (Lib.decDigits q.num.natAbs, (if q.den = 1 then [] else Lib.decDigits q.den), decide (q.den ≠ 1)) := by
 rw [(zMp q).2]
 by_cases h : q.den = 1
 · rw [if_pos h, if_pos h, List.append_nil, zQE (zEQ _ 47 (by decide))]
   simp [h]
 · rw [if_neg h, if_neg h, zPd (zEQ _ 47 (by decide))]
   simp [h]
theorem rat_of {q : Rat} (h : zBK q = true) : zDa (zAJ q) = 0 ∧ zAM (zAJ q) = q := by
 have e1 : zEB (zAJ q) = Lib.decDigits q.num.natAbs := by unfold zEB; rw [zJ3]
 have e2 : zEE (zAJ q) = if q.den = 1 then [] else Lib.decDigits q.den := by unfold zEE; rw [zJ3]
 have e3 : zGR (zAJ q) = decide (q.den ≠ 1) := by unfold zGR; rw [zJ3]
 have e4 := (zMp q).1
 unfold zBK at h
 rw [Bool.and_eq_true, decide_eq_true_eq, decide_eq_true_eq] at h
 constructor
 · unfold zDa
   rw [e1, e2, e3, e4, zBT, zDn.2 (zEK _)]
   have g1 : ¬ (true = false ∨ (decide (q.den ≠ 1) = true ∧ zFO (if q.den = 1 then [] else Lib.decDigits q.den) = false) ∨ (decide (q.num < 0) = true ∧ Lib.decDigits q.num.natAbs = [48])) := by
     rintro (g | ⟨g1, g2⟩ | ⟨g1, g2⟩)
     · cases g
     · rw [decide_eq_true_eq] at g1
       rw [if_neg g1, zDn.2 (zEK _)] at g2
       cases g2
     · rw [decide_eq_true_eq] at g1
       have : q.num.natAbs = 0 := zFT (by rw [g2, Lib.decDigits_one (by decide)]; rfl)
       omega
   have g2 : ¬ (2000 < (Lib.decDigits q.num.natAbs).length ∨ 2000 < (if q.den = 1 then [] else Lib.decDigits q.den : List UInt8).length) := by
     rintro (g | g)
     · omega
     · split at g
       · simp at g
       · omega
   have g3 : ¬ (decide (q.den ≠ 1) = true ∧ ((if q.den = 1 then [] else Lib.decDigits q.den) = [48] ∨ (if q.den = 1 then [] else Lib.decDigits q.den) = [49] ∨ Nat.gcd q.num.natAbs (zA8 0 (if q.den = 1 then [] else Lib.decDigits q.den)) ≠ 1)) := by
     rintro ⟨g, g3⟩
     rw [decide_eq_true_eq] at g
     rw [if_neg g] at g3
     rw [zBT] at g3
     rcases g3 with g3 | g3 | g3
     · have : q.den = 0 := zFT (by rw [g3, Lib.decDigits_one (by decide)]; rfl)
       exact q.den_nz this
     · exact g (zFT (by rw [g3, Lib.decDigits_one (by decide)]; rfl))
     · exact g3 q.reduced
   rw [if_neg g1, if_neg g2, if_neg g3]
 · unfold zAM
   have e5 : zKf (zAJ q) = q.den := by
     unfold zKf
     rw [e3, e2]
     by_cases g : q.den = 1
     · simp [g]
     · simp [g, zBT]
   rw [e1, e4, e5, zBT, zRH]
   exact Rat.num_divInt_den q
/-- rat.CheckAll -/
def zFJ : List (List UInt8) → Int
 | [] => 0
 | s :: r => if zDa s = 0 then zFJ r else zDa s
theorem zGi : ∀ {l : List (List UInt8)}, zFJ l = 0 → ∀ s ∈ l, zDa s = 0
 | [], _, s, h => by simp at h
 | a :: r, h, s, hs => by
   rw [zFJ] at h
   split at h
   · rename_i h1
     rcases List.mem_cons.1 hs with e | e
     · rw [e]; exact h1
     · exact zGi h s e
   · contradiction
theorem zPS : ∀ {l : List (List UInt8)}, (∀ s ∈ l, zDa s = 0) → zFJ l = 0
 | [], _ => rfl
 | a :: r, h => by
   rw [zFJ, if_pos (h a (by simp))]
   exact zPS (fun s hs => h s (by simp [hs]))
/-- Sums, products and so on of two texts. -/
def twoR (F : Rat → Rat → Rat) (a b : List UInt8) : List UInt8 × Int := if zFJ [a, b] = 0 then zEZ (F (zAM a) (zAM b)) else ([], zFJ [a, b])
def divR (a b : List UInt8) : List UInt8 × Int := if zFJ [a, b] = 0 then (if b = [48] then ([], 18) else zEZ (zAM a / zAM b)) else ([], zFJ [a, b])
def zCA (l : List Rat) : List (List UInt8) × Int := if l.all zBK then (l.map zAJ, 0) else ([], 2)
def zIh : Rat → List Rat → Rat × Int
 | acc, [] => (acc, 0)
 | acc, q :: r => if zBK (acc + q) then zIh (acc + q) r else (acc + q, 2)
def zHh (l : List (List UInt8)) : Rat × Int := if 256 < l.length then (0, 2) else if zFJ l = 0 then zIh 0 (l.map zAM) else (0, zFJ l)
def posE (l : List (List UInt8)) : Int := if (zHh l).2 = 0 ∧ l.any zDB = true then 4 else (zHh l).2
def zCz (l : List (List UInt8)) : Int := if posE l = 0 then (if cmpQ (zHh l).1 1 = 0 then 0 else 3) else posE l
def bestK (x : List Rat) : Nat → Nat
 | 0 => 0
 | k + 1 => if 0 < cmpQ (x.getD k 0) (x.getD (bestK x k) 0) then k else bestK x k
def zKK (l : List (List UInt8)) : Int × Int := if 256 < l.length then (0, 2) else if l = [] then (0, 8) else if zFJ l = 0 then ((bestK (l.map zAM) l.length : Nat), 0) else (0, zFJ l)
theorem zQO {q : Rat} (h : zBK q = true) : (za q.num.natAbs).length ≤ 2000 ∧ (za q.den).length ≤ 2000 := by
 unfold zBK at h
 rw [Bool.and_eq_true, decide_eq_true_eq, decide_eq_true_eq] at h
 have key : ∀ (n m : Nat), (Lib.decDigits n).length ≤ m → (za n).length ≤ m := fun n m hl => by
   refine zAr (Nat.lt_of_lt_of_le (zES n) ?_)
   exact Nat.le_trans (Nat.pow_le_pow_right (by decide) hl) (Nat.pow_le_pow_left (by decide) m)
 exact ⟨key _ _ h.1, key _ _ h.2⟩
end Go.Ax.Rt
namespace Go.Proofs.YtnkealfaldjipaaGreatDoor
open Go.Ax Go.Ax.Bg Go.Ax.Rt Go.RowKit
attribute [local irreducible] Ax zBG QOp zV zA0
set_option maxRecDepth 100000
set_option maxHeartbeats 4000000
open Go.Ax.Tb (zC6 zKz zM3)
theorem zPp (s : List UInt8) : zII s [45] = zDB s := by
 unfold zII zDB
 cases s with
 | nil => rfl
 | cons c r => simp
theorem zNN (s : List UInt8) : (zEJ s).length ≤ s.length := by
 unfold zEJ; split
 · simp
 · exact Nat.le_refl _
theorem zQj (s : List UInt8) : (zEB s).length ≤ s.length ∧ (zEE s).length ≤ s.length := by
 have h := zM3 47 (zEJ s)
 have h2 := zNN s
 unfold zEB zEE
 omega
theorem cutNeg (s : List UInt8) (hs : s.length ≤ 9223372036854775807) : zW Tryz.prog 92 [.str s, .str [45]] (.tup [.str (zEJ s), .bool (zDB s)]) := by
 have h := cutP s [45] hs (by decide)
 rw [zPp] at h
 exact h
theorem cutBar (s : List UInt8) (hs : s.length ≤ 9223372036854775807) : zW Tryz.prog 93 [.str (zEJ s), .str [47]] (.tup [.str (zEB s), .str (zEE s), .bool (zGR s)]) :=
 cutS (zEJ s) 47 (Nat.le_trans (zNN s) hs)
theorem zD5 (s : List UInt8) (hs : s.length ≤ 9223372036854775807) (h : zDa s = 0) : zW Tryz.prog 89 [.str s] (qA (zAM s)) := by
 have hp := zFe h
 have h1 := cutNeg s (by omega)
 have h2 := cutBar s hs
 have h3 := zJe (zEB s) hp.cn.2.1 (by have := hp.ln; omega)
 have h4 := zGE (zDB s) (zA8 0 (zEB s))
 rw [← hp.num] at h4
 unfold qA
 rw [hp.den]
 cases e : zGR s
 · rw [e] at h2
   rw [zHI e, zNI]
   refine zV.value0 (zG (P := Tryz.prog) (fn := Tryz.f89) Y Y (by kernel_rfl) Y (fun c hR hfix => ?_)) (fix := fun _ => False) (fun _ h => h) Y Y
   refine rn4 ?_
   refine zB Y Y Y h1 ?_
   refine rn2 ?_
   refine zB Y Y Y h2 ?_
   refine rn2 ?_
   refine zB Y Y Y h3 ?_
   skip
   refine zB Y Y Y h4 ?_
   unfold zCh
   repeat (first | refine zD (zAU rfl rfl rfl rfl rfl rfl) ?_ | refine zj rfl rfl rfl rfl rfl rfl rfl rfl rfl rfl rfl ?_ | refine zBD rfl rfl rfl ?_)
   refine zO (c' := .box [.bool (decide ((zAM s).num < 0)), zAO (zAM s).num.natAbs, .ro (.ints .u32 [1]) 0 1]) Y Y Y Y Y Nat.zero_lt_one Y Y (fun i' j' hi' hj' => ?_) ?_
   · rw [if_pos (Nat.lt_one_iff.1 hi')]; rfl
   refine rn6 ?_
   refine zO (c' := .box [.bool (decide ((zAM s).num < 0)), zAO (zAM s).num.natAbs, .ro (.ints .u32 [1]) 0 1]) Y Y Y Y Y Nat.zero_lt_one Y Y (fun i' j' hi' hj' => ?_) ?_
   · rw [if_pos (Nat.lt_one_iff.1 hi')]; rfl
   refine rn0 ?_
   exact zI hR Y Y
 · rw [e] at h2
   rw [zFq e]
   have h5 := zJe (zEE s) (hp.cd e).1.2.1 (by have := hp.ld; omega)
   refine zV.value0 (zG (P := Tryz.prog) (fn := Tryz.f89) Y Y (by kernel_rfl) Y (fun c hR hfix => ?_)) (fix := fun _ => False) (fun _ h => h) Y Y
   refine rn4 ?_
   refine zB Y Y Y h1 ?_
   refine rn2 ?_
   refine zB Y Y Y h2 ?_
   refine rn2 ?_
   refine zB Y Y Y h3 ?_
   skip
   refine zB Y Y Y h4 ?_
   unfold zCh
   repeat (first | refine zD (zAU rfl rfl rfl rfl rfl rfl) ?_ | refine zj rfl rfl rfl rfl rfl rfl rfl rfl rfl rfl rfl ?_ | refine zBD rfl rfl rfl ?_)
   refine zO (c' := .box [.bool (decide ((zAM s).num < 0)), zAO (zAM s).num.natAbs, .ro (.ints .u32 [1]) 0 1]) Y Y Y Y Y Nat.zero_lt_one Y Y (fun i' j' hi' hj' => ?_) ?_
   · rw [if_pos (Nat.lt_one_iff.1 hi')]; rfl
   refine rn5 ?_
   refine zB Y Y Y h5 ?_
   repeat (first | refine zC ?_ | refine zA ?_ | refine zX ?_ | refine zK rfl ?_ | refine zD (zP rfl rfl rfl rfl rfl rfl) ?_ | refine zD (zn rfl rfl rfl rfl rfl rfl rfl (by first | exact Nat.zero_lt_one | assumption | omega)) ?_ | refine zAp rfl rfl rfl rfl rfl rfl rfl Nat.zero_lt_one ?_)
   refine zO (c' := .box [.bool (decide ((zAM s).num < 0)), zAO (zAM s).num.natAbs, zAO (zA8 0 (zEE s))]) Y Y Y Y Y Nat.zero_lt_one Y Y (fun i' j' hi' hj' => ?_) ?_
   · rw [if_pos (Nat.lt_one_iff.1 hi')]; rfl
   refine rn0 ?_
   exact zI hR Y Y
theorem qtext_ok (q : Rat) (hq : Sz 100000 q) : zW Tryz.prog 137 [qA q] (.str (zAJ q)) := by
 have h1 := zJm q.num.natAbs (by have := hq.1; omega)
 have h2 := one_ok q.den
 have h3 := zJm q.den (by have := hq.2; omega)
 unfold zAJ
 have l1 := zDW hq.1 (by decide)
 have l2 := zDW hq.2 (by decide)
 refine zV.value0 (zG (P := Tryz.prog) (fn := Tryz.f137) Y Y (by kernel_rfl) Y (fun c hR hfix => ?_)) (fix := fun _ => False) (fun _ h => h) Y Y
 by_cases hn : q.num < 0 <;> by_cases hd : q.den = 1
 · rw [if_pos hn, if_pos hd] at hR
   rw [decide_eq_true hd] at h2
   unfold qA
   rw [decide_eq_true hn]
   refine rn6 ?_
   refine zB Y Y Y h1 ?_
   refine rn5 ?_
   refine zD (zEm Y Y (by show ([45] : List UInt8).length + _ ≤ _; simp only [List.length_cons, List.length_nil, List.length_append]; omega)) ?_
   refine rn5 ?_
   refine zB Y Y Y h2 ?_
   refine rn5 ?_
   refine zI hR Y ?_
   simp [zBL]
 · rw [if_pos hn, if_neg hd] at hR
   rw [decide_eq_false hd] at h2
   unfold qA
   rw [decide_eq_true hn]
   refine rn6 ?_
   refine zB Y Y Y h1 ?_
   refine rn5 ?_
   refine zD (zEm Y Y (by show ([45] : List UInt8).length + _ ≤ _; simp only [List.length_cons, List.length_nil, List.length_append]; omega)) ?_
   refine rn5 ?_
   refine zB Y Y Y h2 ?_
   refine rn5 ?_
   refine zB Y Y Y h3 ?_
   skip
   refine zD (zEm Y Y (by show ([47] : List UInt8).length + _ ≤ _; simp only [List.length_cons, List.length_nil, List.length_append]; omega)) ?_
   refine zD (zEm (b := 47 :: Lib.decDigits q.den) Y Y (by simp only [List.length_cons, List.length_nil, List.length_append]; omega)) ?_
   refine rn0 ?_
   refine zI hR Y ?_
   simp [zBL]
 · rw [if_neg hn, if_pos hd] at hR
   rw [decide_eq_true hd] at h2
   unfold qA
   rw [decide_eq_false hn]
   refine rn6 ?_
   refine zB Y Y Y h1 ?_
   refine rn5 ?_
   refine zB Y Y Y h2 ?_
   refine rn5 ?_
   refine zI hR Y ?_
   simp [zBL]
 · rw [if_neg hn, if_neg hd] at hR
   rw [decide_eq_false hd] at h2
   unfold qA
   rw [decide_eq_false hn]
   refine rn6 ?_
   refine zB Y Y Y h1 ?_
   refine rn5 ?_
   refine zB Y Y Y h2 ?_
   refine rn5 ?_
   refine zB Y Y Y h3 ?_
   skip
   refine zD (zEm Y Y (by show ([47] : List UInt8).length + _ ≤ _; simp only [List.length_cons, List.length_nil, List.length_append]; omega)) ?_
   refine zD (zEm (b := 47 :: Lib.decDigits q.den) Y Y (by simp only [List.length_cons, List.length_nil, List.length_append]; omega)) ?_
   refine rn0 ?_
   refine zI hR Y ?_
   simp [zBL]
end Go.Proofs.YtnkealfaldjipaaGreatDoor
namespace Go.Proofs.YtnkealfaldjipaaGreatDoor
open Go.Ax Go.Ax.Bg Go.Ax.Rt Go.RowKit
attribute [local irreducible] Ax zBG QOp zV zA0
set_option maxRecDepth 100000
set_option maxHeartbeats 4000000
theorem zPi {n k m : Nat} (h : k < (za n).length) (hm : m ≤ 9 * k) : m < (Lib.decDigits n).length := by
 rcases Nat.lt_or_ge m (Lib.decDigits n).length with q | q
 · exact q
 exfalso
 have h1 := zES n
 have h2 : 10 ^ (Lib.decDigits n).length ≤ 10 ^ (9 * k) := Nat.pow_le_pow_right (by decide) (by omega)
 have h3 : 10 ^ (9 * k) ≤ B ^ k := by rw [Nat.pow_mul]; exact Nat.pow_le_pow_left (by decide) k
 have h4 : ¬ n < B ^ k := fun h5 => by have := zAr h5; omega
 omega
theorem zMA (q : Rat) (hq : Sz 100000 q) : zW Tryz.prog 136 [qA q, .int .i64 2000] (.bool (zBK q)) := by
 have h1 := zJm q.num.natAbs (by have := hq.1; omega)
 have h3 := zJm q.den (by have := hq.2; omega)
 have l1 := zDW hq.1 (by decide)
 have l2 := zDW hq.2 (by decide)
 have g1 := hq.1
 have g2 := hq.2
 have b1 := @zPi q.num.natAbs 224 2000
 have b2 := @zPi q.den 224 2000
 unfold zBK
 refine zV.value0 (zG (P := Tryz.prog) (fn := Tryz.f136) Y Y (by kernel_rfl) Y (fun c hR hfix => ?_)) (fix := fun _ => False) (fun _ h => h) Y Y
 unfold qA
 unfold zAO at h1 h3 ⊢
 repeat (first | refine zD (zH rfl) ?_ | refine zD (zL rfl) ?_ | refine zC ?_ | refine zA ?_ | refine zX ?_ | refine zK rfl ?_ | refine zD (zT rfl rfl rfl rfl rfl) ?_ | refine zD (zJO rfl rfl) ?_ | refine zD (zA9 rfl rfl rfl) ?_ | refine zD (zDZ rfl rfl (by omega)) ?_ | refine zD (q_quo rfl rfl (by omega)) ?_ | refine zD (q_max rfl rfl) ?_ | refine zD (zP rfl rfl rfl rfl rfl rfl) ?_ | refine zFP rfl rfl ?_)
 refine zE Y (fun h0 => ?_) (fun h0 => ?_)
 · refine rn2 ?_
   refine zI hR Y ?_
   have h5 : 224 < (za q.num.natAbs).length ∨ 224 < (za q.den).length := by
     split at h0 <;> omega
   have h6 : ¬ ((Lib.decDigits q.num.natAbs).length ≤ 2000 ∧ (Lib.decDigits q.den).length ≤ 2000) := by
     rcases h5 with h5 | h5
     · have := b1 h5 (by decide); omega
     · have := b2 h5 (by decide); omega
   rw [← Bool.decide_and, decide_eq_false h6]
   rfl
 · refine rn5 ?_
   refine zB Y Y Y h1 ?_
   repeat (first | refine zD (zH rfl) ?_ | refine zD (zKV rfl rfl) ?_ | refine zD (zCY rfl rfl) ?_)
   refine zAF Y Y (fun h5 => ?_) (fun h5 => ?_)
   · refine rn5 ?_
     refine zB Y Y Y h3 ?_
     repeat (first | refine zD (zH rfl) ?_ | refine zD (zL rfl) ?_ | refine zC ?_ | refine zA ?_ | refine zAL rfl rfl ?_ | refine zAS ?_ | refine zD (zKV rfl rfl) ?_ | refine zD (zAg rfl rfl) ?_ | refine zD (zCY rfl rfl) ?_)
     refine zI hR Y ?_
     rw [show decide ((Lib.decDigits q.num.natAbs).length ≤ 2000) = true from decide_eq_true (by omega), Bool.true_and]
     show AV.bool _ = AV.bool _
     rw [show decide (((Lib.decDigits q.den).length : Int) ≤ 2000) = decide ((Lib.decDigits q.den).length ≤ 2000) from by rw [decide_eq_decide]; omega]
   · refine rn6 ?_
     refine zI hR Y ?_
     rw [show decide ((Lib.decDigits q.num.natAbs).length ≤ 2000) = false from decide_eq_false (by omega), Bool.false_and]
     rfl
theorem zMC (q : Rat) (hq : Sz 100000 q) (h : zBK q = true) : zW Tryz.prog 74 [qA q] (.tup [.str (zAJ q), .int .i64 0]) := by
 have h1 := zMA q hq
 have h2 := qtext_ok q hq
 rw [h] at h1
 refine zV.value0 (zG (P := Tryz.prog) (fn := Tryz.f74) Y Y (by kernel_rfl) Y (fun c hR hfix => ?_)) (fix := fun _ => False) (fun _ h => h) Y Y
 refine rn6 ?_
 refine zB Y Y Y h1 ?_
 refine rn6 ?_
 refine zB Y Y Y h2 ?_
 refine rn0 ?_
 exact zI hR Y Y
theorem out_no (q : Rat) (hq : Sz 100000 q) (h : zBK q = false) : zW Tryz.prog 74 [qA q] (.tup [.str [], .int .i64 2]) := by
 have h1 := zMA q hq
 rw [h] at h1
 refine zV.value0 (zG (P := Tryz.prog) (fn := Tryz.f74) Y Y (by kernel_rfl) Y (fun c hR hfix => ?_)) (fix := fun _ => False) (fun _ h => h) Y Y
 refine rn6 ?_
 refine zB Y Y Y h1 ?_
 refine rn5 ?_
 exact zI hR Y Y
theorem zJ2 (q : Rat) (hq : Sz 100000 q) : zW Tryz.prog 74 [qA q] (zJB (zEZ q)) := by
 unfold zEZ
 cases h : zBK q
 · exact out_no q hq h
 · exact zMC q hq h
theorem zL3 (s : List UInt8) (hs : s.length ≤ 9223372036854775807) : zW Tryz.prog 30 [.str s] (.int .i64 (zDa s)) := by
 have h1 := cutNeg s (by omega)
 have h2 := cutBar s hs
 obtain ⟨ln, ld⟩ := zQj s
 have h3 := zLc (zEB s) (by omega)
 have h4 := zLc (zEE s) (by omega)
 have cn := @zDn (zEB s)
 have cd := @zDn (zEE s)
 unfold zDa
 generalize zEB s = n at *
 generalize zEE s = d at *
 generalize zGR s = ok at *
 generalize zDB s = ng at *
 generalize zEJ s = b at *
 generalize zFO n = p at *
 generalize zFO d = q at *
 refine zV.value0 (zG (P := Tryz.prog) (fn := Tryz.f30) Y Y (by kernel_rfl) Y (fun c hR hfix => ?_)) (fix := fun _ => False) (fun _ h => h) Y Y
 refine rn0 ?_
 refine zB Y Y Y h1 ?_
 refine rn2 ?_
 refine zB Y Y Y h2 ?_
 repeat (first | refine zD (zH rfl) ?_ | refine zD (zL rfl) ?_ | refine zC ?_ | refine zA ?_ | refine zD (zBN rfl rfl) ?_)
 by_cases hsyn : p = false ∨ (ok = true ∧ q = false) ∨ (ng = true ∧ n = [48])
 · rw [if_pos hsyn] at hR
   cases p
   · refine rn0 ?_
     refine zB Y Y Y h3 ?_
     repeat (first | refine zD (zH rfl) ?_ | refine zD (zL rfl) ?_ | refine zC ?_ | refine zA ?_ | refine zX ?_ | refine zK rfl ?_ | refine zC5 rfl rfl ?_ | refine zAn rfl rfl rfl ?_ | refine zAX rfl ?_ | refine zAS ?_ | refine zCN ?_ | refine zD (zDy rfl) ?_ | refine zD (zAg rfl rfl) ?_)
     exact zI hR Y Y
   · cases ok
     · obtain ⟨hng, hn⟩ : ng = true ∧ n = [48] := by simpa using hsyn
       subst hng
       subst hn
       refine rn0 ?_
       refine zB Y Y Y h3 ?_
       refine rn6 ?_
       exact zI hR Y Y
     · cases q
       · refine rn0 ?_
         refine zB Y Y Y h3 ?_
         refine rn5 ?_
         refine zB Y Y Y h4 ?_
         repeat (first | refine zD (zH rfl) ?_ | refine zD (zL rfl) ?_ | refine zC ?_ | refine zA ?_ | refine zX ?_ | refine zK rfl ?_ | refine zAL rfl rfl ?_ | refine zC5 rfl rfl ?_ | refine zAn rfl rfl rfl ?_ | refine zAX rfl ?_ | refine zAS ?_ | refine zCN ?_ | refine zD (zDy rfl) ?_ | refine zD (zAg rfl rfl) ?_)
         exact zI hR Y Y
       · obtain ⟨hng, hn⟩ : ng = true ∧ n = [48] := by simpa using hsyn
         subst hng
         subst hn
         refine rn0 ?_
         refine zB Y Y Y h3 ?_
         refine rn5 ?_
         refine zB Y Y Y h4 ?_
         refine rn6 ?_
         exact zI hR Y Y
 rw [if_neg hsyn] at hR
 apply zAu (H := []) [(5, .str n), (6, .str d), (7, .bool ok)]
 · intro fin
   cases p
   · exact absurd (.inl Y) hsyn
   cases ok
   · cases ng
     · refine rn0 ?_
       refine zB Y Y Y h3 ?_
       repeat (first | refine zD (zH rfl) ?_ | refine zC ?_ | refine zA ?_ | refine zAL rfl rfl ?_ | refine zAn rfl rfl rfl ?_ | refine z6 rfl ?_ | refine zl ?_ | refine zD (zDy rfl) ?_ | refine zD (zAg rfl rfl) ?_)
       exact fin _ ⟨Y, Y, Y, trivial⟩
     · refine rn0 ?_
       refine zB Y Y Y h3 ?_
       repeat (first | refine zD (zH rfl) ?_ | refine zC ?_ | refine zA ?_ | refine zAL rfl rfl ?_ | refine zAn rfl rfl rfl ?_ | refine zD (zDy rfl) ?_ | refine zD (zAg rfl rfl) ?_ | refine zD (zFW rfl rfl) ?_)
       refine zE Y (fun h0 => absurd (.inr (.inr ⟨Y, h0⟩)) hsyn) (fun h0 => ?_)
       repeat (first | refine zA ?_ | refine zl ?_)
       exact fin _ ⟨Y, Y, Y, trivial⟩
   · cases q
     · exact absurd (.inr (.inl ⟨Y, Y⟩)) hsyn
     cases ng
     · refine rn0 ?_
       refine zB Y Y Y h3 ?_
       refine rn5 ?_
       refine zB Y Y Y h4 ?_
       repeat (first | refine zD (zH rfl) ?_ | refine zC ?_ | refine zA ?_ | refine zAL rfl rfl ?_ | refine zAn rfl rfl rfl ?_ | refine z6 rfl ?_ | refine zl ?_ | refine zD (zDy rfl) ?_ | refine zD (zAg rfl rfl) ?_)
       exact fin _ ⟨Y, Y, Y, trivial⟩
     · refine rn0 ?_
       refine zB Y Y Y h3 ?_
       refine rn5 ?_
       refine zB Y Y Y h4 ?_
       repeat (first | refine zD (zH rfl) ?_ | refine zC ?_ | refine zA ?_ | refine zAL rfl rfl ?_ | refine zD (zDy rfl) ?_ | refine zD (zAg rfl rfl) ?_ | refine zD (zFW rfl rfl) ?_)
       refine zE Y (fun h0 => absurd (.inr (.inr ⟨Y, h0⟩)) hsyn) (fun h0 => ?_)
       repeat (first | refine zA ?_ | refine zl ?_)
       exact fin _ ⟨Y, Y, Y, trivial⟩
 by_cases hl : 2000 < n.length ∨ 2000 < d.length
 · rw [if_pos hl] at hR
   refine rn6 ?_
   refine zAF Y Y (fun h5 => ?_) (fun h5 => ?_)
   · refine rn6 ?_
     exact zI hR Y Y
   · refine rn6 ?_
     refine zE Y (fun h0 => ?_) (fun h0 => absurd hl (by omega))
     refine rn2 ?_
     exact zI hR Y Y
 rw [if_neg hl] at hR
 refine rn6 ?_
 refine zAF Y Y (fun h5 => absurd hl (by omega)) (fun h5 => ?_)
 refine rn6 ?_
 refine zE Y (fun h0 => absurd hl (by omega)) (fun h0 => ?_)
 cases ok
 · rw [if_neg (fun h => Bool.false_ne_true h.1)] at hR
   repeat (first | refine zD (zH rfl) ?_ | refine zD (zL rfl) ?_ | refine zC ?_ | refine zA ?_ | refine zX ?_ | refine zK rfl ?_ | refine zC5 rfl rfl ?_ | refine zAn rfl rfl rfl ?_ | refine z6 rfl ?_ | refine zl ?_ | refine zAS ?_ | refine zD (zAg rfl rfl) ?_)
   exact zI hR Y Y
 have hp : p = true := by cases p; exact absurd (.inl rfl) hsyn; rfl
 have hq : q = true := by cases q; exact absurd (.inr (.inl ⟨rfl, rfl⟩)) hsyn; rfl
 have c1 := cn.1 hp
 have c2 := cd.1 hq
 have h6 := zJe n c1.2.1 (by omega)
 have h7 := zJe d c2.2.1 (by omega)
 have v1 : (za (zA8 0 n)).length ≤ 2000 := zJl c1 (by omega)
 have v2 : (za (zA8 0 d)).length ≤ 2000 := zJl c2 (by omega)
 have h8 := gcd_ok (zA8 0 n) (zA8 0 d) (by omega) (by omega)
 have h9 := one_ok (Nat.gcd (zA8 0 n) (zA8 0 d))
 refine rn6 ?_
 refine zAF Y Y (fun h10 => ?_) (fun h10 => ?_)
 · rw [if_pos ⟨rfl, .inl h10⟩] at hR
   refine rn6 ?_
   exact zI hR Y Y
 · refine rn6 ?_
   refine zAF Y Y (fun h11 => ?_) (fun h11 => ?_)
   · rw [if_pos ⟨rfl, .inr (.inl h11)⟩] at hR
     refine rn6 ?_
     exact zI hR Y Y
   · by_cases hg : Nat.gcd (zA8 0 n) (zA8 0 d) = 1
     · rw [decide_eq_true hg] at h9
       rw [if_neg (fun h => by rcases h.2 with e | e | e; exact h10 e; exact h11 e; exact e hg)] at hR
       refine rn2 ?_
       refine zB Y Y Y h6 ?_
       refine rn2 ?_
       refine zB Y Y Y h7 ?_
       repeat (refine zAL rfl rfl ?_)
       refine zB Y Y Y h8 ?_
       repeat (refine zAL rfl rfl ?_)
       refine zB Y Y Y h9 ?_
       refine rn5 ?_
       exact zI hR Y Y
     · rw [decide_eq_false hg] at h9
       rw [if_pos ⟨rfl, .inr (.inr hg)⟩] at hR
       refine rn2 ?_
       refine zB Y Y Y h6 ?_
       refine rn2 ?_
       refine zB Y Y Y h7 ?_
       repeat (refine zAL rfl rfl ?_)
       refine zB Y Y Y h8 ?_
       repeat (refine zAL rfl rfl ?_)
       refine zB Y Y Y h9 ?_
       refine rn5 ?_
       exact zI hR Y Y
theorem zG7 {α : Type} {l : List α} {d : α} {k : Nat} (h : k < l.length) : l.drop k = l.getD k d :: l.drop (k + 1) := by
 rw [List.drop_eq_getElem_cons h]; simp [List.getD, h]
theorem zNz (l : List (List UInt8)) (hlen : l.length ≤ 9223372036854775807) (hs : ∀ s ∈ l, s.length ≤ 9223372036854775807) : zW Tryz.prog 88 [.ro (.strs l) 0 l.length] (.int .i64 (zFJ l)) := by
 refine zV.value0 (zG (P := Tryz.prog) (fn := Tryz.f88) Y Y (by kernel_rfl) Y (fun c hR hfix => ?_)) (fix := fun _ => False) (fun _ h => h) Y Y
 refine rn3 ?_
 refine zi (ι := Nat) (fun k => [(0, .ro (.strs l) 0 l.length), (6, .ro (.strs l) 0 l.length), (7, .int .i64 (l.length : Nat)), (8, .int .i64 (k : Nat))]) (fun _ => [])
   (fun k => k ≤ l.length ∧ zFJ l = zFJ (l.drop k)) (fun k => l.length - k) 0 ⟨⟨rfl, rfl, rfl, rfl, trivial⟩, rfl, Nat.zero_le _, by rw [List.drop_zero]⟩ ?_
 intro k ⟨hk, hE⟩
 refine rn4 ?_
 refine zE Y (fun h => ?_) (fun h => ?_)
 · have hk' : k < l.length := by omega
   have hd := zG7 (d := []) hk'
   have hc := zL3 (l.getD k []) (hs _ (zBM [] hk'))
   rw [hd, zFJ] at hE
   repeat (first | refine zD (zH rfl) ?_ | refine zD (zL rfl) ?_ | refine zC ?_ | refine zA ?_ | refine zX ?_ | refine zK rfl ?_ | refine zx ?_ | refine zl ?_ | refine zD (zEa rfl rfl rfl) ?_ | refine zD (ze rfl rfl rfl rfl (by first | (simp only [Nat.zero_add, Int.toNat_natCast, Int.toNat_zero]; exact rfl) | exact rfl) (by omega)) ?_)
   refine zB Y Y Y hc ?_
   refine rn3 ?_
   refine zE Y (fun h2 => ?_) (fun h2 => ?_)
   · rw [if_neg h2] at hE
     refine rn6 ?_
     refine zI hR Y ?_
     rw [hE]; rfl
   · rw [if_pos (Classical.not_not.1 h2)] at hE
     refine rn5 ?_
     refine zM ⟨k + 1, ⟨by omega, hE⟩, by omega, ⟨Y, Y, Y, Y, trivial⟩, Y⟩
 · have hk' : k = l.length := by omega
   subst hk'
   rw [List.drop_length] at hE
   refine rn5 ?_
   refine zI hR Y ?_
   rw [hE]; rfl
theorem sz_v {s : List UInt8} (h : zDa s = 0) : Sz 2000 (zAM s) := by
 have hp := zFe h
 refine ⟨?_, ?_⟩
 · rw [hp.num, zEW]; exact zJl hp.cn hp.ln
 · rw [hp.den]
   cases e : zGR s
   · rw [zHI e, zGZ]; decide
   · rw [zFq e]; exact zJl (hp.cd e).1 hp.ld
theorem Sz.mono {j k : Nat} {q : Rat} (h : Sz j q) (hk : j ≤ k) : Sz k q := ⟨Nat.le_trans h.1 hk, Nat.le_trans h.2 hk⟩
theorem sz_frac {n d : Int} {k : Nat} (hd : d ≠ 0) (h1 : (za n.natAbs).length ≤ k) (h2 : (za d.natAbs).length ≤ k) : Sz k (Rat.divInt n d) := by
 obtain ⟨e1, e2, _⟩ := zHj n d hd
 refine ⟨?_, ?_⟩
 · rw [e1]; exact zE0 (Nat.div_le_self _ _) h1
 · rw [e2]; exact zE0 (Nat.div_le_self _ _) h2
theorem sz_add {p q : Rat} {k : Nat} (hp : Sz k p) (hq : Sz k q) : Sz (k + k + 1) (p + q) := by
 have l1 : (za (q.den : Int).natAbs).length ≤ k := hq.2
 have l2 : (za (p.den : Int).natAbs).length ≤ k := hp.2
 rw [← zK2]
 refine sz_frac (by have := Nat.mul_ne_zero p.den_nz q.den_nz; omega) (zM4 (zDY hp.1 l1) (zDY hq.1 l2)) ?_
 rw [Int.natAbs_natCast]
 have := zJk hp.2 hq.2
 omega
section
variable {α : Type}
theorem zN4 (d : α) (n : Nat) (e : α → List AV) (ls : List α) (s : α) (cx : Cells) (h0 : ∀ j, j < n → cx.at 0 j = (e s).getD j .any) (i j : Nat) (hi : i < ls.length + 1) (hj : j < n) :
   (bif Nat.blt i ls.length then (zC3 d n e ls).at i j else cx.at (0 + (i - ls.length)) j) = (zC3 d n e (ls ++ [s])).at i j := by
 rcases Nat.lt_or_ge i ls.length with h | h
 · have e1 : Nat.blt i ls.length = true := by rw [Nat.blt_eq]; exact h
   rw [e1]
   simp only [zC3, Cells.at, cond_true, List.getD, List.getElem?_append_left h]
 · have hie : i = ls.length := by omega
   have e1 : Nat.blt i ls.length = false := by rw [← Bool.not_eq_true, Nat.blt_eq]; omega
   subst hie
   rw [e1]
   simp only [cond_false, Nat.sub_self, Nat.zero_add]
   rw [h0 j hj]
   simp [zC3, Cells.at, List.getD]
theorem zCx (d : α) (n : Nat) (e : α → List AV) (ls : List α) (s : α) (cx : Cells) (h0 : ∀ j, j < n → cx.at 0 j = (e s).getD j .any) :
   CEq (.fn (ls.length + 1) n (fun i j => bif Nat.blt i ls.length then (zC3 d n e ls).at i j else cx.at (0 + (i - ls.length)) j)) (zC3 d n e (ls ++ [s])) := by
 refine ⟨by simp [zC3, Cells.len], Y, fun i j hi hj => ?_⟩
 exact (zN4 d n e ls s cx h0 i j hi hj).symm
theorem zDA (d : α) (n : Nat) (e : α → List AV) (hn : ∀ a j h, j < n → ((e a).getD j .any).forget h = (e a).getD j .any) (ls : List α) (s : α) (cx : Cells) (h0 : ∀ j, j < n → cx.at 0 j = (e s).getD j .any) (h i j : Nat) (hi : i < ls.length + 1) (hj : j < n) :
   (bif Nat.blt i ls.length then (zC3 d n e ls).at i j else cx.at (0 + (i - ls.length)) j).forget h = (bif Nat.blt i ls.length then (zC3 d n e ls).at i j else cx.at (0 + (i - ls.length)) j) := by
 rw [zN4 d n e ls s cx h0 i j hi hj]; exact hn _ _ _ hj
theorem zFG {β : Type} (f : α → β) (l : List α) (d : α) (k : Nat) (hk : k < l.length) : (l.take (k + 1)).map f = (l.take k).map f ++ [f (l.getD k d)] := by
 rw [List.take_succ_eq_append_getElem hk, List.map_append]; simp [List.getD, hk]
end
def zu (q : Rat) : List AV := [.bool (decide (q.num < 0)), zAO q.num.natAbs, zAO q.den]
abbrev qsC (l : List Rat) : Cells := zC3 0 3 zu l
theorem zMR (q : Rat) (j h : Nat) (hj : j < 3) : ((zu q).getD j .any).forget h = (zu q).getD j .any := by
 match j, hj with
 | 0, _ => rfl
 | 1, _ => rfl
 | 2, _ => rfl
theorem zEp (l : List Rat) : zAC (qsC l) := by
 intro i j _ hj
 show noRef ((zu (l.getD i 0)).getD j .any) = true
 have hj : j < 3 := hj
 match j, hj with
 | 0, _ => rfl
 | 1, _ => rfl
 | 2, _ => rfl
theorem rowQ1 (q : Rat) (j : Nat) (hj : j < 3) : (zEG 1 3 [.bool (decide (q.num < 0)), zAO q.num.natAbs, zAO q.den]).at 0 j = (zu q).getD j .any := by
 match j, hj with
 | 0, _ => rfl
 | 1, _ => rfl
 | 2, _ => rfl
theorem in_ok (l : List (List UInt8)) (hlen : l.length ≤ 1000000) (hs : ∀ s ∈ l, s.length ≤ 9223372036854775807 ∧ zDa s = 0) : zW Tryz.prog 104 [.ro (.strs l) 0 l.length] (.ro (qsC (l.map zAM)) 0 l.length) := by
 refine zV.value0 (zG (P := Tryz.prog) (fn := Tryz.f104) Y Y (by kernel_rfl) Y (fun c hR hfix => ?_)) (fix := fun _ => False) (fun _ h => h) Y Y
 repeat (first | refine zD (zH rfl) ?_ | refine zD (zL rfl) ?_ | refine zC ?_ | refine zA ?_ | refine zX ?_ | refine zK rfl ?_ | refine zD (zA9 rfl rfl rfl) ?_)
 refine zA4 3 ⟨122, qsC []⟩ Y Y ?_
 repeat (refine zx ?_)
 refine zi (ι := Nat) (fun k => [(0, .ro (.strs l) 0 l.length), (3, .sl 0 0 k), (6, .ro (.strs l) 0 l.length), (7, .int .i64 (l.length : Nat)), (8, .int .i64 (k : Nat))]) (fun k => [some ⟨122, qsC ((l.take k).map zAM)⟩])
   (fun k => k ≤ l.length) (fun k => l.length - k) 0 ⟨⟨rfl, rfl, rfl, rfl, rfl, trivial⟩, rfl, Nat.zero_le _⟩ ?_
 intro k hk
 refine rn4 ?_
 refine zE Y (fun h => ?_) (fun h => ?_)
 · have hk' : k < l.length := by omega
   obtain ⟨b1, b2⟩ := hs _ (zBM [] hk')
   have hc := zD5 (l.getD k []) b1 b2
   have htk := zFG zAM l [] k hk'
   have hml : ((l.take k).map zAM).length = k := by rw [List.length_map, List.length_take]; omega
   generalize (l.take k).map zAM = qs at *
   repeat (first | refine zD (zH rfl) ?_ | refine zD (zL rfl) ?_ | refine zC ?_ | refine zA ?_ | refine zX ?_ | refine zK rfl ?_ | refine zx ?_ | refine zl ?_ | refine zD (zEa rfl rfl rfl) ?_ | refine zD (ze rfl rfl rfl rfl (by first | (simp only [Nat.zero_add, Int.toNat_natCast, Int.toNat_zero]; exact rfl) | exact rfl) (by omega)) ?_)
   refine zB Y Y Y hc ?_
   unfold qA
   repeat (refine zj rfl rfl rfl rfl rfl rfl rfl rfl rfl rfl rfl ?_)
   refine zp Y Y Y Y Y Y Y Y Y hml Y Y (by show 0 + 1 ≤ 1; omega) Y (by show (k + 1) * 56 ≤ _ ∧ _; omega) ?_ (by rw [hfix]; exact fun h => h) ?_
   · intro i' j hi hj
     exact zDA 0 3 zu zMR qs (zAM (l.getD k [])) _ (rowQ1 _) 0 i' j hi hj
   repeat (first | refine zD (zL rfl) ?_ | refine zC ?_ | refine zf ?_)
   refine zA ?_
   refine zBu [some ⟨122, qsC ((l.take (k + 1)).map zAM)⟩] ?_ ?_
   · rw [htk]
     exact zAB.eqv (zCx 0 3 zu qs (zAM (l.getD k [])) _ (rowQ1 _)) zAB.nil
   refine rn3 ?_
   exact zM ⟨k + 1, by omega, by omega, ⟨Y, Y, Y, Y, Y, trivial⟩, Y⟩
 · have hk' : k = l.length := by omega
   subst hk'
   rw [List.take_length]
   repeat (first | refine zA ?_ | refine zX ?_ | refine zAm ?_ | refine zr ?_ | refine zq ?_ | refine zAD ?_)
   refine zAV 0 3 l.length [] Y (zEp _) Y (by show _ ≤ (l.map zAM).length; rw [List.length_map]; exact Nat.le_refl _) trivial ?_
   refine rn0 ?_
   exact zI hR Y Y
end Go.Proofs.YtnkealfaldjipaaGreatDoor
namespace Go.Proofs.YtnkealfaldjipaaGreatDoor
open Go.Ax Go.Ax.Bg Go.Ax.Rt Go.RowKit
attribute [local irreducible] Ax zBG QOp zV zA0
set_option maxRecDepth 100000
set_option maxHeartbeats 4000000
open Go.Ax.Idx Go.Ax.Cd
theorem zOt (l : List (List UInt8)) (g : FuncId) (caps : List AV) (p : List UInt8 → Bool) (hc : noRef.noRefs caps = true) (hlen : l.length ≤ 9223372036854775807) (hp : ∀ x ∈ l, zW Tryz.prog g ([.str x] ++ caps) (.bool (p x))) :
   zW Tryz.prog 128 [.ro (.strs l) 0 l.length, .fn g caps] (.int .i64 (zDM p l)) := by
 refine zV.value0 (zG (P := Tryz.prog) (fn := Tryz.f128) Y Y (by kernel_rfl) Y (fun c hR hfix => ?_)) (fix := fun _ => False) (fun _ h => h) (by simp [noRef.noRefs, noRef, hc]) Y
 refine rn3 ?_
 refine zi (ι := Nat) (fun k => [(0, .ro (.strs l) 0 l.length), (1, .fn g caps), (7, .int .i64 (l.length : Nat)), (8, .int .i64 (k : Nat))]) (fun _ => [])
   (fun k => k ≤ l.length ∧ (l.take k).any p = false) (fun k => l.length - k) 0 ⟨⟨rfl, rfl, rfl, rfl, trivial⟩, rfl, Nat.zero_le _, rfl⟩ ?_
 intro k ⟨hk, hany⟩
 refine rn4 ?_
 refine zE Y (fun h => ?_) (fun h => ?_)
 · have hk' : k < l.length := by omega
   have hanys := zB4 p l [] k hk'
   repeat (first | refine zD (zH rfl) ?_ | refine zD (zL rfl) ?_ | refine zC ?_ | refine zA ?_ | refine zX ?_ | refine zK rfl ?_ | refine zx ?_ | refine zl ?_ | refine zD (zEa rfl rfl rfl) ?_ | refine zD (ze rfl rfl rfl rfl (by first | (simp only [Nat.zero_add, Int.toNat_natCast, Int.toNat_zero]; exact rfl) | exact rfl) (by omega)) ?_)
   refine zB Y Y Y (hp _ (zBM [] hk')) ?_
   refine rn0 ?_
   refine zC9 Y (fun h2 => ?_) (fun h2 => ?_)
   · refine rn6 ?_
     refine zI hR Y ?_
     have := zBf p l k hany hk
     rw [zBy l [] k hk'] at this
     simp only [zDM, h2, if_true] at this
     rw [this]; simp [zBL]
   · refine rn5 ?_
     refine zM ⟨k + 1, ⟨by omega, by rw [hanys, hany, h2]; rfl⟩, by omega, ⟨Y, Y, Y, Y, trivial⟩, Y⟩
 · have hk' : k = l.length := by omega
   subst hk'
   refine rn5 ?_
   refine zI hR Y ?_
   have := zBf p l l.length hany hk
   rw [List.drop_length] at this
   rw [this]; rfl
theorem zIw (l : List (List UInt8)) (g : FuncId) (caps : List AV) (p : List UInt8 → Bool) (hc : noRef.noRefs caps = true) (hlen : l.length ≤ 9223372036854775807) (hp : ∀ x ∈ l, zW Tryz.prog g ([.str x] ++ caps) (.bool (p x))) :
   zW Tryz.prog 66 [.ro (.strs l) 0 l.length, .fn g caps] (.bool (l.any p)) := by
 refine zV.value0 (zG (P := Tryz.prog) (fn := Tryz.f66) Y Y (by kernel_rfl) Y (fun c hR hfix => ?_)) (fix := fun _ => False) (fun _ h => h) (by simp [noRef.noRefs, noRef, hc]) Y
 refine rn0 ?_
 refine zB Y Y Y (zOt l g caps p hc hlen hp) ?_
 repeat (first | refine zD (zL rfl) ?_ | refine zC ?_ | refine zA ?_ | refine zAS ?_ | refine zD (zCk rfl rfl) ?_)
 refine zI hR Y ?_
 simp only [zBL, zEt]
theorem ratNeg1 (s : List UInt8) (hs : s.length ≤ 9223372036854775807) : zW Tryz.prog 142 [.str s] (.bool (zDB s)) := by
 have h1 := zJn s [45] hs (by decide)
 rw [zPp] at h1
 refine zV.value0 (zG (P := Tryz.prog) (fn := Tryz.f142) Y Y (by kernel_rfl) Y (fun c hR hfix => ?_)) (fix := fun _ => False) (fun _ h => h) Y Y
 refine rn0 ?_
 refine zB Y Y Y h1 ?_
 refine rn0 ?_
 exact zI hR Y Y
theorem zO1 (l : List Rat) (hlen : l.length ≤ 1000000) (hs : ∀ q ∈ l, Sz 100000 q) (hall : l.all zBK = true) : zW Tryz.prog 80 [.ro (qsC l) 0 l.length] (.tup [.ro (.strs (l.map zAJ)) 0 l.length, .int .i64 0]) := by
 refine zV.value0 (zG (P := Tryz.prog) (fn := Tryz.f80) Y Y (by kernel_rfl) Y (fun c hR hfix => ?_)) (fix := fun _ => False) (fun _ h => h) Y Y
 repeat (first | refine zD (zH rfl) ?_ | refine zD (zL rfl) ?_ | refine zC ?_ | refine zA ?_ | refine zX ?_ | refine zK rfl ?_ | refine zD (zA9 rfl rfl rfl) ?_)
 refine zA4 4 ⟨27, .strs []⟩ Y Y ?_
 repeat (refine zx ?_)
 refine zi (ι := Nat) (fun k => [(0, .ro (qsC l) 0 l.length), (4, .sl 0 0 k), (9, .ro (qsC l) 0 l.length), (10, .int .i64 (l.length : Nat)), (11, .int .i64 (k : Nat))]) (fun k => [some ⟨27, .strs ((l.take k).map zAJ)⟩])
   (fun k => k ≤ l.length ∧ (l.drop k).all zBK = true) (fun k => l.length - k) 0 ⟨⟨rfl, rfl, rfl, rfl, rfl, trivial⟩, rfl, Nat.zero_le _, hall⟩ ?_
 rintro k ⟨hk, hA⟩
 refine rn4 ?_
 refine zE Y (fun h => ?_) (fun h => ?_)
 · have hk' : k < l.length := by omega
   have hz := hs _ (zBM 0 hk')
   have hd := zG7 (d := (0 : Rat)) hk'
   rw [hd, List.all_cons] at hA
   have htk := zFG zAJ l 0 k hk'
   have hml : ((l.take k).map zAJ).length = k := by rw [List.length_map, List.length_take]; omega
   generalize hX : (l.take k).map zAJ = ts at *
   refine rn6 ?_
   refine zN 14 (.agg (zu (l.getD k 0))) Y (AEq.of_eq Y) ?_
   generalize l.getD k 0 = q at *
   refine zO (c' := .box (zu q)) Y Y Y Y Y Nat.zero_lt_one Y Y (fun i' j' hi' hj' => ?_) ?_
   · rw [if_pos (Nat.lt_one_iff.1 hi')]; rfl
   rw [Bool.and_eq_true] at hA
   have hc := zMC q hz hA.1
   refine rn6 ?_
   refine zB Y Y Y hc ?_
   refine rn4 ?_
   refine zp Y Y Y Y Y Y Y Y Y hml Y Y (by show 0 + 1 ≤ 1; omega) Y (by show (k + 1) * 16 ≤ _ ∧ _; omega) (fun i j _ _ => rfl) (by rw [hfix]; exact fun h => h) ?_
   repeat (first | refine zD (zL rfl) ?_ | refine zC ?_ | refine zf ?_)
   refine zA ?_
   refine zBu ([some ⟨27, .strs ((l.take (k + 1)).map zAJ)⟩] ++ [none]) ?_ ?_
   · rw [htk]
     exact zAB.eqv (CEq.refl _) (zAB.drop zAB.nil)
   refine zDq (H1 := [some ⟨27, .strs ((l.take (k + 1)).map zAJ)⟩]) Y (by rw [hfix]; exact fun h => h) ?_
   refine rn3 ?_
   exact zM ⟨k + 1, ⟨by omega, hA.2⟩, by omega, ⟨Y, Y, Y, Y, Y, trivial⟩, Y⟩
 · have hk' : k = l.length := by omega
   subst hk'
   rw [List.take_length]
   repeat (first | refine zA ?_ | refine zX ?_ | refine zAm ?_ | refine zr ?_ | refine zq ?_ | refine zAD ?_)
   refine zAV 0 4 l.length [] Y (fun _ _ _ _ => rfl) Y (by show _ ≤ (l.map zAJ).length; rw [List.length_map]; exact Nat.le_refl _) trivial ?_
   refine rn0 ?_
   exact zI hR Y Y
theorem zRN (l : List Rat) (hlen : l.length ≤ 1000000) (hs : ∀ q ∈ l, Sz 100000 q) (hall : l.all zBK = false) : zW Tryz.prog 80 [.ro (qsC l) 0 l.length] (.tup [.nil, .int .i64 2]) := by
 refine zV.value0 (zG (P := Tryz.prog) (fn := Tryz.f80) Y Y (by kernel_rfl) Y (fun c hR hfix => ?_)) (fix := fun _ => False) (fun _ h => h) Y Y
 repeat (first | refine zD (zH rfl) ?_ | refine zD (zL rfl) ?_ | refine zC ?_ | refine zA ?_ | refine zX ?_ | refine zK rfl ?_ | refine zD (zA9 rfl rfl rfl) ?_)
 refine zA4 4 ⟨27, .strs []⟩ Y Y ?_
 repeat (refine zx ?_)
 refine zi (ι := Nat) (fun k => [(0, .ro (qsC l) 0 l.length), (4, .sl 0 0 k), (9, .ro (qsC l) 0 l.length), (10, .int .i64 (l.length : Nat)), (11, .int .i64 (k : Nat))]) (fun k => [some ⟨27, .strs ((l.take k).map zAJ)⟩])
   (fun k => k ≤ l.length ∧ (l.drop k).all zBK = false) (fun k => l.length - k) 0 ⟨⟨rfl, rfl, rfl, rfl, rfl, trivial⟩, rfl, Nat.zero_le _, hall⟩ ?_
 rintro k ⟨hk, hA⟩
 refine rn4 ?_
 refine zE Y (fun h => ?_) (fun h => ?_)
 · have hk' : k < l.length := by omega
   have hz := hs _ (zBM 0 hk')
   have hd := zG7 (d := (0 : Rat)) hk'
   rw [hd, List.all_cons] at hA
   have htk := zFG zAJ l 0 k hk'
   have hml : ((l.take k).map zAJ).length = k := by rw [List.length_map, List.length_take]; omega
   generalize hX : (l.take k).map zAJ = ts at *
   refine rn6 ?_
   refine zN 14 (.agg (zu (l.getD k 0))) Y (AEq.of_eq Y) ?_
   generalize l.getD k 0 = q at *
   refine zO (c' := .box (zu q)) Y Y Y Y Y Nat.zero_lt_one Y Y (fun i' j' hi' hj' => ?_) ?_
   · rw [if_pos (Nat.lt_one_iff.1 hi')]; rfl
   cases hf : zBK q
   · have hc := out_no q hz hf
     refine rn6 ?_
     refine zB Y Y Y hc ?_
     refine rn6 ?_
     exact zI hR Y Y
   · have hc := zMC q hz hf
     rw [hf, Bool.true_and] at hA
     refine rn6 ?_
     refine zB Y Y Y hc ?_
     refine rn4 ?_
     refine zp Y Y Y Y Y Y Y Y Y hml Y Y (by show 0 + 1 ≤ 1; omega) Y (by show (k + 1) * 16 ≤ _ ∧ _; omega) (fun i j _ _ => rfl) (by rw [hfix]; exact fun h => h) ?_
     repeat (first | refine zD (zL rfl) ?_ | refine zC ?_ | refine zf ?_)
     refine zA ?_
     refine zBu ([some ⟨27, .strs ((l.take (k + 1)).map zAJ)⟩] ++ [none]) ?_ ?_
     · rw [htk]
       exact zAB.eqv (CEq.refl _) (zAB.drop zAB.nil)
     refine zDq (H1 := [some ⟨27, .strs ((l.take (k + 1)).map zAJ)⟩]) Y (by rw [hfix]; exact fun h => h) ?_
     refine rn3 ?_
     exact zM ⟨k + 1, ⟨by omega, hA⟩, by omega, ⟨Y, Y, Y, Y, Y, trivial⟩, Y⟩
 · have hk' : k = l.length := by omega
   subst hk'
   rw [List.drop_length] at hA
   exact absurd hA (by decide)
end Go.Proofs.YtnkealfaldjipaaGreatDoor
namespace Go.Proofs.YtnkealfaldjipaaGreatDoor
open Go.Ax Go.Ax.Bg Go.Ax.Rt Go.RowKit
attribute [local irreducible] Ax zBG QOp zV zA0
set_option maxRecDepth 100000
set_option maxHeartbeats 4000000
theorem zEP : zW Tryz.prog 85 [.int .i64 0] (qA 0) := qof_ok 0 (by decide)
theorem zKv : zW Tryz.prog 85 [.int .i64 1] (qA 1) := qof_ok 1 (by decide)
theorem sz_zero : Sz 2000 0 := by
 refine ⟨?_, ?_⟩
 · show (za 0).length ≤ 2000; rw [zBq]; decide
 · show (za 1).length ≤ 2000; rw [zGZ]; decide
theorem sum_ok (l : List (List UInt8)) (hlen : l.length ≤ 9223372036854775807) (hs : ∀ s ∈ l, s.length ≤ 9223372036854775807) : zW Tryz.prog 82 [.ro (.strs l) 0 l.length] (.tup [qA (zHh l).1, .int .i64 (zHh l).2]) := by
 unfold zHh
 have h1 := zNz l hlen hs
 by_cases hl : 256 < l.length
 · rw [if_pos hl]
   refine zV.value0 (zG (P := Tryz.prog) (fn := Tryz.f82) Y Y (by kernel_rfl) Y (fun c hR hfix => ?_)) (fix := fun _ => False) (fun _ h => h) Y Y
   refine rn4 ?_
   refine zB Y Y Y zEP ?_
   repeat (refine zBD rfl rfl rfl ?_)
   refine zO (c' := .box (zu 0)) Y Y Y Y Y Nat.zero_lt_one Y Y (fun i' j' hi' hj' => ?_) ?_
   · rw [if_pos (Nat.lt_one_iff.1 hi')]; rfl
   refine rn6 ?_
   refine zE Y (fun h0 => ?_) (fun h0 => absurd hl (by omega))
   refine rn6 ?_
   refine zO (c' := .box (zu 0)) Y Y Y Y Y Nat.zero_lt_one Y Y (fun i' j' hi' hj' => ?_) ?_
   · rw [if_pos (Nat.lt_one_iff.1 hi')]; rfl
   refine rn2 ?_
   exact zI hR Y Y
 rw [if_neg hl]
 by_cases hE : zFJ l = 0
 · rw [if_pos hE]
   rw [hE] at h1
   have h2 := in_ok l (by omega) (fun s hm => ⟨hs s hm, zGi hE s hm⟩)
   have hz : ∀ q ∈ l.map zAM, Sz 2000 q := fun q hq => by
     obtain ⟨s, h3, rfl⟩ := List.mem_map.1 hq
     exact sz_v (zGi hE s h3)
   have hml : (l.map zAM).length = l.length := List.length_map _
   generalize l.map zAM = qs at *
   refine zV.value0 (zG (P := Tryz.prog) (fn := Tryz.f82) Y Y (by kernel_rfl) Y (fun c hR hfix => ?_)) (fix := fun _ => False) (fun _ h => h) Y Y
   refine rn4 ?_
   refine zB Y Y Y zEP ?_
   repeat (refine zBD rfl rfl rfl ?_)
   refine zO (c' := .box (zu 0)) Y Y Y Y Y Nat.zero_lt_one Y Y (fun i' j' hi' hj' => ?_) ?_
   · rw [if_pos (Nat.lt_one_iff.1 hi')]; rfl
   refine rn6 ?_
   refine zE Y (fun h0 => absurd hl (by omega)) (fun h0 => ?_)
   refine rn1 ?_
   refine zB Y Y Y h1 ?_
   refine rn4 ?_
   refine zB Y Y Y h2 ?_
   refine rn3 ?_
   refine zi (ι := Nat × Rat) (fun p => [(2, .ptr 0 0 0), (4, .ptr 1 0 0), (20, .ro (qsC qs) 0 l.length), (21, .int .i64 (l.length : Nat)), (22, .int .i64 (p.1 : Nat))]) (fun p => [some ⟨122, .box [.bool false, .nil, .nil]⟩, some ⟨122, .box (zu p.2)⟩])
     (fun p => p.1 ≤ l.length ∧ zIh 0 qs = zIh p.2 (qs.drop p.1) ∧ Sz 2000 p.2) (fun p => l.length - p.1) (0, 0) ⟨⟨rfl, rfl, rfl, rfl, rfl, trivial⟩, rfl, Nat.zero_le _, rfl, sz_zero⟩ ?_
   rintro ⟨k, acc⟩ ⟨hk, hS, hA⟩
   simp only at *
   refine rn4 ?_
   refine zE Y (fun h => ?_) (fun h => ?_)
   · have hk' : k < qs.length := by omega
     have hq := hz _ (zBM 0 hk')
     have hd := zG7 (d := (0 : Rat)) hk'
     rw [hd, zIh] at hS
     refine rn6 ?_
     refine zN 25 (.agg (zu (qs.getD k 0))) Y (AEq.of_eq Y) ?_
     generalize qs.getD k 0 = q at *
     have hc := zE7 acc q (hA.mono (by decide)) (hq.mono (by decide))
     have hf := zMA (acc + q) ((sz_add hA hq).mono (by decide))
     refine zO (c' := .box (zu q)) Y Y Y Y Y Nat.zero_lt_one Y Y (fun i' j' hi' hj' => ?_) ?_
     · rw [if_pos (Nat.lt_one_iff.1 hi')]; rfl
     refine rn6 ?_
     refine zB Y Y Y hc ?_
     skip
     refine zO (c' := .box (zu (acc + q))) Y Y Y Y Y Nat.zero_lt_one Y Y (fun i' j' hi' hj' => ?_) ?_
     · rw [if_pos (Nat.lt_one_iff.1 hi')]; rfl
     refine rn6 ?_
     refine zB Y Y Y hf ?_
     cases hb : zBK (acc + q)
     · rw [hb, if_neg Bool.false_ne_true] at hS
       rw [hS] at hR
       refine rn6 ?_
       refine zO (c' := .box (zu (acc + q))) Y Y Y Y Y Nat.zero_lt_one Y Y (fun i' j' hi' hj' => ?_) ?_
       · rw [if_pos (Nat.lt_one_iff.1 hi')]; rfl
       refine rn6 ?_
       exact zI hR Y Y
     · rw [hb, if_pos rfl] at hS
       repeat (first | refine zC ?_ | refine zD (zDy rfl) ?_)
       refine zA ?_
       refine zBu ([some ⟨122, .box [.bool false, .nil, .nil]⟩, some ⟨122, .box (zu (acc + q))⟩] ++ [none]) ?_ ?_
       · exact zAB.eqv (CEq.refl _) (zAB.eqv (CEq.refl _) (zAB.drop zAB.nil))
       refine zDq (H1 := [some ⟨122, .box [.bool false, .nil, .nil]⟩, some ⟨122, .box (zu (acc + q))⟩]) Y (by rw [hfix]; exact fun h => h) ?_
       refine rn5 ?_
       exact zM ⟨(k + 1, acc + q), ⟨by simp only; omega, hS, zQO hb⟩, by simp only; omega, ⟨Y, Y, Y, Y, Y, trivial⟩, Y⟩
   · have hk' : k = l.length := by omega
     subst hk'
     rw [← hml, List.drop_length, zIh] at hS
     rw [hS] at hR
     refine rn6 ?_
     refine zO (c' := .box (zu acc)) Y Y Y Y Y Nat.zero_lt_one Y Y (fun i' j' hi' hj' => ?_) ?_
     · rw [if_pos (Nat.lt_one_iff.1 hi')]; rfl
     refine rn0 ?_
     exact zI hR Y Y
 · rw [if_neg hE]
   generalize zFJ l = e at *
   refine zV.value0 (zG (P := Tryz.prog) (fn := Tryz.f82) Y Y (by kernel_rfl) Y (fun c hR hfix => ?_)) (fix := fun _ => False) (fun _ h => h) Y Y
   refine rn4 ?_
   refine zB Y Y Y zEP ?_
   repeat (refine zBD rfl rfl rfl ?_)
   refine zO (c' := .box (zu 0)) Y Y Y Y Y Nat.zero_lt_one Y Y (fun i' j' hi' hj' => ?_) ?_
   · rw [if_pos (Nat.lt_one_iff.1 hi')]; rfl
   refine rn6 ?_
   refine zE Y (fun h0 => absurd hl (by omega)) (fun h0 => ?_)
   refine rn1 ?_
   refine zB Y Y Y h1 ?_
   refine rn3 ?_
   refine zE Y (fun h2 => ?_) (fun h2 => absurd hE h2)
   refine rn6 ?_
   refine zO (c' := .box (zu 0)) Y Y Y Y Y Nat.zero_lt_one Y Y (fun i' j' hi' hj' => ?_) ?_
   · rw [if_pos (Nat.lt_one_iff.1 hi')]; rfl
   refine rn2 ?_
   exact zI hR Y Y
theorem zQN : ∀ (qs : List Rat) (acc : Rat), Sz 2000 acc → (∀ q ∈ qs, Sz 2000 q) → Sz 4001 (zIh acc qs).1
 | [], acc, h, _ => h.mono (by decide)
 | q :: r, acc, h, hs => by
   rw [zIh]
   split
   · rename_i hb
     exact zQN r _ (zQO hb) (fun x hx => hs x (by simp [hx]))
   · exact sz_add h (hs q (by simp))
theorem sumR_sz (l : List (List UInt8)) : Sz 4001 (zHh l).1 := by
 unfold zHh
 split
 · exact sz_zero.mono (by decide)
 · split
   · rename_i hE
     refine zQN _ _ sz_zero (fun q hq => ?_)
     obtain ⟨s, h3, rfl⟩ := List.mem_map.1 hq
     exact sz_v (zGi hE s h3)
   · exact sz_zero.mono (by decide)
theorem zMt (l : List (List UInt8)) (hlen : l.length ≤ 9223372036854775807) (hs : ∀ s ∈ l, s.length ≤ 9223372036854775807) : zW Tryz.prog 83 [.ro (.strs l) 0 l.length] (.tup [qA (zHh l).1, .int .i64 (posE l)]) := by
 have h1 := sum_ok l hlen hs
 have h2 := zIw l 142 [] zDB rfl hlen (fun s hm => ratNeg1 s (hs s hm))
 unfold posE
 generalize (zHh l).1 = q at *
 generalize (zHh l).2 = e at *
 generalize l.any zDB = b at *
 by_cases he : e = 0
 · subst he
   cases b
   · rw [if_neg (fun h => Bool.false_ne_true h.2)]
     refine zV.value0 (zG (P := Tryz.prog) (fn := Tryz.f83) Y Y (by kernel_rfl) Y (fun c hR hfix => ?_)) (fix := fun _ => False) (fun _ h => h) Y Y
     refine rn4 ?_
     refine zB Y Y Y h1 ?_
     unfold qA
     refine rn4 ?_
     refine zO (c' := .box (zu q)) Y Y Y Y Y Nat.zero_lt_one Y Y (fun i' j' hi' hj' => ?_) ?_
     · rw [if_pos (Nat.lt_one_iff.1 hi')]; rfl
     refine rn4 ?_
     refine zB Y Y Y h2 ?_
     refine rn6 ?_
     refine zO (c' := .box (zu q)) Y Y Y Y Y Nat.zero_lt_one Y Y (fun i' j' hi' hj' => ?_) ?_
     · rw [if_pos (Nat.lt_one_iff.1 hi')]; rfl
     refine rn0 ?_
     exact zI hR Y Y
   · rw [if_pos ⟨rfl, rfl⟩]
     refine zV.value0 (zG (P := Tryz.prog) (fn := Tryz.f83) Y Y (by kernel_rfl) Y (fun c hR hfix => ?_)) (fix := fun _ => False) (fun _ h => h) Y Y
     refine rn4 ?_
     refine zB Y Y Y h1 ?_
     unfold qA
     refine rn4 ?_
     refine zO (c' := .box (zu q)) Y Y Y Y Y Nat.zero_lt_one Y Y (fun i' j' hi' hj' => ?_) ?_
     · rw [if_pos (Nat.lt_one_iff.1 hi')]; rfl
     refine rn4 ?_
     refine zB Y Y Y h2 ?_
     refine rn6 ?_
     refine zO (c' := .box (zu q)) Y Y Y Y Y Nat.zero_lt_one Y Y (fun i' j' hi' hj' => ?_) ?_
     · rw [if_pos (Nat.lt_one_iff.1 hi')]; rfl
     refine rn0 ?_
     exact zI hR Y Y
 · rw [if_neg (fun h => he h.1)]
   refine zV.value0 (zG (P := Tryz.prog) (fn := Tryz.f83) Y Y (by kernel_rfl) Y (fun c hR hfix => ?_)) (fix := fun _ => False) (fun _ h => h) Y Y
   refine rn4 ?_
   refine zB Y Y Y h1 ?_
   unfold qA
   refine rn4 ?_
   refine zO (c' := .box (zu q)) Y Y Y Y Y Nat.zero_lt_one Y Y (fun i' j' hi' hj' => ?_) ?_
   · rw [if_pos (Nat.lt_one_iff.1 hi')]; rfl
   refine rn4 ?_
   refine zAF Y Y (fun h0 => absurd h0 he) (fun h0 => ?_)
   refine rn6 ?_
   refine zO (c' := .box (zu q)) Y Y Y Y Y Nat.zero_lt_one Y Y (fun i' j' hi' hj' => ?_) ?_
   · rw [if_pos (Nat.lt_one_iff.1 hi')]; rfl
   refine rn0 ?_
   exact zI hR Y Y
theorem zL9 (l : List (List UInt8)) (hlen : l.length ≤ 9223372036854775807) (hs : ∀ s ∈ l, s.length ≤ 9223372036854775807) : zW Tryz.prog 23 [.ro (.strs l) 0 l.length] (.int .i64 (zCz l)) := by
 have h1 := zMt l hlen hs
 have hz := sumR_sz l
 unfold zCz
 generalize (zHh l).1 = q at *
 generalize posE l = e at *
 have h2 := zPb q 1 (hz.mono (by decide)) (by refine ⟨?_, ?_⟩ <;> (show (za 1).length ≤ 100000; rw [zGZ]; decide))
 by_cases he : e = 0
 · rw [if_pos he]
   subst he
   generalize cmpQ q 1 = t at *
   by_cases ht : t = 0
   · rw [if_pos ht]
     subst ht
     refine zV.value0 (zG (P := Tryz.prog) (fn := Tryz.f23) Y Y (by kernel_rfl) Y (fun c hR hfix => ?_)) (fix := fun _ => False) (fun _ h => h) Y Y
     refine rn0 ?_
     refine zB Y Y Y h1 ?_
     unfold qA
     refine rn4 ?_
     refine zO (c' := .box (zu q)) Y Y Y Y Y Nat.zero_lt_one Y Y (fun i' j' hi' hj' => ?_) ?_
     · rw [if_pos (Nat.lt_one_iff.1 hi')]; rfl
     refine rn4 ?_
     refine zk (by kernel_rfl) ?_
     refine zt (fuel := 0) [0, 1, 2, 3] [(3, .ptr 0 0 0)] ⟨Y, trivial⟩ (by kernel_rfl) (by decide) Y Y ?_
     refine zU Y Y (zn Y Y Y Y Y Y Y (by first | exact Nat.zero_lt_one | assumption | omega)) ?_
     refine zBR Y Y Y Y Y zKv ?_
     refine zBR Y Y Y Y Y h2 ?_
     refine zU Y Y (zD6 Y Y) ?_
     refine zAZ ?_
     refine zh (by kernel_rfl) ?_
     refine rn4 ?_
     exact zI hR Y Y
   · rw [if_neg ht]
     refine zV.value0 (zG (P := Tryz.prog) (fn := Tryz.f23) Y Y (by kernel_rfl) Y (fun c hR hfix => ?_)) (fix := fun _ => False) (fun _ h => h) Y Y
     refine rn0 ?_
     refine zB Y Y Y h1 ?_
     unfold qA
     refine rn4 ?_
     refine zO (c' := .box (zu q)) Y Y Y Y Y Nat.zero_lt_one Y Y (fun i' j' hi' hj' => ?_) ?_
     · rw [if_pos (Nat.lt_one_iff.1 hi')]; rfl
     refine rn4 ?_
     refine zk (by kernel_rfl) ?_
     refine zt (fuel := 0) [0, 1, 2, 3] [(3, .ptr 0 0 0)] ⟨Y, trivial⟩ (by kernel_rfl) (by decide) Y Y ?_
     refine zU Y Y (zn Y Y Y Y Y Y Y (by first | exact Nat.zero_lt_one | assumption | omega)) ?_
     refine zBR Y Y Y Y Y zKv ?_
     refine zBR Y Y Y Y Y h2 ?_
     refine zU Y Y (zD6 Y Y) ?_
     refine zAZ ?_
     refine zh (by kernel_rfl) ?_
     repeat (refine zA ?_)
     refine zE Y (fun h0 => ?_) (fun h0 => absurd ht h0)
     refine rn2 ?_
     exact zI hR Y Y
 · rw [if_neg he]
   refine zV.value0 (zG (P := Tryz.prog) (fn := Tryz.f23) Y Y (by kernel_rfl) Y (fun c hR hfix => ?_)) (fix := fun _ => False) (fun _ h => h) Y Y
   refine rn0 ?_
   refine zB Y Y Y h1 ?_
   unfold qA
   refine rn4 ?_
   refine zO (c' := .box (zu q)) Y Y Y Y Y Nat.zero_lt_one Y Y (fun i' j' hi' hj' => ?_) ?_
   · rw [if_pos (Nat.lt_one_iff.1 hi')]; rfl
   refine rn3 ?_
   refine zE Y (fun h0 => ?_) (fun h0 => absurd he h0)
   refine rn2 ?_
   exact zI hR Y Y
theorem zNn {q : Rat} : sgn q.num = 0 ↔ q = 0 := by
 rw [← Rat.num_eq_zero]
 unfold sgn
 split
 · omega
 · split <;> omega
end Go.Proofs.YtnkealfaldjipaaGreatDoor
namespace Go.Ax.Rt
open Go.Ax.Bg
theorem Parts.fit {s : List UInt8} {q : Rat} (h : Parts s q) : zBK q = true := by
 unfold zBK
 rw [Bool.and_eq_true, decide_eq_true_eq, decide_eq_true_eq, h.num, h.den, zEW, zFY h.cn]
 refine ⟨h.ln, ?_⟩
 cases e : zGR s
 · rw [zHI e, Lib.decDigits_one (by decide)]; decide
 · rw [zFq e, zFY (h.cd e).1]; exact h.ld
/-- A text that spells q. -/
def IsQ (s : List UInt8) (q : Rat) : Prop := zDa s = 0 ∧ zAM s = q
instance (s : List UInt8) (q : Rat) : Decidable (IsQ s q) := inferInstanceAs (Decidable (_ ∧ _))
theorem IsQ.self {s : List UInt8} (h : zDa s = 0) : IsQ s (zAM s) := ⟨h, rfl⟩
theorem IsQ.text {s : List UInt8} {q : Rat} (h : IsQ s q) : zAJ q = s := by
 have := (zFe h.1).text
 rwa [h.2] at this
theorem IsQ.fit {s : List UInt8} {q : Rat} (h : IsQ s q) : zBK q = true := by
 have := (zFe h.1).fit
 rwa [h.2] at this
theorem zKn {q : Rat} (h : zBK q = true) : IsQ (zAJ q) q := rat_of h
theorem IsQ.out {s : List UInt8} {q : Rat} (h : IsQ s q) : zEZ q = (s, 0) := by
 unfold zEZ
 rw [if_pos h.fit, h.text]
/-- Numbers of at most so many digits. -/
def D (k : Nat) (q : Rat) : Prop := q.num.natAbs < 10 ^ k ∧ q.den < 10 ^ k
theorem D.mono {j k : Nat} {q : Rat} (h : D j q) (hk : j ≤ k) : D k q :=
 ⟨Nat.lt_of_lt_of_le h.1 (Nat.pow_le_pow_right (by decide) hk), Nat.lt_of_lt_of_le h.2 (Nat.pow_le_pow_right (by decide) hk)⟩
theorem D.fit {k : Nat} {q : Rat} (h : D k q) (hk : k ≤ 2000) : zBK q = true := by
 unfold zBK
 rw [Bool.and_eq_true, decide_eq_true_eq, decide_eq_true_eq]
 exact ⟨TB_len (lt_big h.1 hk), TB_len (lt_big h.2 hk)⟩
theorem D.out {k : Nat} {q : Rat} (h : D k q) (hk : k ≤ 2000) : zEZ q = (zAJ q, 0) ∧ IsQ (zAJ q) q := ⟨(zKn (h.fit hk)).out, zKn (h.fit hk)⟩
theorem IsQ.dig {s : List UInt8} {q : Rat} (h : IsQ s q) {k : Nat} (hk : s.length ≤ k) (h1 : 1 ≤ k) : D k q := by
 have ht := h.text
 have hl : (zAJ q).length ≤ k := by rw [ht]; exact hk
 unfold zAJ at hl
 rw [List.length_append, List.length_append] at hl
 refine ⟨Nat.lt_of_lt_of_le (zES _) (Nat.pow_le_pow_right (by decide) (by omega)), ?_⟩
 by_cases hd : q.den = 1
 · rw [hd]
   exact Nat.lt_of_lt_of_le (show 1 < 10 ^ 1 by decide) (Nat.pow_le_pow_right (by decide) h1)
 · rw [if_neg hd, List.length_cons] at hl
   exact Nat.lt_of_lt_of_le (zES _) (Nat.pow_le_pow_right (by decide) (by omega))
theorem zOI {n d : Int} {k : Nat} (hd : d ≠ 0) (h1 : n.natAbs < 10 ^ k) (h2 : d.natAbs < 10 ^ k) : D k (Rat.divInt n d) := by
 obtain ⟨e1, e2, _⟩ := zHj n d hd
 refine ⟨?_, ?_⟩
 · rw [e1]; exact Nat.lt_of_le_of_lt (Nat.div_le_self _ _) h1
 · rw [e2]; exact Nat.lt_of_le_of_lt (Nat.div_le_self _ _) h2
theorem D.add {p q : Rat} {j k : Nat} (hp : D j p) (hq : D k q) : D (j + k + 1) (p + q) := by
 rw [← zK2]
 have a1 := zGC hp.1 hq.2
 have a2 := zGC hq.1 hp.2
 rw [Nat.add_comm k j] at a2
 have a3 := zGC hp.2 hq.2
 refine zOI (by have := Nat.mul_ne_zero p.den_nz q.den_nz; omega) ?_ ?_
 · have h := Int.natAbs_add_le (p.num * q.den) (q.num * p.den)
   rw [Int.natAbs_mul, Int.natAbs_mul, Int.natAbs_natCast, Int.natAbs_natCast] at h
   exact Nat.lt_of_le_of_lt h (add_big a1 a2)
 · rw [Int.natAbs_natCast]
   exact Nat.lt_of_lt_of_le a3 (Nat.pow_le_pow_right (by decide) (by omega))
theorem D.neg {q : Rat} {k : Nat} (h : D k q) : D k (-q) := by
 refine ⟨?_, h.2⟩
 show (-q.num).natAbs < _
 rw [Int.natAbs_neg]; exact h.1
theorem D.mul {p q : Rat} {j k : Nat} (hp : D j p) (hq : D k q) : D (j + k) (p * q) := by
 rw [← zNK]
 refine zOI (by have := Nat.mul_ne_zero p.den_nz q.den_nz; omega) ?_ ?_
 · rw [Int.natAbs_mul]; exact zGC hp.1 hq.1
 · rw [Int.natAbs_natCast]; exact zGC hp.2 hq.2
theorem D.div {p q : Rat} {j k : Nat} (hp : D j p) (hq : D k q) (h0 : q ≠ 0) : D (j + k) (p / q) := by
 have hn : q.num ≠ 0 := fun h => h0 (Rat.num_eq_zero.1 h)
 rw [← zN1 p q h0]
 refine zOI (Int.mul_ne_zero hn (by have := p.den_nz; omega)) ?_ ?_
 · rw [Int.natAbs_mul, Int.natAbs_natCast]; exact zGC hp.1 hq.2
 · rw [Int.natAbs_mul, Int.natAbs_natCast, Nat.add_comm]; exact zGC hq.1 hp.2
theorem div_one (q : Rat) : q / 1 = q := by
 have := Rat.mul_div_cancel (a := q) (b := 1) (by decide)
 rwa [Rat.mul_one] at this
theorem zLR {s : List UInt8} (h : zDa s = 0) : zDB s = false ↔ 0 ≤ zAM s := by
 have hp := zFe h
 have h1 := zKS (zDB s) (zA8 0 (zEB s))
 rw [← hp.num] at h1
 rw [← Rat.num_nonneg]
 cases e : zDB s
 · rw [e] at h1; simp at h1; simpa using h1
 · have h2 : (zAM s).num < 0 := by
     have h3 := hp.ng e
     rw [e] at h1
     simpa [h3] using h1
   exact ⟨fun q => absurd q (by decide), fun q => absurd h2 (by omega)⟩
def zBA (f : Nat → Rat) : Nat → Rat
 | 0 => 0
 | n + 1 => zBA f n + f n
theorem zAz {f g : Nat → Rat} : ∀ {n : Nat}, (∀ i, i < n → f i = g i) → zBA f n = zBA g n
 | 0, _ => rfl
 | n + 1, h => by rw [zBA, zBA, zAz (fun i hi => h i (by omega)), h n (by omega)]
theorem zHH : ∀ n : Nat, zBA (fun _ => 0) n = 0
 | 0 => rfl
 | n + 1 => by rw [zBA, zHH n, Rat.add_zero]
theorem zGl (f g : Nat → Rat) : ∀ n : Nat, zBA (fun i => f i + g i) n = zBA f n + zBA g n
 | 0 => by rw [zBA, zBA, zBA, Rat.add_zero]
 | n + 1 => by
   rw [zBA, zBA, zBA, zGl f g n]
   rw [Rat.add_assoc, Rat.add_assoc, ← Rat.add_assoc (zBA g n), Rat.add_comm (zBA g n) (f n), Rat.add_assoc]
theorem zGp (c : Rat) (f : Nat → Rat) : ∀ n : Nat, zBA (fun i => c * f i) n = c * zBA f n
 | 0 => by rw [zBA, zBA, Rat.mul_zero]
 | n + 1 => by rw [zBA, zBA, zGp c f n, Rat.mul_add]
theorem zLW (c : Rat) (f : Nat → Rat) : ∀ n : Nat, zBA (fun i => f i * c) n = zBA f n * c
 | 0 => by rw [zBA, zBA, Rat.zero_mul]
 | n + 1 => by rw [zBA, zBA, zLW c f n, Rat.add_mul]
theorem zJF {f : Nat → Rat} : ∀ {n : Nat}, (∀ i, i < n → 0 ≤ f i) → 0 ≤ zBA f n
 | 0, _ => Rat.le_refl
 | n + 1, h => by rw [zBA]; exact Rat.add_nonneg (zJF (fun i hi => h i (by omega))) (h n (by omega))
/-- The sum of the products. -/
def dotQ (a b : List Rat) : Rat := zBA (fun i => a.getD i 0 * b.getD i 0) a.length
def colQ (m : List (List Rat)) (k : Nat) : List Rat := m.map (fun row => row.getD k 0)
def colsQ (m : List (List Rat)) (w : Nat) : List (List Rat) := (List.range w).map (colQ m)
def mulQ (a b : List (List Rat)) (w : Nat) : List (List Rat) := a.map (fun row => (colsQ b w).map (dotQ row))
theorem zBV {α β : Type} (f : α → β) (l : List α) (d : α) (e : β) (i : Nat) (hi : i < l.length) : (l.map f).getD i e = f (l.getD i d) := by simp [List.getD, hi]
abbrev zBJ := List UInt8
def vecE (v : List zBJ) : Int := if 40 < v.length then 2 else zFJ v
def rowsE (w : Nat) : List (List zBJ) → Int
 | [] => 0
 | r :: rs => if r.length = w then (if vecE r = 0 then rowsE w rs else vecE r) else 3
def zIt (m : List (List zBJ)) : Nat := (m.getD 0 []).length
/-- matrix.Check -/
def matE (m : List (List zBJ)) : Int := if 40 < m.length then 2 else rowsE (zIt m) m
def inM (m : List (List zBJ)) : List (List Rat) := m.map (fun r => r.map zAM)
def outM (q : List (List Rat)) : List (List zBJ) × Int := if q.all (fun r => r.all zBK) then (q.map (fun r => r.map zAJ), 0) else ([], 2)
def mulR (a b : List (List zBJ)) : List (List zBJ) × Int := if matE a ≠ 0 then ([], matE a) else if matE b ≠ 0 then ([], matE b) else if zIt a = b.length then outM (mulQ (inM a) (inM b) (zIt b)) else ([], 3)
/-- A valid matrix of so many rows and columns. -/
structure IsM (m : List (List zBJ)) (p q : Nat) : Prop where
 rows : m.length = p
 cols : ∀ r ∈ m, r.length = q
 sp : p ≤ 40
 sq : m ≠ [] → q ≤ 40
 ok : ∀ r ∈ m, ∀ s ∈ r, zDa s = 0
/-- The product of short valid matrices. -/
structure Prod (a b : List (List zBJ)) (t : List (List zBJ)) (p q r K : Nat) : Prop where
 res : mulR a b = (t, 0)
 ok : IsM t p r
 val : inM t = mulQ (inM a) (inM b) r
 dig : ∀ x ∈ inM t, ∀ y ∈ x, D K y
end Go.Ax.Rt
namespace Go.Ax.Dt
abbrev V := Nat → Int
abbrev Mx := Nat → V
def sg : Nat → Int
 | 0 => 1
 | n + 1 => -sg n
def skip (i : Nat) (D : Mx) : Mx := fun a c => D (if a < i then a else a + 1) (c + 1)
def put (D : Mx) (r : Nat) (v : V) : Mx := fun a => if a = r then v else D a
theorem getD_set {α : Type} (l : List α) (d x : α) (i j : Nat) : (l.set i x).getD j d = if j = i ∧ i < l.length then x else l.getD j d := by
 by_cases h : j = i
 · subst h
   by_cases h2 : j < l.length
   · simp [List.getD, h2]
   · have : l.length ≤ j := by omega
     simp [List.getD, h2, this]
 · have : ¬ i = j := fun e => h e.symm
   simp [List.getD, h, List.getElem?_set, this]
end Go.Ax.Dt
