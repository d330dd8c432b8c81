import Derived.Shelf.Strconv.Itoa3
import Derived.Shelf.Pu.ParseUintPublic10
import Derived.Shelf.Bits.Mul64
import Derived.Shelf.Strings.OnBuilder
import Derived.Test.YtnkealfaldjipaaGreatDoorProg
import Derived.Lib.ParseIntB
import Derived.Lib.Join
import Derived.Test.YtnkealfaldjipaaGreatDoorY3
set_option linter.unusedVariables false
set_option linter.unusedSimpArgs false
namespace Go.Proofs.YtnkealfaldjipaaGreatDoor
open Go.Ax Go.Ax.Bg Go.RowKit
attribute [local irreducible] Ax zBZ QOp zS
set_option maxRecDepth 100000
set_option maxHeartbeats 4000000
theorem digit_ok (A U C V : List Int) (j s : Nat) (Hr : zO) (hj : A.length = j) (hs : 2 ≤ s) (hl : U.length = s + 1) (hlv : V.length = s) (hU : Lim U) (hV : Lim V) (htop : 2147483648 ≤ V.getD (s - 1) 0) (hlt : zc U < 4294967296 * zc V)
 (hsz : (A ++ (U ++ C)).length ≤ 1000000000) :
 zS Tryz.prog 207 [.sl 0 j (s + 1), zGA V] (some ⟨224, .ints .u32 (A ++ (U ++ C))⟩ :: Hr) (fun h => h < Hr.length + 1)
  (fun r H => r = .int .u32 (zc U / zc V : Nat) ∧ H = some ⟨224, .ints .u32 (A ++ (zCB (s + 1) (zc U % zc V) ++ C))⟩ :: Hr) := by
 refine zE (P := Tryz.prog) (fn := Tryz.f207) Z Z (by kernel_rfl) Z (fun c hR hfix => ?_)
 have hsd := hlv
 obtain ⟨u0, h0, b0⟩ := hU.nat s
 obtain ⟨u1, h1, b1⟩ := hU.nat (s - 1)
 obtain ⟨u2, h2, b2⟩ := hU.nat (s - 2)
 obtain ⟨v1, k1, c1⟩ := hV.nat (s - 1)
 obtain ⟨v2, k2, c2⟩ := hV.nat (s - 2)
 have htop' : 2147483648 ≤ v1 := by omega
 have hest := fun g => est (g := g) hs hl hsd hU hV h0 h1 h2 k1 k2 htop' hlt
 have g0 := zGo (C := C) hj (show s < U.length by omega)
 have g1 := zGo (C := C) hj (show s - 1 < U.length by omega)
 have g2 := zGo (C := C) hj (show s - 2 < U.length by omega)
 rw [h0] at g0; rw [h1] at g1; rw [h2] at g2
 have hlen : (A ++ (U ++ C)).length = j + (s + 1) + C.length := by simp [hj, hl]; omega
 have hv0 : 0 < zc V := by
  have := zAE V (s - 1)
  rw [show s - 1 + 1 = V.length by omega, List.take_length, k1, Int.toNat_natCast] at this
  have h3 : B ^ (s - 1) * 1 ≤ B ^ (s - 1) * v1 := Nat.mul_le_mul_left _ (by omega)
  have := bpos (s - 1)
  omega
 unfold zGA
 rw [hsd]
 refine rn3 ?_
 refine zGT (by kernel_rfl) (by kernel_rfl) Z ?_
 refine rn8 ?_
 refine zA 20 (.int .u32 (u0 : Nat)) Z (AEq.of_eq (by rw [g0])) ?_
 refine zG (zAZ (m := u0) Z Z Z zBe (by omega)) ?_
 refine zG (zJ7 (m := u0) (s := 32) Z Z (by decide) zBe (zI3 b0)) ?_
 refine rn7 ?_
 refine zA 25 (.int .i64 (s - 1 : Nat)) Z (AEq.of_eq (by congr 1; omega)) ?_
 refine rn8 ?_
 refine zA 27 (.int .u32 (u1 : Nat)) Z (AEq.of_eq (by rw [g1])) ?_
 refine zG (zAZ (m := u1) Z Z Z zBe (by omega)) ?_
 refine zG (QOp.res (zNe Z Z zBe Z (zI3 b0) (by omega)) (by rw [zOW b1])) ?_
 have htb : u0 * 4294967296 + u1 < 18446744073709551616 := by omega
 obtain ⟨top, htp⟩ : ∃ top, u0 * 4294967296 + u1 = top := ⟨_, rfl⟩
 rw [htp] at hest htb ⊢
 refine rn7 ?_
 refine zA 33 (.int .i64 (s - 1 : Nat)) Z (AEq.of_eq (by congr 1; omega)) ?_
 refine rn6 ?_
 refine zA 35 (.int .u32 (v1 : Nat)) Z (AEq.of_eq (by rw [k1])) ?_
 refine zG (zAZ (m := v1) Z Z Z zBe (by omega)) ?_
 refine zG (q_uquo Z Z zBe htb (by omega)) ?_
 obtain ⟨gs, hgs, hg1, hg2⟩ : ∃ gs : Nat, (if ((4294967295 : Int) < ((top / v1 : Nat) : Int)) then (4294967295 : Int) else ((top / v1 : Nat) : Int)) = (gs : Int) ∧ gs ≤ 4294967295 ∧ (gs = 4294967295 ∨ gs = top / v1) ∧ gs ≤ top / v1 := by
  generalize top / v1 = z
  by_cases hz : (4294967295 : Int) < (z : Int)
  ·exact ⟨4294967295, by rw [if_pos hz]; rfl, by omega, by omega, by omega⟩
  ·exact ⟨z, by rw [if_neg hz], by omega, by omega, by omega⟩
 obtain ⟨hg2, hg3⟩ := hg2
 have hgm : gs * v1 ≤ top := Nat.le_trans (Nat.mul_le_mul_right _ hg3) (Nat.div_mul_le_self top v1)
 have hb0 := zMG (a := gs) (b := v1) (c := 0) (by omega) c1 (by decide)
 refine zG (q_min Z Z) ?_
 refine zA 38 (.int .u64 (gs : Nat)) Z (AEq.of_eq (by rw [← hgs])) ?_
 refine rn7 ?_
 refine zA 43 (.int .i64 (s - 1 : Nat)) Z (AEq.of_eq (by congr 1; omega)) ?_
 refine rn6 ?_
 refine zA 45 (.int .u32 (v1 : Nat)) Z (AEq.of_eq (by rw [k1])) ?_
 refine zG (zAZ (m := v1) Z Z Z zBe (by omega)) ?_
 refine zG (zIv Z Z zBe hb0.1) ?_
 refine zG (zOw Z Z zBe htb hgm) ?_
 refine rn1 ?_
 refine zh (ι := Nat × Nat) (fun p => [(0, .sl 0 j (s + 1)), (1, .ro (.ints .u32 V) 0 s), (5, .int .i64 (s : Nat)), (7, .int .u64 (p.1 : Nat)), (8, .int .u64 (p.2 : Nat))]) (fun _ => some ⟨224, .ints .u32 (A ++ (U ++ C))⟩ :: Hr)
  (fun p => p.1 ≤ 4294967295 ∧ p.2 + p.1 * v1 = top ∧ ∀ g', g' ≤ 4294967295 → g' * (v1 * 4294967296 + v2) ≤ top * 4294967296 + u2 → g' ≤ p.1) (fun p => p.1) (gs, top - gs * v1) ⟨⟨rfl, rfl, rfl, rfl, rfl, trivial⟩, rfl, hg1, by simp only; omega, fun g' q1 q2 => ?_⟩ ?_
 ·have := guess_ge (by omega) b2 q2
  rcases hg2 with h | h
  ·show g' ≤ gs; omega
  ·show g' ≤ gs; rw [h]; exact this
 rintro ⟨g, r⟩ ⟨i1, i2, i3⟩
 simp only at *
 have htest := zO6 (B := 4294967296) (u2 := u2) (v2 := v2) i2 (by omega) c2
 have hbg := zMG (a := g) (b := v2) (c := 0) (by omega) c2 (by decide)
 apply zAM (H := some ⟨224, .ints .u32 (A ++ (U ++ C))⟩ :: Hr) [(0, .sl 0 j (s + 1)), (1, .ro (.ints .u32 V) 0 s), (5, .int .i64 (s : Nat)), (7, .int .u64 (g : Nat)), (8, .int .u64 (r : Nat)), (70, .bool (decide (r < 4294967296 ∧ r * 4294967296 + u2 < g * v2)))]
 ·intro fin
  repeat (refine z8 ?_)
  refine zGT (by kernel_rfl) (by kernel_rfl) Z ?_
  refine rn15 ?_
  refine zAt Z Z (fun q0 => ?_) (fun q0 => ?_)
  ·have q0' : r < 4294967296 := by omega
   refine rn7 ?_
   refine zA 55 (.int .i64 (s - 2 : Nat)) Z (AEq.of_eq (by congr 1; omega)) ?_
   refine rn6 ?_
   refine zA 57 (.int .u32 (v2 : Nat)) Z (AEq.of_eq (by rw [k2])) ?_
   refine zG (zAZ (m := v2) Z Z Z zBe (by omega)) ?_
   refine zAo Z Z ?_
   refine zG (zIv Z Z zBe hbg.1) ?_
   refine rn2 ?_
   refine zG (zJ7 (m := r) (s := 32) Z Z (by decide) zBe (zI3 q0')) ?_
   refine rn7 ?_
   refine zA 64 (.int .i64 (s - 2 : Nat)) Z (AEq.of_eq (by congr 1; omega)) ?_
   refine zEg ?_
   refine zA 66 (.int .u32 (u2 : Nat)) Z (AEq.of_eq (by rw [g2])) ?_
   refine zG (zAZ (m := u2) Z Z Z zBe (by omega)) ?_
   refine zAo Z Z ?_
   refine zG (QOp.res (zNe Z Z zBe Z (zI3 q0') (by omega)) (by rw [zOW b2])) ?_
   refine zHe ?_
   refine fin _ ⟨Z, Z, Z, Z, Z, ?_, trivial⟩
   show some (AV.bool (decide (((r * 4294967296 + u2 : Nat) : Int) < ((g * v2 : Nat) : Int)))) = _
   congr 2
   rw [decide_eq_decide]
   constructor
   ·intro h; exact ⟨q0', by omega⟩
   ·intro h; exact Int.ofNat_lt.2 h.2
  ·refine zEL ?_
   refine fin _ ⟨Z, Z, Z, Z, Z, ?_, trivial⟩
   show some (AV.bool false) = _
   rw [decide_eq_false]
   intro h
   exact q0 (by omega)
 refine zD Z (fun q0 => ?_) (fun q0 => ?_)
 ·have q1 := htest.1 q0
  have hg0 : 0 < g := by
   rcases Nat.eq_zero_or_pos g with z | z
   ·subst z; rw [Nat.zero_mul] at q1; omega
   ·exact z
  obtain ⟨g, rfl⟩ : ∃ m, g = m + 1 := ⟨g - 1, by omega⟩
  rw [Nat.add_mul, Nat.one_mul] at i2
  refine rn1 ?_
  refine zG (zOw (m := g + 1) (n := 1) Z Z zBe (by omega) (by omega)) ?_
  refine rn8 ?_
  refine zA 74 (.int .i64 (s - 1 : Nat)) Z (AEq.of_eq (by congr 1; omega)) ?_
  refine rn6 ?_
  refine zA 76 (.int .u32 (v1 : Nat)) Z (AEq.of_eq (by rw [k1])) ?_
  refine zG (zAZ (m := v1) Z Z Z zBe (by omega)) ?_
  refine zG (zFm Z Z zBe (by omega)) ?_
  refine rn0 ?_
  refine zM ⟨(g, r + v1), ⟨by simp only; omega, by simp only; omega, fun g' z1 z2 => ?_⟩, by simp only; omega, ⟨Z, Z, Z, Z, Z, trivial⟩, Z⟩
  have z3 := i3 g' z1 z2
  show g' ≤ g
  rcases Nat.lt_or_ge g g' with z | z
  ·exfalso
   have : g' = g + 1 := by omega
   subst this
   omega
  ·exact z
 ·have q1 : g * (v1 * 4294967296 + v2) ≤ top * 4294967296 + u2 := by
   rcases Nat.lt_or_ge (top * 4294967296 + u2) (g * (v1 * 4294967296 + v2)) with z | z
   ·exact absurd (htest.2 z) q0
   ·exact z
  obtain ⟨e1, e2⟩ := hest g i1 q1 i3
  clear hest htest i3 q0
  have hmB : zc U % zc V < B ^ (s + 1) := Nat.lt_of_le_of_lt (Nat.mod_le _ _) (by have := zA2 hU; rwa [hl] at this)
  have hdone := fun (w b : Nat) (hw : w < B ^ (s + 1)) => zOn (u := zc U) (v := zc V) (g := g) (w := w) (n := s + 1) (b := b) hw (by have := zA2 hV; rw [hsd] at this; exact Nat.lt_of_lt_of_le this (Nat.pow_le_pow_right (by decide) (by omega))) (by have := zA2 hU; rwa [hl] at this)
  generalize zc U / zc V = q at *
  generalize hme : zc U % zc V = m at *
  refine rn5 ?_
  have hAl : ∀ W : List Int, W.length = s + 1 → ∀ i, i < s + 1 → i + j < (A ++ (W ++ C)).length := fun W hW i hi => by simp [hj, hW]; omega
  refine zh (ι := Nat × List Int × Nat × Nat) (fun p => [(0, .sl 0 j (s + 1)), (1, .ro (.ints .u32 V) 0 s), (5, .int .i64 (s : Nat)), (7, .int .u64 (g : Nat)), (9, .int .u64 (p.2.2.1 : Nat)), (10, .int .i64 (p.2.2.2 : Nat)), (82, .int .i64 (s + 1 : Nat)), (83, .int .i64 (p.1 : Nat))]) (fun p => some ⟨224, .ints .u32 (A ++ (p.2.1 ++ C))⟩ :: Hr)
   (fun p => p.1 ≤ s + 1 ∧ p.2.1.length = s + 1 ∧ Lim p.2.1 ∧ (∀ x, p.1 ≤ x → p.2.1.getD x 0 = U.getD x 0) ∧ p.2.2.1 < 4294967296 ∧ p.2.2.2 ≤ 1 ∧ (p.1 = s + 1 → p.2.2.1 = 0) ∧ zc (p.2.1.take p.1) + g * zc (V.take p.1) = zc (U.take p.1) + B ^ p.1 * (p.2.2.1 + p.2.2.2)) (fun p => s + 1 - p.1) (0, U, 0, 0)
   ⟨⟨rfl, rfl, rfl, rfl, rfl, rfl, rfl, rfl, trivial⟩, rfl, Nat.zero_le _, hl, hU, fun _ _ => rfl, Nat.zero_lt_succ _, Nat.zero_le _, fun _ => rfl, by simp [zc]⟩ ?_
  rintro ⟨i, Uc, cr, br⟩ ⟨w1, w2, w3, w4, w5, w6, w7, w8⟩
  simp only at *
  refine rn4 ?_
  refine zD Z (fun w9 => ?_) (fun w9 => ?_)
  ·have his : i < s + 1 := by omega
   obtain ⟨ui, hui, hub⟩ := hU.nat i
   obtain ⟨vi, hvi, hvb⟩ := hV.nat i
   have hmb := zMG (a := g) (b := vi) (c := cr) (by omega) hvb w5
   have hsl := hAl Uc w2 i his
   have hcur := zGo (C := C) hj (show i < Uc.length by omega)
   rw [w4 i (Nat.le_refl _), hui] at hcur
   have hlm : (cr + g * vi) % 4294967296 < 4294967296 := Nat.mod_lt _ (by decide)
   have hdb : (cr + g * vi) / 4294967296 < 4294967296 := by omega
   obtain ⟨yv, b', y1, y2, y3, y4, y5⟩ := zRL hub hlm w6
   have hstep := zOR (g := g) (cr := cr) (yv := yv) (b' := b') (show i < Uc.length by omega) w8 hui hvi y1
   have hlast : i + 1 = s + 1 → (cr + g * vi) / 4294967296 = 0 := fun h => by
    have : V.getD i 0 = 0 := by simp [List.getD, List.getElem?_eq_none (show V.length ≤ i by omega)]
    have : vi = 0 := by omega
    subst this
    rw [Nat.mul_zero, Nat.add_zero]
    exact Nat.div_eq_of_lt w5
   refine rn4 ?_
   apply zAM (H := some ⟨224, .ints .u32 (A ++ (Uc ++ C))⟩ :: Hr) [(0, .sl 0 j (s + 1)), (1, .ro (.ints .u32 V) 0 s), (5, .int .i64 (s : Nat)), (7, .int .u64 (g : Nat)), (9, .int .u64 (cr + g * vi : Nat)), (10, .int .i64 (br : Nat)), (11, .int .i64 (i : Nat)), (82, .int .i64 (s + 1 : Nat)), (83, .int .i64 (i : Nat))]
   ·intro fin
    refine zD Z (fun q0 => ?_) (fun q0 => ?_)
    ·refine rn6 ?_
     refine zA 94 (.int .u32 (vi : Nat)) Z (AEq.of_eq (by rw [hvi])) ?_
     refine zG (zAZ (m := vi) Z Z Z zBe (by omega)) ?_
     refine zG (zIv Z Z zBe hmb.1) ?_
     refine zG (zFm Z Z zBe hmb.2) ?_
     refine rn9 ?_
     exact fin _ ⟨Z, Z, Z, Z, Z, Z, Z, Z, Z, trivial⟩
    ·have hv0 : vi = 0 := by
      have : V.getD i 0 = 0 := by simp [List.getD, List.getElem?_eq_none (show V.length ≤ i by omega)]
      omega
     subst hv0
     refine rn9 ?_
     exact fin _ ⟨Z, Z, Z, Z, Z, Z, Z, Z, Z, trivial⟩
   refine rn8 ?_
   refine zA 101 (.int .u32 (ui : Nat)) Z (AEq.of_eq (by rw [hcur])) ?_
   refine zG (zEz (m := ui) Z Z Z (by omega)) ?_
   repeat (refine zG (zL rfl) ?_)
   refine zG (QOp.res (q_uand (n := 4294967295) Z Z zBe Z hmb.2 (by decide)) (by rw [and_low])) ?_
   obtain ⟨lo, hlo⟩ : ∃ lo, (cr + g * vi) % 4294967296 = lo := ⟨_, rfl⟩
   rw [hlo] at hlm y1 y4 y5 ⊢
   refine zG (zEz (m := lo) Z Z Z (by omega)) ?_
   refine rn7 ?_
   refine zG (zGL (s := 32) Z Z Z) ?_
   refine rn4 ?_
   apply zAM (H := some ⟨224, .ints .u32 (A ++ (Uc ++ C))⟩ :: Hr) [(0, .sl 0 j (s + 1)), (1, .ro (.ints .u32 V) 0 s), (5, .int .i64 (s : Nat)), (7, .int .u64 (g : Nat)), (9, .int .u64 ((cr + g * vi) / 4294967296 : Nat)), (10, .int .i64 (b' : Nat)), (11, .int .i64 (i : Nat)), (12, .int .i64 (yv : Nat)), (82, .int .i64 (s + 1 : Nat)), (83, .int .i64 (i : Nat))]
   ·intro fin
    refine zD Z (fun q0 => ?_) (fun q0 => ?_)
    ·obtain ⟨z1, z2⟩ := y4 q0
     subst z1
     skip
     refine zV Z ?_
     refine rn9 ?_
     exact fin _ ⟨Z, Z, Z, Z, Z, Z, Z, by rw [z2]; rfl, Z, Z, trivial⟩
    ·obtain ⟨z1, z2⟩ := y5 q0
     subst z1
     refine rn9 ?_
     exact fin _ ⟨Z, Z, Z, Z, Z, Z, Z, by rw [z2]; rfl, Z, Z, trivial⟩
   refine rn0 ?_
   refine zG (zAZ (m := yv) Z Z Z zE3 y3) ?_
   have hset := zPS (x := (yv : Int)) (C := C) hj (show i < Uc.length by omega)
   refine rn8 ?_
   refine zM ⟨(i + 1, Uc.set i (yv : Int), (cr + g * vi) / 4294967296, b'), ⟨by simp only; omega, by simp [w2], w3.set (by omega), fun x hx => ?_, hdb, y2, hlast, hstep⟩, by simp only; omega, ⟨Z, Z, Z, Z, Z, Z, Z, Z, trivial⟩, ?_⟩
   ·simp only at hx ⊢
    rw [zDs (by omega)]; exact w4 x (by omega)
   ·show some (⟨_, .ints .u32 ((A ++ (Uc ++ C)).set (j + i) (yv : Int))⟩ : AObj) :: Hr = _
    rw [hset]
  ·have hie : i = s + 1 := by omega
   subst hie
   have hcr := w7 rfl
   subst hcr
   rw [List.take_of_length_le (by omega), List.take_of_length_le (by omega), List.take_of_length_le (by omega), Nat.zero_add] at w8
   have hUcb := zA2 w3
   rw [w2] at hUcb
   obtain ⟨d0, d1⟩ := hdone (zc Uc) br hUcb w6 w8 e1 e2 hv0
   refine rn5 ?_
   refine zD Z (fun q0 => ?_) (fun q0 => ?_)
   ·obtain ⟨z1, z2⟩ := d0 (by omega)
    subst z1
    have hfx := zHH w3 w2 z2
    refine rn0 ?_
    refine zG (zAZ (m := g) Z Z Z zE3 (by omega)) ?_
    refine rn2 ?_
    refine zI hR Z ⟨Z, ?_⟩
    rw [hfx]
   ·obtain ⟨z1, z2⟩ := d1 (by omega)
    refine rn3 ?_
    refine zh (ι := Nat × List Int × Nat) (fun p => [(0, .sl 0 j (s + 1)), (1, .ro (.ints .u32 V) 0 s), (5, .int .i64 (s : Nat)), (7, .int .u64 (g : Nat)), (13, .int .u64 (p.2.2 : Nat)), (126, .int .i64 (s + 1 : Nat)), (127, .int .i64 (p.1 : Nat))]) (fun p => some ⟨224, .ints .u32 (A ++ (p.2.1 ++ C))⟩ :: Hr)
     (fun p => p.1 ≤ s + 1 ∧ p.2.1.length = s + 1 ∧ Lim p.2.1 ∧ (∀ x, p.1 ≤ x → p.2.1.getD x 0 = Uc.getD x 0) ∧ p.2.2 < 4294967296 ∧ zc (p.2.1.take p.1) + B ^ p.1 * p.2.2 = zc (Uc.take p.1) + zc (V.take p.1)) (fun p => s + 1 - p.1) (0, Uc, 0)
     ⟨⟨rfl, rfl, rfl, rfl, rfl, rfl, rfl, trivial⟩, rfl, Nat.zero_le _, w2, w3, fun _ _ => rfl, Nat.zero_lt_succ _, by simp [zc]⟩ ?_
    rintro ⟨i, Ud, sm⟩ ⟨x1, x2, x3, x4, x5, x6⟩
    simp only at *
    refine rn4 ?_
    refine zD Z (fun x9 => ?_) (fun x9 => ?_)
    ·have his : i < s + 1 := by omega
     obtain ⟨ui, hui, hub⟩ := w3.nat i
     obtain ⟨vi, hvi, hvb⟩ := hV.nat i
     have hcur := zGo (C := C) hj (show i < Ud.length by omega)
     rw [x4 i (Nat.le_refl _), hui] at hcur
     have hsl := hAl Ud x2 i his
     have hstep := zRS (sm := sm) (show i < Ud.length by omega) x6 hui hvi
     refine rn19 ?_
     refine zA 134 (.int .u32 (ui : Nat)) Z (AEq.of_eq (by rw [hcur])) ?_
     refine zG (zAZ (m := ui) Z Z Z zBe (by omega)) ?_
     refine zG (zFm Z Z zBe (by omega)) ?_
     refine rn4 ?_
     apply zAM (H := some ⟨224, .ints .u32 (A ++ (Ud ++ C))⟩ :: Hr) [(0, .sl 0 j (s + 1)), (1, .ro (.ints .u32 V) 0 s), (5, .int .i64 (s : Nat)), (7, .int .u64 (g : Nat)), (13, .int .u64 (sm + ui + vi : Nat)), (14, .int .i64 (i : Nat)), (126, .int .i64 (s + 1 : Nat)), (127, .int .i64 (i : Nat))]
     ·intro fin
      refine zD Z (fun q1 => ?_) (fun q1 => ?_)
      ·refine rn6 ?_
       refine zA 144 (.int .u32 (vi : Nat)) Z (AEq.of_eq (by rw [hvi])) ?_
       refine zG (zAZ (m := vi) Z Z Z zBe (by omega)) ?_
       refine zG (zFm Z Z zBe (by omega)) ?_
       refine rn9 ?_
       exact fin _ ⟨Z, Z, Z, Z, Z, Z, Z, Z, trivial⟩
      ·have hv0 : vi = 0 := by
        have : V.getD i 0 = 0 := by simp [List.getD, List.getElem?_eq_none (show V.length ≤ i by omega)]
        omega
       subst hv0
       refine rn9 ?_
       exact fin _ ⟨Z, Z, Z, Z, Z, Z, Z, Z, trivial⟩
     refine rn0 ?_
     refine zG (zGR Z Z Z zE3) ?_
     have hset := zPS (x := (((sm + ui + vi) % 4294967296 : Nat) : Int)) (C := C) hj (show i < Ud.length by omega)
     refine rn8 ?_
     refine zG (zGL (s := 32) Z Z Z) ?_
     refine rn5 ?_
     refine zM ⟨(i + 1, Ud.set i (((sm + ui + vi) % 4294967296 : Nat) : Int), (sm + ui + vi) / 4294967296), ⟨by simp only; omega, by simp [x2], x3.set (zD9 _), fun x hx => ?_, by simp only; omega, hstep⟩, by simp only; omega, ⟨Z, Z, Z, Z, Z, Z, Z, trivial⟩, ?_⟩
     ·simp only at hx ⊢
      rw [zDs (by omega)]; exact x4 x (by omega)
     ·show some (⟨_, .ints .u32 ((A ++ (Ud ++ C)).set (j + i) (((sm + ui + vi) % 4294967296 : Nat) : Int))⟩ : AObj) :: Hr = _
      rw [hset]
    ·have hie : i = s + 1 := by omega
     subst hie
     rw [List.take_of_length_le (by omega), List.take_of_length_le (by omega), List.take_of_length_le (by omega), z2] at x6
     have hUdb := zA2 x3
     rw [x2] at hUdb
     have hv : zc Ud = m := by
      rcases Nat.lt_trichotomy sm 1 with z | z | z
      ·have : sm = 0 := by omega
       subst this
       omega
      ·subst z; omega
      ·have : B ^ (s + 1) * 2 ≤ B ^ (s + 1) * sm := Nat.mul_le_mul_left _ z
       omega
     have hfx := zHH x3 x2 hv
     refine rn5 ?_
     refine zG (zOw (m := g) (n := 1) Z Z zBe (by omega) (by omega)) ?_
     refine zG (zAZ (m := g - 1) Z Z Z zE3 (by omega)) ?_
     refine rn0 ?_
     refine zI hR Z ⟨?_, ?_⟩
     ·rw [show g - 1 = q by omega]; rfl
     ·rw [hfx]
end Go.Proofs.YtnkealfaldjipaaGreatDoor
namespace Go.Ax.Bg
theorem zF4 : ∀ (a b v : Nat), zCB (a + b) v = zCB a v ++ zCB b (v / B ^ a)
 | 0, b, v => by simp [zCB]
 | a + 1, b, v => by
  rw [show a + 1 + b = a + b + 1 by omega, zCB, zCB, zF4 a b, List.cons_append, Nat.pow_succ, Nat.mul_comm (B ^ a), ← Nat.div_div_eq_div_mul]
theorem zGF : ∀ (k v : Nat), zc (zCB k v) = v % B ^ k
 | 0, v => by simp [zCB, zc, Nat.mod_one]
 | k + 1, v => by
  rw [zCB, zc, Int.toNat_natCast, zGF k, Nat.pow_succ, Nat.mul_comm (B ^ k), Nat.mod_mul]
theorem zOh {k v w : Nat} (h : v % B ^ k = w % B ^ k) : zCB k v = zCB k w := by
 have h1 := zHH (zFv k v) (zCE k v) (zGF k v)
 have h2 := zHH (zFv k w) (zCE k w) (zGF k w)
 rw [h1, h2, h]
/-- The top limb. -/
theorem zGq {v s : Nat} (hs : 1 ≤ s) (h : (zT v).length = s) : ∃ t low : Nat, (zT v).getD (s - 1) 0 = (t : Int) ∧ t < 4294967296 ∧ 0 < t ∧ v = low + B ^ (s - 1) * t ∧ low < B ^ (s - 1) := by
 obtain ⟨t, ht, hb⟩ := (zAY v).nat (s - 1)
 refine ⟨t, zc ((zT v).take (s - 1)), ht, hb, ?_, ?_, ?_⟩
 ·rcases zLp (n := v) with q | q
  ·rw [q] at h; simp at h; omega
  ·rw [h, ht] at q; omega
 ·have := zAE (zT v) (s - 1)
  rw [show s - 1 + 1 = (zT v).length by omega, List.take_length, zAH, ht, Int.toNat_natCast] at this
  exact this
 ·have := zA2 ((zAY v).take (s - 1))
  rwa [List.length_take, Nat.min_eq_left (by omega)] at this
theorem bexp {s : Nat} (hs : 1 ≤ s) : B ^ s = B ^ (s - 1) * 4294967296 := by
 rw [show s = s - 1 + 1 by omega, Nat.pow_succ]; rfl
/-- The divisor, shifted to the top. -/
theorem norm_top {m k s t : Nat} (hs : 1 ≤ s) (h : (zT m).length = s) (ht : (zT m).getD (s - 1) 0 = (t : Int)) (h1 : 2147483648 ≤ t * 2 ^ k) (h2 : t * 2 ^ k < 4294967296) (hk : k ≤ 31) :
 (zT (m * 2 ^ k)).length = s ∧ 2147483648 ≤ (zT (m * 2 ^ k)).getD (s - 1) 0 := by
 obtain ⟨t', low, e, hb, hp, hv, hlow⟩ := zGq hs h
 have : t' = t := by omega
 subst this
 have hP := bpos (s - 1)
 have hpk : 0 < 2 ^ k := Nat.pow_pos (by decide)
 have hd : ∃ q, 4294967296 = q * 2 ^ k := ⟨2 ^ (32 - k), by rw [← Nat.pow_add, show 32 - k + k = 32 by omega]⟩
 obtain ⟨q, hq⟩ := hd
 have h3 : t' + 1 ≤ q := by
  have : t' * 2 ^ k < q * 2 ^ k := by omega
  exact Nat.lt_of_mul_lt_mul_right this
 have h4 : (t' + 1) * 2 ^ k ≤ 4294967296 := by rw [hq]; exact Nat.mul_le_mul_right _ h3
 have hup : m * 2 ^ k < B ^ s := by
  rw [bexp hs]
  have h5 : m < B ^ (s - 1) * (t' + 1) := by rw [Nat.mul_add]; omega
  have h6 : m * 2 ^ k < B ^ (s - 1) * (t' + 1) * 2 ^ k := Nat.mul_lt_mul_of_pos_right h5 hpk
  have h7 : B ^ (s - 1) * ((t' + 1) * 2 ^ k) ≤ B ^ (s - 1) * 4294967296 := Nat.mul_le_mul_left _ h4
  rw [Nat.mul_assoc] at h6
  omega
 have hlo : B ^ (s - 1) * 2147483648 ≤ m * 2 ^ k := by
  have h5 : B ^ (s - 1) * (t' * 2 ^ k) ≤ m * 2 ^ k := by
   rw [← Nat.mul_assoc]; exact Nat.mul_le_mul_right _ (by omega)
  exact Nat.le_trans (Nat.mul_le_mul_left _ h1) h5
 have hlen : (zT (m * 2 ^ k)).length = s := by
  have a := zAs hup
  have b : B ^ (s - 1) ≤ m * 2 ^ k := by
   have : B ^ (s - 1) * 1 ≤ B ^ (s - 1) * 2147483648 := Nat.mul_le_mul_left _ (by decide)
   omega
  have c := zNZ b
  omega
 refine ⟨hlen, ?_⟩
 obtain ⟨t2, low2, e2, _, _, hv2, hlow2⟩ := zGq hs hlen
 rw [e2]
 rcases Nat.lt_or_ge t2 2147483648 with z | z
 ·exfalso
  have : B ^ (s - 1) * (t2 + 1) ≤ B ^ (s - 1) * 2147483648 := Nat.mul_le_mul_left _ (by omega)
  rw [Nat.mul_add] at this
  omega
 ·omega
theorem k_more {t k : Nat} (ht : 0 < t) (h : t * 2 ^ k < 4294967296) (hk : k ≤ 31) (h0 : t * 2 ^ k / 2 ^ 31 = 0) : t * 2 ^ (k + 1) < 4294967296 ∧ k + 1 ≤ 31 := by
 have h1 : t * 2 ^ k < 2147483648 := by
  rcases Nat.lt_or_ge (t * 2 ^ k) 2147483648 with q | q
  ·exact q
  ·have := Nat.div_le_div_right (c := 2 ^ 31) q
   rw [h0] at this
   exact absurd this (by decide)
 refine ⟨by rw [Nat.pow_succ, ← Nat.mul_assoc]; omega, ?_⟩
 rcases Nat.lt_or_ge k 31 with q | q
 ·exact q
 ·exfalso
  have : k = 31 := by omega
  subst this
  have : 1 * 2 ^ 31 ≤ t * 2 ^ 31 := Nat.mul_le_mul_right _ ht
  have e : (2 : Nat) ^ 31 = 2147483648 := by decide
  rw [e] at this h1
  omega
theorem k_stop {t k : Nat} (h0 : ¬ t * 2 ^ k / 2 ^ 31 = 0) : 2147483648 ≤ t * 2 ^ k := by
 rcases Nat.lt_or_ge (t * 2 ^ k) 2147483648 with q | q
 ·exact absurd (Nat.div_eq_of_lt (by have e : (2 : Nat) ^ 31 = 2147483648 := by decide
                                     rw [e]; exact q)) h0
 ·exact q
/-- Where the quotient's digits begin. -/
theorem zRE {n ln v s k : Nat} (hn : n < B ^ ln) (hk : k ≤ 31) (hs : 1 ≤ s) (hsl : s ≤ ln) (hv : B ^ (s - 1) * 2147483648 ≤ v) : n * 2 ^ k < v * B ^ (ln + 1 - s) := by
 have hp : 2 ^ k ≤ 2147483648 := Nat.le_trans (Nat.pow_le_pow_right (show 0 < 2 by decide) hk) (by decide)
 have h1 : n * 2 ^ k ≤ n * 2147483648 := Nat.mul_le_mul_left _ hp
 have h2 : B ^ (s - 1) * 2147483648 * B ^ (ln + 1 - s) ≤ v * B ^ (ln + 1 - s) := Nat.mul_le_mul_right _ hv
 have h3 : B ^ (s - 1) * 2147483648 * B ^ (ln + 1 - s) = B ^ ln * 2147483648 := by
  have e : B ^ ln = B ^ (s - 1) * B ^ (ln + 1 - s) := by rw [← Nat.pow_add]; congr 1; omega
  rw [e]; ac_rfl
 omega
theorem top_ge {v s : Nat} (hs : 1 ≤ s) (hl : (zT v).length = s) (h : 2147483648 ≤ (zT v).getD (s - 1) 0) : B ^ (s - 1) * 2147483648 ≤ v := by
 obtain ⟨t, low, e, _, _, hv, _⟩ := zGq hs hl
 have : B ^ (s - 1) * 2147483648 ≤ B ^ (s - 1) * t := Nat.mul_le_mul_left _ (by omega)
 omega
/-- One zBy: the rest. -/
theorem quo_step {W v s j N : Nat} (hv0 : 0 < v) (hv : v < B ^ s) (hW : W < v * B ^ (j + 1)) (hN : j + (s + 1) ≤ N) :
 zCB N W = zCB j W ++ (zCB (s + 1) (W / B ^ j) ++ zCB (N - (j + (s + 1))) (W / B ^ j / B ^ (s + 1))) ∧ zc (zCB (s + 1) (W / B ^ j)) = W / B ^ j ∧ W / B ^ j < 4294967296 * v ∧
  ∃ W', zCB j W ++ (zCB (s + 1) (W / B ^ j % v) ++ zCB (N - (j + (s + 1))) (W / B ^ j / B ^ (s + 1))) = zCB N W' ∧ W' < v * B ^ j ∧ W' + B ^ j * (v * (W / B ^ j / v)) = W := by
 have hP := bpos j
 have h1 : W / B ^ j < 4294967296 * v := by
  refine Nat.div_lt_of_lt_mul ?_
  have : v * B ^ (j + 1) = B ^ j * (4294967296 * v) := by rw [Nat.pow_succ]; unfold B; ac_rfl
  rw [← this]; exact hW
 have h2 : W / B ^ j < B ^ (s + 1) := by
  have : 4294967296 * v ≤ 4294967296 * B ^ s := Nat.mul_le_mul_left _ (by omega)
  rw [Nat.pow_succ, Nat.mul_comm (B ^ s)]
  exact Nat.lt_of_lt_of_le h1 this
 have h3 : W / B ^ j / B ^ (s + 1) = 0 := Nat.div_eq_of_lt h2
 have hr : W / B ^ j % v < v := Nat.mod_lt _ hv0
 have hvs : v < B ^ (s + 1) := Nat.lt_of_lt_of_le hv (Nat.pow_le_pow_right (by decide) (by omega))
 refine ⟨?_, zIg _ _ h2, h1, W % B ^ j + B ^ j * (W / B ^ j % v), ?_, ?_, ?_⟩
 ·rw [← zF4, ← zF4]
  congr 1; omega
 ·have e1 : (W % B ^ j + B ^ j * (W / B ^ j % v)) / B ^ j = W / B ^ j % v := by
   rw [Nat.add_mul_div_left _ _ hP, Nat.div_eq_of_lt (Nat.mod_lt _ hP), Nat.zero_add]
  have e2 : (W % B ^ j + B ^ j * (W / B ^ j % v)) % B ^ j = W % B ^ j := by
   rw [Nat.add_mul_mod_self_left, Nat.mod_mod]
  rw [show N = j + ((s + 1) + (N - (j + (s + 1)))) by omega, zF4 j, zF4 (s + 1), e1, h3, zOh e2.symm]
  rw [show j + (s + 1 + (N - (j + (s + 1)))) - (j + (s + 1)) = N - (j + (s + 1)) by omega, Nat.div_eq_of_lt (Nat.lt_trans hr hvs)]
 ·have h5 : B ^ j * (W / B ^ j % v + 1) ≤ B ^ j * v := Nat.mul_le_mul_left _ hr
  have h6 := Nat.mod_lt W hP
  rw [Nat.mul_add] at h5
  rw [Nat.mul_comm v]
  omega
 ·have a := Nat.div_add_mod W (B ^ j)
  have b := Nat.div_add_mod (W / B ^ j) v
  have c : B ^ j * (v * (W / B ^ j / v)) + B ^ j * (W / B ^ j % v) = B ^ j * (W / B ^ j) := by rw [← Nat.mul_add, b]
  omega
theorem quo_end {n m k W Q : Nat} (hm : 0 < m) (h : Q * (m * 2 ^ k) + W = n * 2 ^ k) (hW : W < m * 2 ^ k) : Q = n / m ∧ W = n % m * 2 ^ k := by
 have hk : 0 < 2 ^ k := Nat.pow_pos (by decide)
 have h0 : 0 < m * 2 ^ k := Nat.mul_pos hm hk
 have e1 : n * 2 ^ k / (m * 2 ^ k) = n / m := Nat.mul_div_mul_right _ _ hk
 have e2 : n * 2 ^ k % (m * 2 ^ k) = n % m * 2 ^ k := Nat.mul_mod_mul_right ..
 rw [← h] at e1 e2
 rw [Nat.add_comm, Nat.add_mul_div_right _ _ h0, Nat.div_eq_of_lt hW, Nat.zero_add] at e1
 rw [Nat.add_comm, Nat.add_mul_mod_self_right, Nat.mod_eq_of_lt hW] at e2
 exact ⟨e1, e2⟩
/-- A limb shifted back by k bits. -/
theorem zQw {d e k : Nat} (hd : d < 4294967296) (hk : k ≤ 31) : d / 2 ^ k ||| e * 2 ^ (32 - k) % 4294967296 = d / 2 ^ k + e % 2 ^ k * 2 ^ (32 - k) := by
 have hp : 0 < 2 ^ (32 - k) := Nat.pow_pos (by decide)
 have e1 : (4294967296 : Nat) = 2 ^ k * 2 ^ (32 - k) := by rw [← Nat.pow_add, show k + (32 - k) = 32 by omega]
 have e2 : e * 2 ^ (32 - k) % 4294967296 = e % 2 ^ k * 2 ^ (32 - k) := by
  rw [e1]; exact Nat.mul_mod_mul_right ..
 have h1 : d / 2 ^ k < 2 ^ (32 - k) := by
  refine Nat.div_lt_of_lt_mul ?_
  rw [← e1]; exact hd
 rw [e2]
 have := Nat.two_pow_add_eq_or_of_lt h1 (e % 2 ^ k)
 rw [Nat.or_comm, Nat.mul_comm (e % 2 ^ k), ← this, Nat.add_comm]
theorem back_lim {d e k : Nat} (hd : d < 4294967296) (hk : k ≤ 31) : d / 2 ^ k + e % 2 ^ k * 2 ^ (32 - k) < 4294967296 := by
 have e1 : (4294967296 : Nat) = 2 ^ k * 2 ^ (32 - k) := by rw [← Nat.pow_add, show k + (32 - k) = 32 by omega]
 have h1 : d / 2 ^ k < 2 ^ (32 - k) := by
  refine Nat.div_lt_of_lt_mul ?_
  rw [← e1]; exact hd
 have h2 : (e % 2 ^ k + 1) * 2 ^ (32 - k) ≤ 2 ^ k * 2 ^ (32 - k) := Nat.mul_le_mul_right _ (Nat.mod_lt _ (Nat.pow_pos (by decide)))
 rw [Nat.add_mul, ← e1] at h2
 omega
theorem back_val {out r : List Int} {i k d e : Nat} (hk : k ≤ 31) (hl : out.length = i) (hd : r.getD i 0 = (d : Int)) {d0 : Nat} (h : zc out * 2 ^ k + d0 = zc (r.take i) + (d % 2 ^ k) * B ^ i) :
 zc (out ++ [((d / 2 ^ k + e % 2 ^ k * 2 ^ (32 - k) : Nat) : Int)]) * 2 ^ k + d0 = zc (r.take (i + 1)) + (e % 2 ^ k) * B ^ (i + 1) := by
 rw [zDw, hl, Int.toNat_natCast, zAE, hd, Int.toNat_natCast, Nat.pow_succ]
 have e1 : (4294967296 : Nat) = 2 ^ (32 - k) * 2 ^ k := by rw [← Nat.pow_add, show 32 - k + k = 32 by omega]
 have e2 := Nat.div_add_mod d (2 ^ k)
 have e3 : B ^ i * (d / 2 ^ k + e % 2 ^ k * 2 ^ (32 - k)) * 2 ^ k = B ^ i * (2 ^ k * (d / 2 ^ k)) + e % 2 ^ k * (B ^ i * B) := by
  rw [show B = 2 ^ (32 - k) * 2 ^ k from e1]
  generalize (2 ^ (32 - k) * 2 ^ k) ^ i = p
  rw [Nat.mul_add, Nat.add_mul]
  congr 1 <;> ac_rfl
 have e4 : B ^ i * (2 ^ k * (d / 2 ^ k)) + (d % 2 ^ k) * B ^ i = B ^ i * d := by
  rw [Nat.mul_comm (d % 2 ^ k), ← Nat.mul_add, e2]
 rw [Nat.add_mul, e3]
 omega
end Go.Ax.Bg
namespace Go.Proofs.YtnkealfaldjipaaGreatDoor
open Go.Ax Go.Ax.Bg Go.RowKit
attribute [local irreducible] Ax zBZ QOp zS
set_option maxRecDepth 100000
set_option maxHeartbeats 4000000
theorem clone_ok (n : Nat) (h : (zT n).length ≤ 1000000) : zU Tryz.prog 204 [zf n] (zf n) := by
 unfold zf
 generalize zT n = l at *
 refine zS.value (K := fun r H => r = .sl 0 0 l.length ∧ H = [some ⟨224, .ints .u32 l⟩]) (zE (P := Tryz.prog) (fn := Tryz.f204) Z Z (by kernel_rfl) Z (fun c hR hfix => ?_)) (fix := fun _ => False) (fun _ h => h) Z ?_
 ·refine rn0 ?_
  refine zKt Z Z Z (fun b hb => ?_)
  refine rn0 ?_
  refine zEk Z (fun h => ?_) (fun h => ?_)
  ·have := hb h
   have hn : l = [] := List.length_eq_zero_iff.mp this
   subst hn
   refine rn7 ?_
   refine zAi 2 ⟨224, .ints .u32 []⟩ Z Z ?_
   refine rn2 ?_
   exact zI hR Z ⟨Z, Z⟩
  ·refine rn1 ?_
   refine zCj Z Z Z Z Z Z Z Z Z Z ?_
   refine zAl [some ⟨224, .ints .u32 []⟩] (ze.eqv ⟨Z, Z, fun i j hi => absurd hi (Nat.not_lt_zero _)⟩ ze.nil) ?_
   repeat (refine zG (zL rfl) ?_)
   refine zAG Z Z Z Z Z Z Z Z Z Z Z Z (by show 0 + l.length ≤ l.length; omega) Z (by show (0 + l.length) * 4 ≤ _ ∧ _; omega) (fun i j _ _ => rfl) (by rw [hfix]; exact fun h => h) ?_
   refine rn0 ?_
   refine zI hR Z ⟨?_, ?_⟩
   ·show AV.sl 0 0 (0 + l.length) = _; rw [Nat.zero_add]
   ·show ([some ⟨224, .ints .u32 ([] ++ List.take l.length (List.drop 0 l))⟩] : zO) = _
    simp
 ·rintro r H ⟨rfl, rfl⟩
  exact ⟨rfl, fun o ho => by simp at ho; subst ho; exact Nat.le_of_eq (by simp [Cells.len]), zIB zBI⟩
theorem div_less (n m : Nat) (h : n < m) (hn : (zT n).length ≤ 1000000) (hm : (zT m).length ≤ 1000000) : zU Tryz.prog 158 [zf n, zf m] (.tup [.nil, zf n]) := by
 have hc := zL6 n m (by omega) (by omega)
 rw [zIh (Int.ofNat_lt.2 h)] at hc
 have hcl := clone_ok n hn
 refine zS.value0 (zE (P := Tryz.prog) (fn := Tryz.f158) Z Z (by kernel_rfl) Z (fun c hR hfix => ?_)) (fix := fun _ => False) (fun _ h => h) Z Z
 refine rn0 ?_
 refine zB Z Z Z hc ?_
 refine rn5 ?_
 refine zB Z Z Z hcl ?_
 refine rn2 ?_
 exact zI hR Z Z
theorem zP0 {n m : Nat} (h : m ≤ n) : ¬ zEM n m < 0 := by
 rcases Nat.lt_or_ge m n with q | q
 ·rw [zIX (Int.ofNat_lt.2 q)]; decide
 ·rw [zPM (by omega)]; decide
theorem div_one (n m : Nat) (h : m ≤ n) (hn : (zT n).length ≤ 1000000) (hm : (zT m).length = 1) : zU Tryz.prog 158 [zf n, zf m] (.tup [zf (n / m), zf (n % m)]) := by
 have hc := zL6 n m (by omega) (by omega)
 have hcn := zP0 h
 obtain ⟨t, low, ht, htb, htp, hv, hlow⟩ := zGq (Nat.le_refl 1) hm
 have hmt : m = t := by
  simp at hv hlow
  subst hlow
  rw [hv]; simp
 subst hmt
 have hds := zJT (zT n) m (zAY n) (by omega) ⟨htp, htb⟩
 rw [zAH] at hds
 have hr : n % m < 4294967296 := Nat.lt_trans (Nat.mod_lt _ htp) htb
 have hsm := zG2 (n % m) (by omega)
 refine zS.value0 (zE (P := Tryz.prog) (fn := Tryz.f158) Z Z (by kernel_rfl) Z (fun c hR hfix => ?_)) (fix := fun _ => False) (fun _ h => h) Z Z
 refine rn0 ?_
 refine zB Z Z Z hc ?_
 refine rn4 ?_
 refine zD Z (fun q => absurd q hcn) (fun q => ?_)
 unfold zf
 refine rn4 ?_
 rw [hm]
 refine rn6 ?_
 refine zA 31 (.int .u32 (m : Nat)) Z (AEq.of_eq (by congr 1)) ?_
 refine zB Z Z Z hds ?_
 refine rn2 ?_
 refine zG (zAZ (m := n % m) Z Z Z zBe (by omega)) ?_
 refine zB Z Z Z hsm ?_
 refine rn2 ?_
 exact zI hR Z Z
theorem div_many (n m : Nat) (h : m ≤ n) (hn : (zT n).length ≤ 1000000) (hm2 : 2 ≤ (zT m).length) : zU Tryz.prog 158 [zf n, zf m] (.tup [zf (n / m), zf (n % m)]) := by
 have hlm : (zT m).length ≤ (zT n).length := zAs (by have := zA2 (zAY n); rw [zAH] at this; omega)
 have hc := zL6 n m (by omega) (by omega)
 have hcn := zP0 h
 have hm0 : 0 < m := by
  rcases Nat.eq_zero_or_pos m with q | q
  ·subst q; rw [zB9] at hm2; simp at hm2
  ·exact q
 have hnB : n < B ^ (zT n).length := by have := zA2 (zAY n); rwa [zAH] at this
 obtain ⟨s, hs⟩ : ∃ s, (zT m).length = s := ⟨_, rfl⟩
 obtain ⟨ln, hln⟩ : ∃ ln, (zT n).length = ln := ⟨_, rfl⟩
 rw [hs] at hm2 hlm
 rw [hln] at hn hnB hlm
 obtain ⟨t, low, ht, htb, htp, hv, hlow⟩ := zGq (show 1 ≤ s by omega) hs
 refine zS.value0 (zE (P := Tryz.prog) (fn := Tryz.f158) Z Z (by kernel_rfl) Z (fun c hR hfix => ?_)) (fix := fun _ => False) (fun _ h => h) Z Z
 refine rn0 ?_
 refine zB Z Z Z hc ?_
 refine rn4 ?_
 refine zD Z (fun q => absurd q hcn) (fun q => ?_)
 have en : zf n = .ro (.ints .u32 (zT n)) 0 ln := by unfold zf; rw [hln]
 have em : zf m = .ro (.ints .u32 (zT m)) 0 s := by unfold zf; rw [hs]
 rw [en, em]
 refine rn4 ?_
 refine zD Z (fun q => absurd q (by omega)) (fun q => ?_)
 refine rn1 ?_
 refine zh (ι := Nat) (fun k => [(0, .ro (.ints .u32 (zT n)) 0 ln), (1, .ro (.ints .u32 (zT m)) 0 s), (8, .int .i64 (k : Nat))]) (fun _ => []) (fun k => k ≤ 31 ∧ t * 2 ^ k < 4294967296) (fun k => 32 - k) 0 ⟨⟨Z, Z, Z, trivial⟩, Z, by omega, by rw [Nat.pow_zero, Nat.mul_one]; exact htb⟩ ?_
 rintro k ⟨hk1, hk2⟩
 refine rn7 ?_
 refine zA 42 (.int .i64 (s - 1 : Nat)) Z (AEq.of_eq (by congr 1; omega)) ?_
 refine rn6 ?_
 refine zA 44 (.int .u32 (t : Nat)) Z (AEq.of_eq (by rw [ht])) ?_
 skip
 refine zG (zJ7 (m := t) (s := k) Z Z (by show k ≤ 32; omega) zE3 hk2) ?_
 refine zG (zGL (s := 31) Z Z Z) ?_
 refine rn4 ?_
 refine zD Z (fun q1 => ?_) (fun q1 => ?_)
 ·have hmore := k_more htp hk2 hk1 (by omega)
  refine rn5 ?_
  exact zM ⟨k + 1, ⟨hmore.2, hmore.1⟩, by omega, ⟨Z, Z, Z, trivial⟩, Z⟩
 have hstop := k_stop (t := t) (k := k) (by omega)
 obtain ⟨hnl, hnt⟩ := norm_top (show 1 ≤ s by omega) hs ht hstop hk2 hk1
 have hsn := zM9 (zT n) k (zAY n) (by omega) (by omega)
 have hsm := zM9 (zT m) k (zAY m) (by omega) (by omega)
 rw [zAH, hln] at hsn
 rw [zAH, hs] at hsm
 have hvB : m * 2 ^ k < B ^ s := by have := zA2 (zAY (m * 2 ^ k)); rwa [zAH, hnl] at this
 have hvB1 : m * 2 ^ k < B ^ (s + 1) := Nat.lt_of_lt_of_le hvB (Nat.pow_le_pow_right (by decide) (by omega))
 have hnorm := zD7 (zCB (s + 1) (m * 2 ^ k)) (zFv _ _) (by rw [zCE]; omega)
 rw [zIg _ _ hvB1] at hnorm
 have hstart := zRE hnB hk1 (show 1 ≤ s by omega) hlm (top_ge (show 1 ≤ s by omega) hnl hnt)
 have hv0 : 0 < m * 2 ^ k := Nat.mul_pos hm0 (Nat.pow_pos (by decide))
 have ev : zf (m * 2 ^ k) = .ro (.ints .u32 (zT (m * 2 ^ k))) 0 s := by unfold zf; rw [hnl]
 have hdig := fun (A U C : List Int) (j : Nat) (Hr : zO) (hj : A.length = j) (hl : U.length = s + 1) (hU : Lim U) => digit_ok A U C (zT (m * 2 ^ k)) j s Hr hj hm2 hl hnl hU (zAY _) hnt
 rw [zAH] at hdig
 have hend := fun Q W => quo_end (n := n) (m := m) (k := k) (W := W) (Q := Q) hm0
 obtain ⟨v, hve⟩ : ∃ v, m * 2 ^ k = v := ⟨_, rfl⟩
 rw [hve] at hsm hvB hvB1 hnorm hstart hv0 ev hdig hend hnl
 refine rn5 ?_
 have c1 : [AV.ro (.ints .u32 (zT n)) 0 ln, .int .i64 (k : Nat)] ++ [] = [zGA (zT n), .int .i64 (k : Nat)] := by unfold zGA; rw [hln]; rfl
 have c2 : [AV.ro (.ints .u32 (zT m)) 0 s, .int .i64 (k : Nat)] ++ [] = [zGA (zT m), .int .i64 (k : Nat)] := by unfold zGA; rw [hs]; rfl
 refine zEJ Z Z c1 hsn ?_
 repeat (refine zG (zL rfl) ?_)
 refine zEJ Z Z c2 hsm ?_
 refine zDh 1 56 (s + 1) [(0, .ro (.ints .u32 (zT n)) 0 ln), (8, .int .i64 (k : Nat)), (53, .sl 0 0 (ln + 1))] Z zBI Z (by show _ ≤ (zCB _ _).length; rw [zCE]; omega) ⟨Z, Z, Z, trivial⟩ ?_
 refine zB Z Z (zDX (zCE _ _)) hnorm ?_
 rw [ev]
 refine rn7 ?_
 refine zC4 Z Z Z Z Z Z Z Z (by show (0 : Int) ≤ _ ∧ _ ≤ _ ∧ (4 : Int) * _ ≤ _ ∧ _; omega) ?_
 obtain ⟨J, hJ⟩ : ∃ J, J + s = ln + 1 := ⟨ln + 1 - s, by omega⟩
 rw [show (((ln + 1 : Nat) : Int) - (s : Nat)).toNat = J by omega]
 rw [show ln + 1 - s = J by omega] at hstart
 refine rn7 ?_
 refine zh (ι := Nat × Nat × List Int) (fun p => [(8, .int .i64 (k : Nat)), (9, .sl 0 0 (ln + 1)), (10, .ro (.ints .u32 (zT v)) 0 s), (11, .int .i64 (s : Nat)), (12, .sl 2 0 J), (13, .int .i64 ((p.1 : Int) - 1))]) (fun p => [some ⟨224, .ints .u32 (zCB (ln + 1) p.2.1)⟩, none, some ⟨224, .ints .u32 p.2.2⟩])
  (fun p => p.1 ≤ J ∧ p.2.1 < v * B ^ p.1 ∧ p.2.2.length = J ∧ Lim p.2.2 ∧ (∀ x, x < p.1 → p.2.2.getD x 0 = 0) ∧ zc p.2.2 * v + p.2.1 = n * 2 ^ k) (fun p => p.1) (J, n * 2 ^ k, List.replicate J 0)
  ⟨⟨rfl, rfl, rfl, rfl, rfl, ?_, trivial⟩, rfl, Nat.le_refl _, hstart, by simp, Lim.zeros _, fun x _ => zM2 _ _, by simp [zH9]⟩ ?_
 ·show some (AV.int .i64 _) = _
  congr 2
  omega
 rintro ⟨j1, W, Q⟩ ⟨w1, w2, w3, w4, w5, w6⟩
 simp only at *
 refine rn8 ?_
 refine zD Z (fun q2 => ?_) (fun q2 => ?_)
 ·obtain ⟨j, rfl⟩ : ∃ j, j1 = j + 1 := ⟨j1 - 1, by omega⟩
  obtain ⟨p1, p2, p3, W', p4, p5, p6⟩ := quo_step (N := ln + 1) hv0 hvB w2 (show j + (s + 1) ≤ ln + 1 by omega)
  have hd := hdig (zCB j W) (zCB (s + 1) (W / B ^ j)) (zCB (ln + 1 - (j + (s + 1))) (W / B ^ j / B ^ (s + 1))) j [none, some ⟨224, .ints .u32 Q⟩] (zCE _ _) (zCE _ _) (zFv _ _) (by rw [p2]; exact p3) (by rw [← p1, zCE]; omega)
  rw [p2, p4, ← p1] at hd
  have hq : W / B ^ j / v < 4294967296 := Nat.div_lt_of_lt_mul (by rw [Nat.mul_comm]; exact p3)
  obtain ⟨dg, hdg⟩ : ∃ dg, W / B ^ j / v = dg := ⟨_, rfl⟩
  rw [hdg] at hd hq p6
  refine rn20 ?_
  refine zA 82 (.sl 0 j (s + 1)) Z (AEq.of_eq (by congr 1 <;> omega)) ?_
  skip
  have c3 : [AV.sl 0 j (s + 1), .ro (.ints .u32 (zT v)) 0 s] ++ [] = [.sl 0 j (s + 1), zGA (zT v)] := by unfold zGA; rw [hnl]; rfl
  refine zCd Z Z c3 hd (fun h hh => hh) (fun h hh => hh) ?_
  rintro r H ⟨rfl, rfl⟩
  refine zA 75 (.int .i64 (j : Nat)) Z (AEq.of_eq (by congr 1; omega)) ?_
  refine rn8 ?_
  have hz := w5 j (by omega)
  have hset := zKG (x := (dg : Int)) (show j < Q.length by omega)
  rw [hz, Int.toNat_natCast] at hset
  have z0 : (0 : Int).toNat = 0 := rfl
  rw [z0, Nat.mul_zero, Nat.add_zero] at hset
  refine zM ⟨(j, W', Q.set j (dg : Int)), ⟨by simp only; omega, p5, by simp [w3], w4.set (by omega), fun x hx => ?_, ?_⟩, by simp only; omega, ⟨Z, Z, Z, Z, Z, ?_, trivial⟩, Z⟩
  ·simp only at hx ⊢
   rw [zDs (by omega)]; exact w5 x (by omega)
  ·simp only
   rw [hset, Nat.add_mul, Nat.mul_assoc, Nat.mul_comm dg v]
   omega
  ·show some (AV.int .i64 _) = _
   congr 2
   omega
 ·have hj0 : j1 = 0 := by omega
  subst hj0
  rw [Nat.pow_zero, Nat.mul_one] at w2
  have he := hend (zc Q) W
  obtain ⟨hq, hW⟩ := he w6 w2
  clear he hend
  have hWB : W < B ^ s := Nat.lt_trans w2 hvB
  have htk : (zCB (ln + 1) W).take s = zCB s W := by
   rw [show ln + 1 = s + J by omega, zF4, List.take_left' (zCE _ _)]
  have hn1 := zD7 (zCB s W) (zFv _ _) (by rw [zCE]; omega)
  rw [zIg _ _ hWB] at hn1
  refine rn5 ?_
  refine zG (zFb Z Z Z Z Z Z Z Z ⟨Z, by omega, by omega⟩) ?_
  refine zA 88 (.sl 0 0 s) Z (AEq.of_eq (by rw [Int.toNat_natCast])) ?_
  refine zDh 0 88 s [(8, .int .i64 (k : Nat)), (12, .sl 2 0 J)] Z zBI Z (by show _ ≤ (zCB _ _).length; rw [zCE]; omega) ⟨Z, Z, trivial⟩ ?_
  refine zA 88 (.ro (.ints .u32 (zCB s W)) 0 s) Z (AEq.trans AEq.take (AEq.of_eq (by rw [htk]))) ?_
  refine zB Z Z (zDX (zCE _ _)) hn1 ?_
  have hlW := zAY W
  have hWv := zAH W
  have hlWl : (zT W).length ≤ s := zAs hWB
  unfold zf
  obtain ⟨r, hr⟩ : ∃ r, zT W = r := ⟨_, rfl⟩
  rw [hr] at hlW hWv hlWl ⊢
  refine rn3 ?_
  refine zC4 Z Z Z Z Z Z Z Z (by show (0 : Int) ≤ _ ∧ _ ≤ _ ∧ (4 : Int) * _ ≤ _ ∧ _; omega) ?_
  refine rn3 ?_
  have hd0 : ∃ d0 : Nat, r.getD 0 0 = (d0 : Int) ∧ d0 < 4294967296 := hlW.nat 0
  obtain ⟨d0, hd0, hd0b⟩ := hd0
  refine zh (ι := Nat × List Int) (fun p => [(8, .int .i64 (k : Nat)), (12, .sl 2 0 J), (14, .ro (.ints .u32 r) 0 r.length), (15, .sl 3 0 r.length), (93, .ro (.ints .u32 r) 0 r.length), (94, .int .i64 (r.length : Nat)), (95, .int .i64 (p.1 : Nat))]) (fun p => [none, none, some ⟨224, .ints .u32 Q⟩, some ⟨224, .ints .u32 p.2⟩])
   (fun p => p.1 ≤ r.length ∧ p.2.length = r.length ∧ Lim p.2 ∧ zc (p.2.take p.1) * 2 ^ k + d0 % 2 ^ k = zc (r.take p.1) + (r.getD p.1 0).toNat % 2 ^ k * B ^ p.1) (fun p => r.length - p.1) (0, List.replicate r.length 0)
   ⟨⟨rfl, rfl, rfl, rfl, rfl, rfl, rfl, trivial⟩, rfl, Nat.zero_le _, by simp, Lim.zeros _, by simp [zc]; rw [show r[0]?.getD 0 = (d0 : Int) from hd0]; simp⟩ ?_
  rintro ⟨i, O⟩ ⟨x1, x2, x3, x4⟩
  simp only at *
  refine rn4 ?_
  refine zD Z (fun x5 => ?_) (fun x5 => ?_)
  ·have hil : i < r.length := by omega
   obtain ⟨d, hd, hdb⟩ := hlW.nat i
   obtain ⟨e, he, heb⟩ := hlW.nat (i + 1)
   have hbl := zQw (e := e) hdb hk1
   have hbm := back_lim (e := e) hdb hk1
   have hdk : d / 2 ^ k < 4294967296 := Nat.lt_of_le_of_lt (Nat.div_le_self _ _) hdb
   rw [hd, Int.toNat_natCast] at x4
   have hstep := back_val (e := e) (out := O.take i) (i := i) hk1 (by simp; omega) hd x4
   refine rn6 ?_
   refine zA 102 (.int .u32 (d : Nat)) Z (AEq.of_eq (by rw [hd])) ?_
   skip
   refine zG (zGL (m := d) (s := k) Z Z (by rw [Nat.ble_eq]; show k ≤ 32; omega)) ?_
   refine rn8 ?_
   apply zAM (H := [none, none, some ⟨224, .ints .u32 Q⟩, some ⟨224, .ints .u32 (O.set i ((d / 2 ^ k + e % 2 ^ k * 2 ^ (32 - k) : Nat) : Int))⟩]) [(8, .int .i64 (k : Nat)), (12, .sl 2 0 J), (14, .ro (.ints .u32 r) 0 r.length), (15, .sl 3 0 r.length), (93, .ro (.ints .u32 r) 0 r.length), (94, .int .i64 (r.length : Nat)), (95, .int .i64 (i : Nat))]
   ·intro fin
    have noFin : (i + 1 = r.length ∨ k = 0) → e % 2 ^ k * 2 ^ (32 - k) = 0 := by
     rintro (h | h)
     ·have : r.getD (i + 1) 0 = 0 := by simp [List.getD, List.getElem?_eq_none (show r.length ≤ i + 1 by omega)]
      have : e = 0 := by omega
      subst this; simp
     ·subst h; rw [Nat.pow_zero, Nat.mod_one]; try simp
    refine zAt Z Z (fun y1 => ?_) (fun y1 => ?_)
    ·refine rn6 ?_
     refine zD Z (fun y2 => ?_) (fun y2 => ?_)
     ·skip
      refine zo (by kernel_rfl) ?_
      refine zw 0 Z (by kernel_rfl) (by kernel_rfl) (by kernel_rfl) Z (zL Z) Z ?_
      refine zw 1 Z (by kernel_rfl) (by kernel_rfl) (by kernel_rfl) Z (zL Z) Z ?_
      refine zw 2 Z (by kernel_rfl) (by kernel_rfl) (by kernel_rfl) Z (zBp Z Z Z Z Z (by first | (simp only [Nat.zero_add, Int.toNat_natCast, Int.toNat_zero]; exact Z) | exact Z) (by omega)) Z ?_
      refine zw 4 Z (by kernel_rfl) (by kernel_rfl) (by kernel_rfl) Z (zL Z) Z ?_
      refine zw 5 Z (by kernel_rfl) (by kernel_rfl) (by kernel_rfl) Z (zL Z) Z ?_
      refine zw 6 Z (by kernel_rfl) (by kernel_rfl) (by kernel_rfl) Z (zCo Z Z (by omega)) Z ?_
      refine zw 7 Z (by kernel_rfl) (by kernel_rfl) (by kernel_rfl) Z (zAU Z Z Z Z (by first | (simp only [Nat.zero_add, Int.toNat_natCast, Int.toNat_zero]; exact Z) | exact Z) (by omega)) Z ?_
      refine zw 9 Z (by kernel_rfl) (by kernel_rfl) (by kernel_rfl) Z (zL Z) Z ?_
      refine zw 10 Z (by kernel_rfl) (by kernel_rfl) (by kernel_rfl) Z (zEN Z Z (by omega)) Z ?_
      apply zAQ [(8, .int .i64 (k : Nat)), (12, .sl 2 0 J), (14, .ro (.ints .u32 r) 0 r.length), (15, .sl 3 0 r.length), (93, .ro (.ints .u32 r) 0 r.length), (94, .int .i64 (r.length : Nat)), (95, .int .i64 (i : Nat)), (118, .int .u32 (d / 2 ^ k : Nat)), (126, .int .u32 (e * 2 ^ (32 - k) % 4294967296 : Nat)), (115, .sl 3 0 r.length), (116, .int .i64 (i : Nat))]
      ·intro fin2
       have hsl : (O.set i ((d / 2 ^ k : Nat) : Int)).getD i 0 = ((d / 2 ^ k : Nat) : Int) := by simp [List.getD, show i < O.length by omega]
       have hil2 : i < (O.set i ((d / 2 ^ k : Nat) : Int)).length := by simp; omega
       refine zH (is := [3, 8]) (by kernel_rfl) (by simp) Z ⟨fun o ho => ?_, fun o ho => ?_, trivial⟩
       all_goals (cases ho)
       ·refine rn8 ?_
        refine zH (is := [8]) (by kernel_rfl) (by simp) Z ⟨fun o ho => ?_, trivial⟩
        all_goals (cases ho)
        refine rn6 ?_
        refine zDZ 123 (.int .u32 (e : Nat)) Z (AEq.of_eq (by rw [show ((i : Int) + 1).toNat = i + 1 by omega, he])) ?_
        refine zDZ 125 (.int .i64 (32 - k : Nat)) Z (AEq.of_eq (by congr 1; omega)) ?_
        refine zw 11 Z (by kernel_rfl) (by kernel_rfl) (by kernel_rfl) Z (zPc (m := e) (s := 32 - k) Z Z (by show 32 - k ≤ 32; omega) zE3) Z ?_
        refine fin2 _ ⟨Z, Z, Z, Z, Z, Z, Z, ?_, Z, Z, Z, trivial⟩
        show some (AV.int .u32 ((O.set i ((d / 2 ^ k : Nat) : Int)).getD i 0)) = _
        rw [hsl]
       ·refine rn6 ?_
        refine zDZ 123 (.int .u32 (e : Nat)) Z (AEq.of_eq (by rw [show ((i : Int) + 1).toNat = i + 1 by omega, he])) ?_
        refine zDZ 125 (.int .i64 (32 - k : Nat)) Z (AEq.of_eq (by congr 1; omega)) ?_
        refine zw 11 Z (by kernel_rfl) (by kernel_rfl) (by kernel_rfl) Z (zPc (m := e) (s := 32 - k) Z Z (by show 32 - k ≤ 32; omega) zE3) Z ?_
        refine zH (is := [3]) (by kernel_rfl) (by simp) Z ⟨fun o ho => ?_, trivial⟩
        all_goals (cases ho)
        refine rn8 ?_
        refine fin2 _ ⟨Z, Z, Z, Z, Z, Z, Z, ?_, Z, Z, Z, trivial⟩
        show some (AV.int .u32 ((O.set i ((d / 2 ^ k : Nat) : Int)).getD i 0)) = _
        rw [hsl]
      refine zw 12 Z (by kernel_rfl) (by kernel_rfl) (by kernel_rfl) Z (QOp.res (zNe Z Z zE3 Z hdk (Nat.mod_lt _ (by decide))) (by rw [hbl])) Z ?_
      have hil2 : i < (O.set i ((d / 2 ^ k : Nat) : Int)).length := by simp; omega
      refine zw 13 Z (by kernel_rfl) (by kernel_rfl) (by kernel_rfl) Z (zBp Z Z Z Z Z (by first | (simp only [Nat.zero_add, Int.toNat_natCast, Int.toNat_zero]; exact Z) | exact Z) (by omega)) Z ?_
      refine zH (is := [14]) (by kernel_rfl) (by simp) Z ⟨fun o ho => ?_, trivial⟩
      all_goals (cases ho)
      refine rn8 ?_
      refine zX (by kernel_rfl) ?_
      refine rn9 ?_
      refine zAV _ (by show [none, none, _, some (⟨_, .ints .u32 ((O.set i _).set i _)⟩ : AObj)] = _; rw [List.set_set]) ?_
      exact fin _ ⟨Z, Z, Z, Z, Z, Z, Z, trivial⟩
     ·have hz := noFin (.inr (by omega))
      rw [hz, Nat.add_zero] at fin
      refine rn9 ?_
      exact fin _ ⟨Z, Z, Z, Z, Z, Z, Z, trivial⟩
    ·have hz := noFin (.inl (by omega))
     rw [hz, Nat.add_zero] at fin
     refine rn9 ?_
     exact fin _ ⟨Z, Z, Z, Z, Z, Z, Z, trivial⟩
   refine rn3 ?_
   refine zM ⟨(i + 1, O.set i ((d / 2 ^ k + e % 2 ^ k * 2 ^ (32 - k) : Nat) : Int)), ⟨by simp only; omega, by simp [x2], x3.set (by omega), ?_⟩, by simp only; omega, ⟨Z, Z, Z, Z, Z, Z, Z, trivial⟩, Z⟩
   simp only
   rw [zFh (by omega), he, Int.toNat_natCast]
   exact hstep
  ·have hie : i = r.length := by omega
   subst hie
   have hz : r.getD r.length 0 = 0 := by simp [List.getD]
   have z0 : (0 : Int).toNat = 0 := rfl
   rw [hz, z0, Nat.zero_mod, Nat.zero_mul, Nat.add_zero, List.take_of_length_le (by omega), List.take_length, hWv, hW] at x4
   have hpk : 0 < 2 ^ k := Nat.pow_pos (by decide)
   have hOv : zc O = n % m := by
    have h1 : d0 % 2 ^ k < 2 ^ k := Nat.mod_lt _ hpk
    have h2 : (zc O * 2 ^ k + d0 % 2 ^ k) / 2 ^ k = zc O := by rw [Nat.add_comm, Nat.add_mul_div_right _ _ hpk, Nat.div_eq_of_lt h1, Nat.zero_add]
    rw [x4, Nat.mul_div_cancel _ hpk] at h2
    exact h2.symm
   have nq := zD7 Q w4 (by omega)
   have no := zD7 O x3 (by omega)
   rw [hq] at nq
   rw [hOv] at no
   refine rn5 ?_
   refine zDh 2 130 J [(15, .sl 3 0 r.length)] Z zBI Z (by show _ ≤ Q.length; omega) ⟨Z, trivial⟩ ?_
   refine zB Z Z (zDX w3) nq ?_
   repeat (refine zG (zL rfl) ?_)
   refine zDh 3 132 r.length [(131, zf (n / m))] Z zBI Z (by show _ ≤ O.length; omega) ⟨Z, trivial⟩ ?_
   refine zB Z Z (zDX x2) no ?_
   refine rn0 ?_
   exact zI hR Z Z
end Go.Proofs.YtnkealfaldjipaaGreatDoor
namespace Go.Ax.Bg
theorem zFl {a b k : Nat} (h : a < b) (hb : (zT b).length ≤ k) : (zT a).length ≤ k := by
 have h1 := zA2 (zAY b)
 rw [zAH] at h1
 have := zAs (Nat.lt_trans h h1)
 omega
theorem zFQ {a b k : Nat} (h : a ≤ b) (hb : (zT b).length ≤ k) : (zT a).length ≤ k := by
 rcases Nat.lt_or_ge a b with q | q
 ·exact zFl q hb
 ·have : a = b := by omega
  subst this; exact hb
theorem zKn : zT 1 = [1] := by
 rw [zG0 (by decide)]
 have : 1 / B = 0 := by decide
 rw [this, zB9]; rfl
theorem zQj {n : Nat} : n = 1 ↔ (zT n).length = 1 ∧ (zT n).getD 0 0 = 1 := by
 constructor
 ·rintro rfl; rw [zKn]; exact ⟨rfl, rfl⟩
 ·rintro ⟨h1, h2⟩
  have h3 := zAE (zT n) 0
  rw [List.take_of_length_le (by omega), zAH, h2] at h3
  simpa [zc] using h3
/-- A row of which k elements on each side have changed places. -/
def zGg (l : List (List UInt8)) (k : Nat) : List (List UInt8) := (List.range l.length).map fun i => if i < k ∨ l.length - k ≤ i then l.getD (l.length - 1 - i) [] else l.getD i []
theorem zDr (l : List (List UInt8)) (k : Nat) : (zGg l k).length = l.length := by unfold zGg; simp
theorem zHW (l : List (List UInt8)) (k i : Nat) (hi : i < l.length) : (zGg l k).getD i [] = if i < k ∨ l.length - k ≤ i then l.getD (l.length - 1 - i) [] else l.getD i [] := by
 unfold zGg
 simp only [List.getD, List.getElem?_map, List.getElem?_range hi, Option.map_some, Option.getD_some]
theorem zKM {l m : List (List UInt8)} (h : l.length = m.length) (he : ∀ i, i < l.length → l.getD i [] = m.getD i []) : l = m := by
 apply List.ext_getElem h
 intro i h1 h2
 have := he i h1
 rw [zDm [] h1, zDm [] h2] at this
 exact this
theorem zQX (l : List (List UInt8)) : zGg l 0 = l := by
 refine zKM (zDr l 0) (fun i hi => ?_)
 rw [zDr] at hi
 rw [zHW l 0 i hi, if_neg (by omega)]
theorem zQN (l : List (List UInt8)) {k : Nat} (h : l.length ≤ 2 * k + 1) : zGg l k = l.reverse := by
 refine zKM (by rw [zDr, List.length_reverse]) (fun i hi => ?_)
 rw [zDr] at hi
 have hr : l.reverse.getD i [] = l.getD (l.length - 1 - i) [] := by
  simp only [List.getD]
  rw [List.getElem?_reverse hi]
 rw [zHW l k i hi, hr]
 split
 ·rfl
 ·congr 1; omega
theorem zQV (l : List (List UInt8)) {k : Nat} (h : k + 1 + k < l.length) : ((zGg l k).set k ((zGg l k).getD (l.length - 1 - k) [])).set (l.length - 1 - k) ((zGg l k).getD k []) = zGg l (k + 1) := by
 refine zKM (by simp [zDr]) (fun i hi => ?_)
 simp only [List.length_set, zDr] at hi
 rw [zHW l (k + 1) i hi, zHW l k (l.length - 1 - k) (by omega), if_neg (by omega), zHW l k k (by omega), if_neg (by omega)]
 simp only [List.getD]
 by_cases h1 : i = l.length - 1 - k
 ·subst h1
  rw [List.getElem?_set_self (by simp [zDr]; omega), if_pos (by omega)]
  simp only [Option.getD_some]
  congr 2; omega
 ·rw [List.getElem?_set_ne (Ne.symm h1)]
  by_cases h2 : i = k
  ·subst h2
   rw [List.getElem?_set_self (by rw [zDr]; omega), if_pos (by omega)]
   simp only [Option.getD_some]
  ·rw [List.getElem?_set_ne (Ne.symm h2)]
   have := zHW l k i hi
   simp only [List.getD] at this
   rw [this]
   by_cases h3 : i < k ∨ l.length - k ≤ i
   ·rw [if_pos h3, if_pos (by omega)]
   ·rw [if_neg h3, if_neg (by omega)]
end Go.Ax.Bg
namespace Go.Proofs.YtnkealfaldjipaaGreatDoor
open Go.Ax Go.Ax.Bg Go.RowKit
attribute [local irreducible] Ax zBZ QOp zS
set_option maxRecDepth 100000
set_option maxHeartbeats 4000000
theorem zJL (n m : Nat) (hm : 0 < m) (hn : (zT n).length ≤ 1000000) (hml : (zT m).length ≤ 1000000) : zU Tryz.prog 158 [zf n, zf m] (.tup [zf (n / m), zf (n % m)]) := by
 rcases Nat.lt_or_ge n m with h | h
 ·rw [Nat.div_eq_of_lt h, Nat.mod_eq_of_lt h]
  exact zU.res (div_less n m h hn hml) (AEq.tup2 AEq.natNil)
 ·have h1 : (zT m).length ≠ 0 := by
   have := zCV.2 (show m ≠ 0 by omega)
   omega
  rcases Nat.lt_or_ge (zT m).length 2 with q | q
  ·exact div_one n m h hn (by omega)
  ·exact div_many n m h hn q
theorem zOI (n m : Nat) (hn : (zT n).length ≤ 1000000) (hm : (zT m).length ≤ 1000000) : zU Tryz.prog 96 [zf n, zf m] (zf (Nat.gcd n m)) := by
 refine zS.value0 (zE (P := Tryz.prog) (fn := Tryz.f96) Z Z (by kernel_rfl) Z (fun c hR hfix => ?_)) (fix := fun _ => False) (fun _ h => h) Z Z
 refine rn1 ?_
 refine zh (ι := Nat × Nat) (fun p => [(0, zf p.1), (1, zf p.2)]) (fun _ => []) (fun p => (zT p.1).length ≤ 1000000 ∧ (zT p.2).length ≤ 1000000 ∧ Nat.gcd p.1 p.2 = Nat.gcd n m) (fun p => p.2) (n, m) ⟨⟨Z, Z, trivial⟩, Z, hn, hm, Z⟩ ?_
 rintro ⟨a, b⟩ ⟨h1, h2, h3⟩
 simp only at *
 have hd := fun h => zJL a b h h1 h2
 have hpos : 0 < (zT b).length ↔ b ≠ 0 := zCV
 have en : zf b = .ro (.ints .u32 (zT b)) 0 (zT b).length := rfl
 rw [en] at hd ⊢
 refine rn6 ?_
 refine zD Z (fun h4 => ?_) (fun h4 => ?_)
 ·have hb : b ≠ 0 := hpos.1 (by omega)
  refine rn1 ?_
  refine zB Z Z Z (hd (by omega)) ?_
  refine rn5 ?_
  refine zM ⟨(b, a % b), ⟨h2, zFl (Nat.mod_lt a (by omega)) h2, ?_⟩, Nat.mod_lt a (by omega), ⟨Z, Z, trivial⟩, Z⟩
  show Nat.gcd b (a % b) = Nat.gcd n m
  rw [← h3, Nat.gcd_comm a b, Nat.gcd_rec b a, Nat.gcd_comm]
 ·have hb : b = 0 := by
   rcases Nat.eq_zero_or_pos b with q | q
   ·exact q
   ·have := hpos.2 (by omega); omega
  rw [hb, Nat.gcd_zero_right] at h3
  refine rn5 ?_
  refine zI hR Z ?_
  rw [← h3]; rfl
theorem one_ok (n : Nat) : zU Tryz.prog 97 [zf n] (.bool (decide (n = 1))) := by
 refine zS.value0 (zE (P := Tryz.prog) (fn := Tryz.f97) Z Z (by kernel_rfl) Z (fun c hR hfix => ?_)) (fix := fun _ => False) (fun _ h => h) Z Z
 have h1 : n = 1 ↔ (zT n).length = 1 ∧ (zT n).getD 0 0 = 1 := zQj
 unfold zf
 refine rn4 ?_
 refine zAt Z Z (fun h2 => ?_) (fun h2 => ?_)
 ·refine rn6 ?_
  refine zI hR Z ?_
  show AV.bool (decide ((zT n).getD _ 0 = 1)) = _
  congr 1
  rw [decide_eq_decide, h1]
  exact ⟨fun h => ⟨by omega, h⟩, fun h => h.2⟩
 ·refine rn6 ?_
  refine zI hR Z ?_
  show AV.bool false = _
  rw [decide_eq_false]
  intro h
  exact h2 (by have := (h1.1 h).1; omega)
theorem zOq (l : List (List UInt8)) (hl : l.length ≤ 1000000000) :
 zS Tryz.prog 218 [.sl 0 0 l.length] [some ⟨9, .strs l⟩] (fun h => h < 1) (fun _ H => H = [some ⟨9, .strs l.reverse⟩]) := by
 refine zE (P := Tryz.prog) (fn := Tryz.f218) Z Z (by kernel_rfl) Z (fun c hR hfix => ?_)
 refine rn7 ?_
 refine zh (ι := Nat) (fun k => [(0, .sl 0 0 l.length), (2, .int .i64 (k : Nat)), (3, .int .i64 ((l.length : Int) - 1 - k))]) (fun k => [some ⟨9, .strs (zGg l k)⟩]) (fun k => 2 * k ≤ l.length + 1) (fun k => l.length + 1 - k) 0 ⟨⟨Z, Z, ?_, trivial⟩, by rw [zQX], by omega⟩ ?_
 ·show some (AV.int .i64 _) = _
  congr 2; omega
 rintro k hk
 have hrl := zDr l k
 refine rn4 ?_
 refine zD Z (fun h1 => ?_) (fun h1 => ?_)
 ·have hk2 : k + 1 + k < l.length := by omega
  have e1 : ((l.length : Int) - 1 - (k : Nat)).toNat = l.length - 1 - k := by omega
  refine rn1 ?_
  refine zo (by kernel_rfl) ?_
  refine zw 0 Z (by kernel_rfl) (by kernel_rfl) (by kernel_rfl) Z (zL Z) Z ?_
  refine zw 1 Z (by kernel_rfl) (by kernel_rfl) (by kernel_rfl) Z (zL Z) Z ?_
  refine zw 2 Z (by kernel_rfl) (by kernel_rfl) (by kernel_rfl) Z (zL Z) Z ?_
  refine zw 3 Z (by kernel_rfl) (by kernel_rfl) (by kernel_rfl) Z (zL Z) Z ?_
  refine zw 4 Z (by kernel_rfl) (by kernel_rfl) (by kernel_rfl) Z (zL Z) Z ?_
  refine zw 5 Z (by kernel_rfl) (by kernel_rfl) (by kernel_rfl) Z (zL Z) Z ?_
  refine zw 6 Z (by kernel_rfl) (by kernel_rfl) (by kernel_rfl) Z (zBp Z Z Z Z Z (by first | (simp only [Nat.zero_add, Int.toNat_natCast, Int.toNat_zero]; exact Z) | exact Z) (by omega)) Z ?_
  refine zw 8 Z (by kernel_rfl) (by kernel_rfl) (by kernel_rfl) Z (zL Z) Z ?_
  refine zw 9 Z (by kernel_rfl) (by kernel_rfl) (by kernel_rfl) Z (zL Z) Z ?_
  refine zw 10 Z (by kernel_rfl) (by kernel_rfl) (by kernel_rfl) Z (zBp Z Z Z Z Z (by first | (simp only [Nat.zero_add, Int.toNat_natCast, Int.toNat_zero]; exact Z) | exact Z) (by omega)) Z ?_
  refine zDZ 20 (.ptr 0 (l.length - 1 - k) 0) Z (AEq.of_eq (by rw [e1])) ?_
  have b1 : l.length - 1 - k < (zGg l k).length := by omega
  have b2 : k < (zGg l k).length := by omega
  apply zAQ [(0, .sl 0 0 l.length), (2, .int .i64 (k : Nat)), (3, .int .i64 ((l.length : Int) - 1 - k)), (14, .sl 0 0 l.length), (15, .int .i64 (k : Nat)), (16, .sl 0 0 l.length), (17, .int .i64 ((l.length : Int) - 1 - k)), (21, .str ((zGg l k).getD (l.length - 1 - k) [])), (25, .str ((zGg l k).getD k []))]
  ·intro fin
   refine zH (is := [7, 11]) (by kernel_rfl) (by simp) Z ⟨fun o ho => ?_, fun o ho => ?_, trivial⟩
   all_goals (cases ho)
   ·refine zEL ?_
    refine zH (is := [11]) (by kernel_rfl) (by simp) Z ⟨fun o ho => ?_, trivial⟩
    all_goals (cases ho)
    refine zEL ?_
    exact fin _ ⟨Z, Z, Z, Z, Z, Z, Z, Z, Z, trivial⟩
   ·refine zEL ?_
    refine zH (is := [7]) (by kernel_rfl) (by simp) Z ⟨fun o ho => ?_, trivial⟩
    all_goals (cases ho)
    refine zEL ?_
    exact fin _ ⟨Z, Z, Z, Z, Z, Z, Z, Z, Z, trivial⟩
  refine zw 12 Z (by kernel_rfl) (by kernel_rfl) (by kernel_rfl) Z (zBp Z Z Z Z Z (by first | (simp only [Nat.zero_add, Int.toNat_natCast, Int.toNat_zero]; exact Z) | exact Z) (by omega)) Z ?_
  refine zH (is := [13]) (by kernel_rfl) (by simp) Z ⟨fun o ho => ?_, trivial⟩
  all_goals (cases ho)
  refine rn8 ?_
  refine zw 14 Z (by kernel_rfl) (by kernel_rfl) (by kernel_rfl) Z (zBp Z Z Z Z Z (by first | (simp only [Nat.zero_add, Int.toNat_natCast, Int.toNat_zero]; exact Z) | exact Z) (by omega)) Z ?_
  refine zDZ 27 (.ptr 0 (l.length - 1 - k) 0) Z (AEq.of_eq (by rw [e1])) ?_
  have b3 : l.length - 1 - k < ((zGg l k).set k ((zGg l k).getD (l.length - 1 - k) [])).length := by simp; omega
  refine zH (is := [15]) (by kernel_rfl) (by simp) Z ⟨fun o ho => ?_, trivial⟩
  all_goals (cases ho)
  refine rn8 ?_
  refine zX (by kernel_rfl) ?_
  refine rn8 ?_
  refine zM ⟨k + 1, by omega, by omega, ⟨Z, Z, ?_, trivial⟩, ?_⟩
  ·show some (AV.int .i64 _) = _
   congr 2; omega
  ·show ([some ⟨_, .strs (((zGg l k).set k _).set (l.length - 1 - k) _)⟩] : zO) = _
   rw [zQV l hk2]
 ·refine rn5 ?_
  refine ax_end hR Z ?_
  rw [zQN l (by omega)]
end Go.Proofs.YtnkealfaldjipaaGreatDoor
namespace Go.Proofs
open Go.Shelf
def Tryz.lays156_ren : Go.Shelf.Ren := ⟨fun | 156 => 219 | 165 => 238 | 166 => 239 | 169 => 241 | 240 => 251 | 241 => 252 | 276 => 259 | 277 => 260 | n => n, fun | 31 => 288 | 9 => 9 | 3 => 3 | 4 => 4 | 0 => 0 | 20 => 20 | 72 => 307 | 76 => 309 | 70 => 305 | 37 => 301 | 75 => 231 | 127 => 319 | 164 => 333 | 5 => 5 | 80 => 215 | n => n, fun | n => n⟩
theorem Tryz.lays156 : Go.Proofs.Lays.n156 Tryz.prog Tryz.lays156_ren := {
 mixed := by kernel_rfl
 f156 := Tryz.func219.trans (congrArg some (by kernel_rfl))
 f165 := Tryz.func238.trans (congrArg some (by kernel_rfl))
 f166 := Tryz.func239.trans (congrArg some (by kernel_rfl))
 f169 := Tryz.func241.trans (congrArg some (by kernel_rfl))
 f240 := Tryz.func251.trans (congrArg some (by kernel_rfl))
 f241 := Tryz.func252.trans (congrArg some (by kernel_rfl))
 f276 := Tryz.func259.trans (congrArg some (by kernel_rfl))
 f277 := Tryz.func260.trans (congrArg some (by kernel_rfl))
 t0 := Tryz.underlying0
 a0 := Tryz.isAgg0
 z0 := Tryz.sizeOf0
 v0 := Tryz.zeroValue0
 t3 := Tryz.underlying3
 a3 := Tryz.isAgg3
 z3 := Tryz.sizeOf3
 v3 := Tryz.zeroValue3
 t4 := Tryz.underlying4
 a4 := Tryz.isAgg4
 z4 := Tryz.sizeOf4
 v4 := Tryz.zeroValue4
 t9 := Tryz.underlying9
 a9 := Tryz.isAgg9
 z9 := Tryz.sizeOf9
 v9 := Tryz.zeroValue9
 t20 := Tryz.underlying20
 a20 := Tryz.isAgg20
 z20 := Tryz.sizeOf20
 v20 := Tryz.zeroValue20
 t31 := Tryz.underlying288
 a31 := Tryz.isAgg288
 z31 := Tryz.sizeOf288
 v31 := Tryz.zeroValue288
 t37 := Tryz.underlying301
 a37 := Tryz.isAgg301
 z37 := Tryz.sizeOf301
 v37 := Tryz.zeroValue301
 t70 := Tryz.underlying305
 a70 := Tryz.isAgg305
 z70 := Tryz.sizeOf305
 v70 := Tryz.zeroValue305
 t72 := Tryz.underlying307
 a72 := Tryz.isAgg307
 z72 := Tryz.sizeOf307
 v72 := Tryz.zeroValue307
 t75 := Tryz.underlying231
 a75 := Tryz.isAgg231
 z75 := Tryz.sizeOf231
 v75 := Tryz.zeroValue231
 t76 := Tryz.underlying309
 a76 := Tryz.isAgg309
 z76 := Tryz.sizeOf309
 v76 := Tryz.zeroValue309
 t127 := Tryz.underlying319
 a127 := Tryz.isAgg319
 z127 := Tryz.sizeOf319
 v127 := Tryz.zeroValue319
 t164 := Tryz.underlying333
 a164 := Tryz.isAgg333
 z164 := Tryz.sizeOf333
 v164 := Tryz.zeroValue333 }
theorem Tryz.Builder_Extra_156 : Builder.Extra Tryz.prog Tryz.lays156_ren := {
 sizeBuilder := by kernel_rfl
 liesBuilder := by kernel_rfl
 t5 := Tryz.underlying5
 a5 := Tryz.isAgg5
 z5 := Tryz.sizeOf5
 v5 := Tryz.zeroValue5
 infoByte := by kernel_rfl
 cellsByte := by kernel_rfl
 sizeByte := by kernel_rfl
 neB5 := by decide }
open Go.RowKit in
/-- No element: the empty string; the world is as it was. (Whatever the slice's address and capacity: a nil slice too.) (LAID: no walk: one application.) -/
theorem Tryz.strings_Join_none (a : Option Addr) (c : Nat) (sep : ByteArray) (w : World) :
 Calls Tryz.prog 219 #[.slice a 0 c, .string sep] w fun e w' => e = .returned (.string ⟨#[]⟩) ∧ w' = w := Any.strings_Join_none Tryz.lays156 Tryz.Builder_Extra_156 a c sep w
open Go.RowKit in
/-- strings.Join: "Join concatenates the elements of its first argument to create a single string. The separator string sep is placed between elements in the resulting string.": HOWEVER MANY ELEMENTS. Below the heap's end the world is as it was. (LAID: no walk: one application.) -/
theorem Tryz.strings_Join (bk o c : Nat) (xs : List ByteArray) (sep : ByteArray) (w : World) (hcells : ∀ (j : Nat) x, xs[j]? = some x → w.cell? ⟨bk, o + j, none⟩ = some (.string x)) (hbk : bk < w.heap.size) (hN : xs.length ≤ 140737488355328) (hcap : xs.length ≤ c) (hlen : (Lib.join (xs.map (·.data.toList)) sep.data.toList).length ≤ 140737488355328) :
 Calls Tryz.prog 219 #[.slice (some ⟨bk, o, none⟩) xs.length c, .string sep] w fun e w' => e = .returned (.string ⟨(Lib.join (xs.map (·.data.toList)) sep.data.toList).toArray⟩) ∧ Below w.heap.size w w' := Any.strings_Join Tryz.lays156 Tryz.Builder_Extra_156 bk o c xs sep w hcells hbk hN hcap hlen
def Tryz.laysM171_ren : Go.Shelf.Ren := ⟨fun | 171 => 216 | 243 => 237 | 246 => 250 | 283 => 255 | 284 => 256 | 285 => 257 | 286 => 258 | 129 => 262 | 317 => 261 | 318 => 263 | 319 => 264 | 320 => 265 | 337 => 266 | 338 => 267 | n => n, fun | 3 => 3 | 9 => 9 | 2 => 2 | 4 => 4 | 171 => 328 | 0 => 0 | 53 => 229 | 37 => 301 | 5 => 5 | 173 => 331 | 212 => 337 | 51 => 224 | 20 => 20 | 213 => 338 | 46 => 195 | 232 => 341 | 233 => 342 | n => n, fun | 17 => 5 | 18 => 6 | 19 => 7 | n => n⟩
theorem Tryz.laysM171 : Go.Proofs.LaysM.n171 Tryz.prog Tryz.laysM171_ren := {
 mixed := by kernel_rfl
 f129 := Tryz.func262.trans (congrArg some (by kernel_rfl))
 f171 := Tryz.func216.trans (congrArg some (by kernel_rfl))
 f243 := Tryz.func237.trans (congrArg some (by kernel_rfl))
 f246 := Tryz.func250.trans (congrArg some (by kernel_rfl))
 f283 := Tryz.func255.trans (congrArg some (by kernel_rfl))
 f284 := Tryz.func256.trans (congrArg some (by kernel_rfl))
 f285 := Tryz.func257.trans (congrArg some (by kernel_rfl))
 f286 := Tryz.func258.trans (congrArg some (by kernel_rfl))
 f317 := Tryz.func261.trans (congrArg some (by kernel_rfl))
 f318 := Tryz.func263.trans (congrArg some (by kernel_rfl))
 f319 := Tryz.func264.trans (congrArg some (by kernel_rfl))
 f320 := Tryz.func265.trans (congrArg some (by kernel_rfl))
 f337 := Tryz.func266.trans (congrArg some (by kernel_rfl))
 f338 := Tryz.func267.trans (congrArg some (by kernel_rfl))
 t0 := Tryz.underlying0
 a0 := Tryz.isAgg0
 z0 := Tryz.sizeOf0
 v0 := Tryz.zeroValue0
 t2 := Tryz.underlying2
 a2 := Tryz.isAgg2
 z2 := Tryz.sizeOf2
 v2 := Tryz.zeroValue2
 t3 := Tryz.underlying3
 a3 := Tryz.isAgg3
 z3 := Tryz.sizeOf3
 v3 := Tryz.zeroValue3
 t4 := Tryz.underlying4
 a4 := Tryz.isAgg4
 z4 := Tryz.sizeOf4
 v4 := Tryz.zeroValue4
 t5 := Tryz.underlying5
 a5 := Tryz.isAgg5
 z5 := Tryz.sizeOf5
 v5 := Tryz.zeroValue5
 t9 := Tryz.underlying9
 a9 := Tryz.isAgg9
 z9 := Tryz.sizeOf9
 v9 := Tryz.zeroValue9
 t20 := Tryz.underlying20
 a20 := Tryz.isAgg20
 z20 := Tryz.sizeOf20
 v20 := Tryz.zeroValue20
 t37 := Tryz.underlying301
 a37 := Tryz.isAgg301
 z37 := Tryz.sizeOf301
 v37 := Tryz.zeroValue301
 t46 := Tryz.underlying195
 a46 := Tryz.isAgg195
 z46 := Tryz.sizeOf195
 v46 := Tryz.zeroValue195
 t51 := Tryz.underlying224
 a51 := Tryz.isAgg224
 z51 := Tryz.sizeOf224
 v51 := Tryz.zeroValue224
 t53 := Tryz.underlying229
 a53 := Tryz.isAgg229
 z53 := Tryz.sizeOf229
 v53 := Tryz.zeroValue229
 t171 := Tryz.underlying328
 a171 := Tryz.isAgg328
 z171 := Tryz.sizeOf328
 v171 := Tryz.zeroValue328
 t173 := Tryz.underlying331
 a173 := Tryz.isAgg331
 z173 := Tryz.sizeOf331
 v173 := Tryz.zeroValue331
 t212 := Tryz.underlying337
 a212 := Tryz.isAgg337
 z212 := Tryz.sizeOf337
 v212 := Tryz.zeroValue337
 t213 := Tryz.underlying338
 a213 := Tryz.isAgg338
 z213 := Tryz.sizeOf338
 t232 := Tryz.underlying341
 a232 := Tryz.isAgg341
 z232 := Tryz.sizeOf341
 v232 := Tryz.zeroValue341
 t233 := Tryz.underlying342
 a233 := Tryz.isAgg342
 z233 := Tryz.sizeOf342
 v233 := Tryz.zeroValue342
 g17 := by kernel_rfl
 g18 := by kernel_rfl
 g19 := by kernel_rfl
 i0 := by kernel_rfl
 i2 := by kernel_rfl
 i3 := by kernel_rfl
 i4 := by kernel_rfl
 i5 := by kernel_rfl
 i9 := by kernel_rfl
 i20 := by kernel_rfl
 i37 := by kernel_rfl
 i46 := by kernel_rfl
 i51 := by kernel_rfl
 i53 := by kernel_rfl
 i171 := by kernel_rfl
 i173 := by kernel_rfl
 i212 := by kernel_rfl
 i232 := by kernel_rfl
 i233 := by kernel_rfl
 m17 := by kernel_rfl
 m18 := by kernel_rfl
 m19 := by kernel_rfl }
open Go.RowKit Go.Sort Go.Lib in
/-- strconv.Itoa: "Itoa is equivalent to FormatInt(int64(i), 10).": i's DECIMAL NUMERAL ('Lib.itoa': a '-' where i is negative, then the digits), FOR EVERY int. The world behind the call: the world before it, new blocks behind the heap (the library's 'var a [24]byte'), draws. (LAID: no walk: one application.) -/
theorem Tryz.strconv_Itoa (n : Int) (h0 : -9223372036854775808 ≤ n) (h1 : n ≤ 9223372036854775807) (w : World) (htab : Lib.TabIs Tryz.prog w "internal/strconv.uint64pow10" .u64 Lib.pow10Tab) :
 Calls Tryz.prog 216 #[.int .i64 n] w fun e w' => e = .returned (.string ⟨(Lib.itoa n).toArray⟩) ∧ ∃ k os, w' = grow (w.drewN k) os := Any.strconv_Itoa Tryz.laysM171 n h0 h1 w htab
def Tryz.laysPu14_ren : Go.Shelf.Ren := ⟨fun | 14 => 156 | 16 => 202 | 17 => 203 | 19 => 229 | 20 => 230 | 21 => 231 | 22 => 232 | 23 => 233 | 24 => 234 | 25 => 248 | 27 => 216 | 26 => 249 | 28 => 237 | 29 => 250 | 30 => 255 | 31 => 256 | 32 => 257 | 33 => 258 | 35 => 262 | 34 => 261 | 36 => 263 | 37 => 264 | 38 => 265 | 39 => 266 | 40 => 267 | n => n, fun | 9 => 9 | 3 => 3 | 22 => 229 | 24 => 231 | 25 => 232 | 4 => 4 | 34 => 299 | 5 => 5 | 36 => 195 | 37 => 301 | 0 => 0 | 39 => 302 | 21 => 21 | 44 => 316 | 47 => 319 | 50 => 327 | 48 => 325 | 2 => 2 | 52 => 328 | 55 => 331 | 59 => 337 | 60 => 224 | 20 => 20 | 61 => 338 | 65 => 341 | 66 => 342 | 67 => 215 | n => n, fun | 0 => 1 | 1 => 2 | 2 => 5 | 3 => 6 | 4 => 7 | n => n⟩
theorem Tryz.laysPu14 : Go.Proofs.LaysPu.n14 Tryz.prog Tryz.laysPu14_ren := {
 mixed := by kernel_rfl
 f14 := Tryz.func156.trans (congrArg some (by kernel_rfl))
 f16 := Tryz.func202.trans (congrArg some (by kernel_rfl))
 f17 := Tryz.func203.trans (congrArg some (by kernel_rfl))
 f19 := Tryz.func229.trans (congrArg some (by kernel_rfl))
 f20 := Tryz.func230.trans (congrArg some (by kernel_rfl))
 f21 := Tryz.func231.trans (congrArg some (by kernel_rfl))
 f22 := Tryz.func232.trans (congrArg some (by kernel_rfl))
 f23 := Tryz.func233.trans (congrArg some (by kernel_rfl))
 f24 := Tryz.func234.trans (congrArg some (by kernel_rfl))
 f25 := Tryz.func248.trans (congrArg some (by kernel_rfl))
 f26 := Tryz.func249.trans (congrArg some (by kernel_rfl))
 f27 := Tryz.func216.trans (congrArg some (by kernel_rfl))
 f28 := Tryz.func237.trans (congrArg some (by kernel_rfl))
 f29 := Tryz.func250.trans (congrArg some (by kernel_rfl))
 f30 := Tryz.func255.trans (congrArg some (by kernel_rfl))
 f31 := Tryz.func256.trans (congrArg some (by kernel_rfl))
 f32 := Tryz.func257.trans (congrArg some (by kernel_rfl))
 f33 := Tryz.func258.trans (congrArg some (by kernel_rfl))
 f34 := Tryz.func261.trans (congrArg some (by kernel_rfl))
 f35 := Tryz.func262.trans (congrArg some (by kernel_rfl))
 f36 := Tryz.func263.trans (congrArg some (by kernel_rfl))
 f37 := Tryz.func264.trans (congrArg some (by kernel_rfl))
 f38 := Tryz.func265.trans (congrArg some (by kernel_rfl))
 f39 := Tryz.func266.trans (congrArg some (by kernel_rfl))
 f40 := Tryz.func267.trans (congrArg some (by kernel_rfl))
 t0 := Tryz.underlying0
 a0 := Tryz.isAgg0
 z0 := Tryz.sizeOf0
 v0 := Tryz.zeroValue0
 i0 := by kernel_rfl
 t2 := Tryz.underlying2
 a2 := Tryz.isAgg2
 z2 := Tryz.sizeOf2
 v2 := Tryz.zeroValue2
 i2 := by kernel_rfl
 t3 := Tryz.underlying3
 a3 := Tryz.isAgg3
 z3 := Tryz.sizeOf3
 v3 := Tryz.zeroValue3
 i3 := by kernel_rfl
 t4 := Tryz.underlying4
 a4 := Tryz.isAgg4
 z4 := Tryz.sizeOf4
 v4 := Tryz.zeroValue4
 i4 := by kernel_rfl
 t5 := Tryz.underlying5
 a5 := Tryz.isAgg5
 z5 := Tryz.sizeOf5
 v5 := Tryz.zeroValue5
 i5 := by kernel_rfl
 t9 := Tryz.underlying9
 a9 := Tryz.isAgg9
 z9 := Tryz.sizeOf9
 v9 := Tryz.zeroValue9
 i9 := by kernel_rfl
 t20 := Tryz.underlying20
 a20 := Tryz.isAgg20
 z20 := Tryz.sizeOf20
 v20 := Tryz.zeroValue20
 i20 := by kernel_rfl
 t21 := Tryz.underlying21
 a21 := Tryz.isAgg21
 z21 := Tryz.sizeOf21
 v21 := Tryz.zeroValue21
 i21 := by kernel_rfl
 t22 := Tryz.underlying229
 a22 := Tryz.isAgg229
 z22 := Tryz.sizeOf229
 v22 := Tryz.zeroValue229
 i22 := by kernel_rfl
 t24 := Tryz.underlying231
 a24 := Tryz.isAgg231
 z24 := Tryz.sizeOf231
 v24 := Tryz.zeroValue231
 i24 := by kernel_rfl
 t25 := Tryz.underlying232
 a25 := Tryz.isAgg232
 z25 := Tryz.sizeOf232
 v25 := Tryz.zeroValue232
 i25 := by kernel_rfl
 t34 := Tryz.underlying299
 a34 := Tryz.isAgg299
 z34 := Tryz.sizeOf299
 v34 := Tryz.zeroValue299
 i34 := by kernel_rfl
 c34 := by kernel_rfl
 t36 := Tryz.underlying195
 a36 := Tryz.isAgg195
 z36 := Tryz.sizeOf195
 v36 := Tryz.zeroValue195
 i36 := by kernel_rfl
 t37 := Tryz.underlying301
 a37 := Tryz.isAgg301
 z37 := Tryz.sizeOf301
 v37 := Tryz.zeroValue301
 i37 := by kernel_rfl
 t39 := Tryz.underlying302
 a39 := Tryz.isAgg302
 z39 := Tryz.sizeOf302
 v39 := Tryz.zeroValue302
 i39 := by kernel_rfl
 t44 := Tryz.underlying316
 a44 := Tryz.isAgg316
 z44 := Tryz.sizeOf316
 v44 := Tryz.zeroValue316
 i44 := by kernel_rfl
 t47 := Tryz.underlying319
 a47 := Tryz.isAgg319
 z47 := Tryz.sizeOf319
 v47 := Tryz.zeroValue319
 i47 := by kernel_rfl
 t48 := Tryz.underlying325
 a48 := Tryz.isAgg325
 z48 := Tryz.sizeOf325
 v48 := Tryz.zeroValue325
 i48 := by kernel_rfl
 t50 := Tryz.underlying327
 a50 := Tryz.isAgg327
 z50 := Tryz.sizeOf327
 v50 := Tryz.zeroValue327
 i50 := by kernel_rfl
 t52 := Tryz.underlying328
 a52 := Tryz.isAgg328
 z52 := Tryz.sizeOf328
 v52 := Tryz.zeroValue328
 i52 := by kernel_rfl
 t55 := Tryz.underlying331
 a55 := Tryz.isAgg331
 z55 := Tryz.sizeOf331
 v55 := Tryz.zeroValue331
 i55 := by kernel_rfl
 t59 := Tryz.underlying337
 a59 := Tryz.isAgg337
 z59 := Tryz.sizeOf337
 v59 := Tryz.zeroValue337
 i59 := by kernel_rfl
 t60 := Tryz.underlying224
 a60 := Tryz.isAgg224
 z60 := Tryz.sizeOf224
 v60 := Tryz.zeroValue224
 i60 := by kernel_rfl
 t61 := Tryz.underlying338
 a61 := Tryz.isAgg338
 z61 := Tryz.sizeOf338
 t65 := Tryz.underlying341
 a65 := Tryz.isAgg341
 z65 := Tryz.sizeOf341
 v65 := Tryz.zeroValue341
 i65 := by kernel_rfl
 t66 := Tryz.underlying342
 a66 := Tryz.isAgg342
 z66 := Tryz.sizeOf342
 v66 := Tryz.zeroValue342
 i66 := by kernel_rfl
 t67 := Tryz.underlying215
 a67 := Tryz.isAgg215
 z67 := Tryz.sizeOf215
 v67 := Tryz.zeroValue215
 i67 := by kernel_rfl
 g0 := by kernel_rfl
 m0 := by kernel_rfl
 g1 := by kernel_rfl
 m1 := by kernel_rfl
 g2 := by kernel_rfl
 m2 := by kernel_rfl
 g3 := by kernel_rfl
 m3 := by kernel_rfl
 g4 := by kernel_rfl
 m4 := by kernel_rfl }
open Go.RowKit in
/-- strconv.ParseUint(s, 10, 32), AT EVERY STRING THAT SPELLS A uint32 ('Lib.parseUintB 32 s.data.toList = .ok u'): u, AND NO ERROR. (LAID: no walk: one application.) -/
theorem Tryz.strconv_ParseUint_10_at32_ok (s : ByteArray) (hmax : s.size ≤ 9223372036854775806) (u : Nat) (h : Lib.parseUintB 32 s.data.toList = .ok u) (w : World) :
 Calls Tryz.prog 156 #[.string s, .int .i64 10, .int .i64 32] w fun e w' => e = .returned (.tuple #[.int .u64 u, .nilIface]) ∧ (w' = w ∨ w' = Lib.bytesWorld w 5 s) := Any.strconv_ParseUint_10_at32_ok Tryz.laysPu14 s hmax u h w
def Tryz.lays212_ren : Go.Shelf.Ren := ⟨fun | 212 => 139 | 263 => 185 | 264 => 186 | n => n, fun | 46 => 195 | 51 => 224 | 146 => 264 | 53 => 229 | 148 => 266 | n => n, fun | n => n⟩
theorem Tryz.lays212 : Go.Proofs.Lays.n212 Tryz.prog Tryz.lays212_ren := {
 mixed := by kernel_rfl
 f212 := Tryz.func139.trans (congrArg some (by kernel_rfl))
 f263 := Tryz.func185.trans (congrArg some (by kernel_rfl))
 f264 := Tryz.func186.trans (congrArg some (by kernel_rfl))
 t46 := Tryz.underlying195
 a46 := Tryz.isAgg195
 z46 := Tryz.sizeOf195
 v46 := Tryz.zeroValue195
 t51 := Tryz.underlying224
 a51 := Tryz.isAgg224
 z51 := Tryz.sizeOf224
 v51 := Tryz.zeroValue224
 t53 := Tryz.underlying229
 a53 := Tryz.isAgg229
 z53 := Tryz.sizeOf229
 v53 := Tryz.zeroValue229
 t146 := Tryz.underlying264
 a146 := Tryz.isAgg264
 z146 := Tryz.sizeOf264
 v146 := Tryz.zeroValue264
 t148 := Tryz.underlying266
 a148 := Tryz.isAgg266
 z148 := Tryz.sizeOf266
 v148 := Tryz.zeroValue266 }
open Go.RowKit Go.Lib in
/-- math/bits.Mul: "Mul returns the full-width product of x and y": on a machine of 64 bits: Mul64's. (LAID: no walk: one application.) -/
theorem Tryz.bits_Mul (x y : Nat) (hx : x < 18446744073709551616) (hy : y < 18446744073709551616) (w : World) :
 Calls Tryz.prog 139 #[.int .u64 x, .int .u64 y] w fun e w' => e = .returned (.tuple #[.int .u64 ((x * y / 18446744073709551616 : Nat) : Int), .int .u64 ((x * y % 18446744073709551616 : Nat) : Int)]) ∧ w' = w := Any.bits_Mul Tryz.lays212 x y hx hy w
end Go.Proofs
namespace Go.Ax.Bg
open Go.Ax.Tb (zBy)
def dg (c : UInt8) : Bool := decide (48 ≤ c.toNat ∧ c.toNat < 58)
theorem dg_iff {c : UInt8} : dg c = true ↔ zBy c := by
 unfold dg zBy
 simp only [decide_eq_true_eq]
 constructor <;> intro h <;> exact ⟨by omega, by omega⟩
def trR (s : List UInt8) : List UInt8 := (s.reverse.dropWhile dg).reverse
def trL (s : List UInt8) : List UInt8 := s.dropWhile dg
theorem zGl {l m : List UInt8} (h : l.all dg = true) : (l ++ m).dropWhile dg = m.dropWhile dg := by
 induction l with
 | nil => rfl
 | cons x r ih =>
  simp only [List.all_cons, Bool.and_eq_true] at h
  rw [List.cons_append, List.dropWhile_cons_of_pos h.1, ih h.2]
theorem trR_of {s : List UInt8} {k : Nat} (hk : k ≤ s.length) (h : (s.drop k).all dg = true) (h2 : k = 0 ∨ dg (s.getD (k - 1) 0) = false) : trR s = s.take k := by
 unfold trR
 conv => lhs; rw [← List.take_append_drop k s]
 rw [List.reverse_append, zGl (by rw [List.all_reverse]; exact h)]
 rcases h2 with h2 | h2
 ·subst h2; rfl
 ·rcases Nat.eq_zero_or_pos k with q | q
  ·subst q; rfl
  ·have e : s.take k = s.take (k - 1) ++ [s.getD (k - 1) 0] := by
    have := zCw s 0 (k - 1) (by omega)
    rwa [show k - 1 + 1 = k by omega] at this
   rw [e, List.reverse_append, List.reverse_singleton, List.singleton_append, List.dropWhile_cons_of_neg (by rw [h2]; decide)]
   simp
theorem trL_of {s : List UInt8} {k : Nat} (h : (s.take k).all dg = true) (h2 : s.length ≤ k ∨ dg (s.getD k 0) = false) : trL s = s.drop k := by
 unfold trL
 conv => lhs; rw [← List.take_append_drop k s]
 rw [zGl h]
 rcases h2 with h2 | h2
 ·rw [List.drop_of_length_le h2]; rfl
 ·rcases Nat.lt_or_ge k s.length with q | q
  ·rw [zC2 s 0 k q, List.dropWhile_cons_of_neg (by rw [h2]; decide)]
  ·rw [List.drop_of_length_le q]; rfl
theorem zOY {l : List UInt8} : l.dropWhile dg = [] ↔ l.all dg = true := by
 induction l with
 | nil => simp
 | cons x r ih =>
  cases h : dg x with
  | true => rw [List.dropWhile_cons_of_pos h, ih]; simp [h]
  | false => rw [List.dropWhile_cons_of_neg (by rw [h]; decide)]; simp [h]
theorem dw_head {l : List UInt8} {x : UInt8} {r : List UInt8} (h : l.dropWhile dg = x :: r) : dg x = false := by
 induction l with
 | nil => cases h
 | cons y q ih =>
  cases hy : dg y with
  | true => rw [List.dropWhile_cons_of_pos hy] at h; exact ih h
  | false =>
   rw [List.dropWhile_cons_of_neg (by rw [hy]; decide)] at h
   cases h; exact hy
theorem trR_nil {s : List UInt8} : trL (trR s) = [] ↔ s.all dg = true := by
 unfold trL trR
 rw [zOY, List.all_reverse]
 constructor
 ·intro h
  cases hq : s.reverse.dropWhile dg with
  | nil => rw [zOY, List.all_reverse] at hq; exact hq
  | cons x r =>
   rw [hq] at h
   have := dw_head hq
   simp [this] at h
 ·intro h
  have : s.reverse.dropWhile dg = [] := by rw [zOY, List.all_reverse]; exact h
  rw [this]; rfl
/-- Up to nine digits as a number. -/
theorem parse_go {l : List UInt8} (hd : ∀ c ∈ l, zBy c) : ∀ (a : Nat), zBG a l ≤ 4294967295 → Lib.parseUintM 4294967295 a l = .ok (zBG a l) := by
 induction l with
 | nil => intro a _; rfl
 | cons c r ih =>
  intro a h
  have hc := hd c (by simp)
  unfold zBy at hc
  rw [zDc] at h ⊢
  have h1 : a * 10 + (c.toNat - 48) ≤ 4294967295 := by
   refine Nat.le_trans ?_ h
   rw [zG3 r]
   have : (a * 10 + (c.toNat - 48)) * 1 ≤ (a * 10 + (c.toNat - 48)) * 10 ^ r.length := Nat.mul_le_mul_left _ (Nat.one_le_pow _ _ (by decide))
   omega
  have i := ih (fun x hx => hd x (by simp [hx])) _ h
  unfold Lib.parseUintM
  rw [if_pos (by omega), if_neg (by omega), if_neg (by omega)]
  exact i
theorem zDB {l : List UInt8} (h0 : l ≠ []) (hd : ∀ c ∈ l, zBy c) (h9 : l.length ≤ 9) : Lib.parseUintB 32 l = .ok (zBG 0 l) ∧ zBG 0 l < 1000000000 := by
 have hlt := zJv hd
 have hp : 10 ^ l.length ≤ 10 ^ 9 := Nat.pow_le_pow_right (by decide) h9
 have e9 : (10 : Nat) ^ 9 = 1000000000 := by decide
 rw [e9] at hp
 unfold Lib.parseUintB
 rw [if_neg h0]
 have e32 : (2 : Nat) ^ 32 - 1 = 4294967295 := by decide
 rw [e32]
 exact ⟨parse_go hd 0 (by omega), by omega⟩
theorem zLg : ∀ (ls : List (List UInt8)), Lib.join ls [] = ls.flatten
 | [] => rfl
 | x :: r => by
  rw [Lib.join_cons, List.flatten_cons]
  congr 1
  unfold Lib.joinTail
  congr 1
  simp
end Go.Ax.Bg
namespace Go.Proofs.YtnkealfaldjipaaGreatDoor
open Go.Ax Go.Ax.Bg Go.RowKit
set_option maxRecDepth 100000
set_option maxHeartbeats 4000000
theorem zMu (w : World) (q : Nat) (os : Array Obj) : Below w.heap.size w (Go.Sort.grow (w.drewN q) os) := by
 refine ⟨Z, Z, Z, ?_, fun k hk => ?_⟩
 ·show w.heap.size ≤ (w.heap ++ os).size
  simp
 ·show (w.heap ++ os)[k]? = w.heap[k]?
  rw [Array.getElem?_append_left hk]
theorem vals1 {w : World} {S : Nat → Prop} {σ : Nat → Option Blk} {a : AV} {vals : Array Value} (hv : VRs w S σ [a] vals) : ∃ x, vals = #[x] ∧ VR w S σ a x := by
 obtain ⟨h1, h2⟩ := hv
 have q := h2 0 (by simp)
 have hl : vals.toList.length = 1 := by simpa using h1
 match hq : vals.toList, hl with
 | [x], _ =>
  have e : vals = #[x] := by rw [← Array.toArray_toList (xs := vals), hq]
  subst e
  exact ⟨x, Z, by simpa using q⟩
theorem vals2 {w : World} {S : Nat → Prop} {σ : Nat → Option Blk} {a b : AV} {vals : Array Value} (hv : VRs w S σ [a, b] vals) : ∃ x y, vals = #[x, y] ∧ VR w S σ a x ∧ VR w S σ b y := by
 obtain ⟨h1, h2⟩ := hv
 have q := h2 0 (by simp)
 have q1 := h2 1 (by simp)
 have hl : vals.toList.length = 2 := by simpa using h1
 match hq : vals.toList, hl with
 | [x, y], _ =>
  have e : vals = #[x, y] := by rw [← Array.toArray_toList (xs := vals), hq]
  subst e
  exact ⟨x, y, Z, by simpa using q, by simpa using q1⟩
theorem vals3 {w : World} {S : Nat → Prop} {σ : Nat → Option Blk} {a b c : AV} {vals : Array Value} (hv : VRs w S σ [a, b, c] vals) : ∃ x y z, vals = #[x, y, z] ∧ VR w S σ a x ∧ VR w S σ b y ∧ VR w S σ c z := by
 obtain ⟨h1, h2⟩ := hv
 have q := h2 0 (by simp)
 have q1 := h2 1 (by simp)
 have q2 := h2 2 (by simp)
 have hl : vals.toList.length = 3 := by simpa using h1
 match hq : vals.toList, hl with
 | [x, y, z], _ =>
  have e : vals = #[x, y, z] := by rw [← Array.toArray_toList (xs := vals), hq]
  subst e
  exact ⟨x, y, z, Z, by simpa using q, by simpa using q1, by simpa using q2⟩
theorem itoa (n : Int) (h : -9223372036854775808 ≤ n ∧ n ≤ 9223372036854775807) : zU Tryz.prog 216 [.int .i64 n] (.str (Lib.itoa n)) := by
 refine zU.of_below ⟨Tryz.f216, Z, by kernel_rfl, Z⟩ Z Z (fun w S vals hG hS hv => ?_)
 obtain ⟨x, rfl, a⟩ := vals1 hv
 have hx : x = .int .i64 n := by cases a; rfl
 subst hx
 have hp : pinG w := hG
 refine (Tryz.strconv_Itoa n h.1 h.2 w hp.2.1).mono ?_
 rintro e w' ⟨rfl, k, os, rfl⟩
 exact ⟨_, Z, zMu w k os, .str _ _⟩
theorem itoaN (n : Nat) (h : n ≤ 9223372036854775807) : zU Tryz.prog 216 [.int .i64 (n : Nat)] (.str (Lib.decDigits n)) := by
 have := itoa n ⟨by omega, by omega⟩
 rwa [Go.Ax.Tb.itoa_nat] at this
theorem mulB (a b : Nat) (ha : a < 18446744073709551616) (hb : b < 18446744073709551616) : zU Tryz.prog 139 [.int .u64 (a : Nat), .int .u64 (b : Nat)] (.tup [.int .u64 (a * b / 18446744073709551616 : Nat), .int .u64 (a * b % 18446744073709551616 : Nat)]) := by
 refine zU.of_below ⟨Tryz.f139, Z, by kernel_rfl, Z⟩ Z Z (fun w S vals hG hS hv => ?_)
 obtain ⟨x, y, rfl, p, q⟩ := vals2 hv
 have hx : x = .int .u64 (a : Nat) := by cases p; rfl
 have hy : y = .int .u64 (b : Nat) := by cases q; rfl
 subst hx hy
 refine (Tryz.bits_Mul a b ha hb w).mono ?_
 rintro e w' ⟨rfl, rfl⟩
 refine ⟨_, Z, Below.refl _ _, .tup _ _ _ Z (fun i hi => ?_)⟩
 match i, hi with
 | 0, _ => exact .int _ _ _
 | 1, _ => exact .int _ _ _
theorem parse32 (s : List UInt8) (u : Nat) (hl : s.length ≤ 1000) (h : Lib.parseUintB 32 s = .ok u) : zU Tryz.prog 156 [.str s, .int .i64 10, .int .i64 32] (.tup [.int .u64 (u : Nat), .nilif]) := by
 refine zU.of_below ⟨Tryz.f156, Z, by kernel_rfl, Z⟩ Z Z (fun w S vals hG hS hv => ?_)
 obtain ⟨x, y, z, rfl, p, q, r⟩ := vals3 hv
 have hx : x = zI4 s := by cases p; rfl
 have hy : y = .int .i64 10 := by cases q; rfl
 have hz : z = .int .i64 32 := by cases r; rfl
 subst hx hy hz
 have hd : (⟨s.toArray⟩ : ByteArray).data.toList = s := by simp
 have hsz : (⟨s.toArray⟩ : ByteArray).size = s.length := by simp [ByteArray.size]
 refine (Tryz.strconv_ParseUint_10_at32_ok ⟨s.toArray⟩ (by rw [hsz]; omega) u (by rw [hd]; exact h) w).mono ?_
 rintro e w' ⟨rfl, hw⟩
 refine ⟨_, Z, ?_, .tup _ _ _ Z (fun i hi => ?_)⟩
 ·rcases hw with rfl | rfl
  ·exact Below.refl _ _
  ·exact Lib.bytesWorld_below _ _ _
 ·match i, hi with
  | 0, _ => exact .int _ _ _
  | 1, _ => exact .nilif _
theorem join (ls : List (List UInt8)) (sep : List UInt8) (hN : ls.length ≤ 140737488355328) (hj : (Lib.join ls sep).length ≤ 140737488355328) : zU Tryz.prog 219 [.ro (.strs ls) 0 ls.length, .str sep] (.str (Lib.join ls sep)) := by
 refine zU.of_below ⟨Tryz.f219, Z, by kernel_rfl, Z⟩ Z Z (fun w S vals hG hS hv => ?_)
 obtain ⟨x, y, rfl, a, b⟩ := vals2 hv
 have hy : y = zI4 sep := by cases b; rfl
 subst hy
 have hsep : (⟨sep.toArray⟩ : ByteArray).data.toList = sep := by simp
 have hbyte : ∀ l : List UInt8, (⟨l.toArray⟩ : ByteArray).data.toList = l := fun l => by simp
 generalize hn : ls.length = n at a
 cases a with
 | ro0 _ _ _ ad cap =>
  have : ls = [] := List.length_eq_zero_iff.mp hn
  subst this
  refine (Tryz.strings_Join_none ad cap ⟨sep.toArray⟩ w).mono ?_
  rintro e w' ⟨rfl, rfl⟩
  exact ⟨_, Z, Below.refl _ _, .str _ []⟩
 | ro _ _ _ _ bk o cap val hSb hlen hc hvv h1' =>
  subst hn
  have hxs : (ls.map (fun l => (⟨l.toArray⟩ : ByteArray))).length = ls.length := by simp
  have c := Tryz.strings_Join bk o cap (ls.map (fun l => (⟨l.toArray⟩ : ByteArray))) ⟨sep.toArray⟩ w (fun j x hx => ?_) (hS _ hSb) (by simpa using hN) (by simpa using hlen) ?_
  ·rw [hxs] at c
   refine c.mono ?_
   rintro e w' ⟨rfl, hb⟩
   have e2 : ((ls.map (fun l => (⟨l.toArray⟩ : ByteArray))).map (fun x => x.data.toList)) = ls := by rw [List.map_map]; exact (List.map_congr_left (fun x _ => rfl)).trans (List.map_id _)
   rw [e2, hsep]
   exact ⟨_, Z, hb, .str _ _⟩
  ·simp only [List.getElem?_map, Option.map_eq_some_iff] at hx
   obtain ⟨l, hl, rfl⟩ := hx
   have hlt : j < ls.length := (List.getElem?_eq_some_iff.1 hl).1
   have q := hc j 0 hlt (by simp [Cells.sz])
   have v := hvv j 0 hlt (by simp [Cells.sz])
   simp only [Cells.sz, Nat.mul_one, Nat.add_zero] at q
   simp only [Cells.at, Nat.zero_add, List.getD, hl, Option.getD_some] at v
   rw [q]
   generalize val j 0 = z at v
   cases v; rfl
  ·have e2 : ((ls.map (fun l => (⟨l.toArray⟩ : ByteArray))).map (fun x => x.data.toList)) = ls := by rw [List.map_map]; exact (List.map_congr_left (fun x _ => rfl)).trans (List.map_id _)
   rw [e2, hsep]; exact hj
end Go.Proofs.YtnkealfaldjipaaGreatDoor
namespace Go.Proofs.YtnkealfaldjipaaGreatDoor
open Go.Ax Go.Ax.Bg Go.RowKit
attribute [local irreducible] Ax zBZ QOp zS
set_option maxRecDepth 100000
set_option maxHeartbeats 4000000
def zIc (s p : List UInt8) : Bool := decide (p.length ≤ s.length ∧ s.take p.length = p)
theorem zPX (s p : List UInt8) (hs : s.length ≤ 9223372036854775807) (hp : p.length ≤ 9223372036854775807) : zU Tryz.prog 187 [.str s, .str p] (.bool (zIc s p)) := by
 refine zS.value0 (zE (P := Tryz.prog) (fn := Tryz.f187) Z Z (by kernel_rfl) Z (fun c hR hfix => ?_)) (fix := fun _ => False) (fun _ h => h) Z Z
 refine rn22 ?_
 refine zAt Z Z (fun h0 => ?_) (fun h0 => ?_)
 ·repeat (first | refine zG (zL rfl) ?_ | refine zG (zi rfl) ?_ | refine zP ?_ | refine zF ?_ | refine zAo rfl rfl ?_ | refine zBO ?_ | refine zG (zAb rfl rfl) ?_ | refine zG (zE5 rfl rfl) ?_ | refine zG (zIl rfl rfl) ?_ | refine zG (zFE rfl rfl rfl rfl rfl rfl (by omega)) ?_)
  refine zI hR Z ?_
  show AV.bool (decide ((List.drop _ s).take _ = p)) = _
  unfold zIc
  congr 1
  rw [decide_eq_decide]
  simp only [Int.toNat_zero, List.drop_zero, Int.toNat_natCast, Nat.sub_zero]
  exact ⟨fun h => ⟨by omega, h⟩, fun h => h.2⟩
 ·refine rn6 ?_
  refine zI hR Z ?_
  show AV.bool false = _
  unfold zIc
  rw [decide_eq_false]
  exact fun h => h0 (by omega)
theorem zMQ (s p : List UInt8) (hs : s.length ≤ 9223372036854775807) (hp : p.length ≤ 9223372036854775807) : zU Tryz.prog 143 [.str s, .str p] (.bool (zIc s p)) := by
 have hc := zPX s p hs hp
 refine zS.value0 (zE (P := Tryz.prog) (fn := Tryz.f143) Z Z (by kernel_rfl) Z (fun c hR hfix => ?_)) (fix := fun _ => False) (fun _ h => h) Z Z
 generalize zIc s p = b at *
 refine rn0 ?_
 refine zB Z Z Z hc ?_
 refine rn0 ?_
 exact zI hR Z Z
/-- strings.Repeat("0", n), n small. -/
theorem repeat0 (n : Nat) (hn : n ≤ 60) : zU Tryz.prog 217 [.str [48], .int .i64 (n : Nat)] (.str (List.replicate n 48)) := by
 refine zS.value0 (zE (P := Tryz.prog) (fn := Tryz.f217) Z Z (by kernel_rfl) Z (fun c hR hfix => ?_)) (fix := fun _ => False) (fun _ h => h) Z Z
 refine rn4 ?_
 refine zD Z (fun h0 => ?_) (fun h0 => ?_)
 ·have : n = 0 := by omega
  subst this
  refine rn6 ?_
  exact zI hR Z Z
 refine rn4 ?_
 refine zD Z (fun h1 => ?_) (fun h1 => ?_)
 ·have : n = 1 := by omega
  subst this
  refine rn6 ?_
  exact zI hR Z Z
 refine rn6 ?_
 have hm := mulB 1 n (by omega) (by omega)
 rw [Nat.one_mul, Nat.div_eq_of_lt (by omega), Nat.mod_eq_of_lt (by omega)] at hm
 have p1 : zU Tryz.prog 143 [.str (List.replicate 128 32), .str [48]] (.bool false) := zMQ _ _ (by decide) (by decide)
 have p2 : zU Tryz.prog 143 [.str (List.replicate 128 45), .str [48]] (.bool false) := zMQ _ _ (by decide) (by decide)
 have p3 : zU Tryz.prog 143 [.str (List.replicate 64 48), .str [48]] (.bool true) := zMQ _ _ (by decide) (by decide)
 refine zG (zAZ (m := 1) Z Z Z zBe (by decide)) ?_
 repeat (refine zG (zL rfl) ?_)
 refine zG (zAZ (m := n) Z Z Z zBe (by omega)) ?_
 refine zB Z Z Z hm ?_
 refine rn6 ?_
 refine zD Z (fun h => absurd h (by omega)) (fun h => ?_)
 refine rn1 ?_
 refine zG (zEz (m := n) Z Z Z (by omega)) ?_
 repeat (first | refine zG (zL rfl) ?_ | refine zG (zi rfl) ?_ | refine zP ?_ | refine zF ?_ | refine z8 ?_ | refine zV rfl ?_ | refine zBU rfl ?_ | refine zAT rfl ?_ | refine z7 ?_ | refine zAh ?_ | refine zG (zDV rfl rfl) ?_ | refine zG (q_leq rfl rfl) ?_ | refine zG (zE5 rfl rfl) ?_ | refine zG (zIU rfl rfl rfl (by first | assumption | omega | simp)) ?_)
 refine zAt Z Z (fun h3 => ?_) (fun h3 => absurd (show (n : Int) ≤ 128 by omega) h3)
 refine rn2 ?_
 refine zB Z Z Z p1 ?_
 refine rn17 ?_
 refine zAt Z Z (fun h4 => ?_) (fun h4 => absurd (show (n : Int) ≤ 128 by omega) h4)
 refine rn2 ?_
 refine zB Z Z Z p2 ?_
 refine rn17 ?_
 refine zAt Z Z (fun h5 => ?_) (fun h5 => absurd (show (n : Int) ≤ 64 by omega) h5)
 refine rn2 ?_
 refine zB Z Z Z p3 ?_
 refine rn5 ?_
 refine zG (zFE Z Z Z Z Z Z (by show (0 : Int) ≤ 0 ∧ (0 : Int) ≤ (n : Nat) ∧ ((n : Nat) : Int) ≤ ((64 : Nat) : Int); omega)) ?_
 refine rn6 ?_
 refine zI hR Z ?_
 show AV.str ((List.drop 0 (List.replicate 64 48)).take (n - 0)) = _
 rw [List.drop_zero, Nat.sub_zero, List.take_replicate, Nat.min_eq_left (by omega)]
/-- strings.asciiSet: the digits. -/
def zEW (k : Nat) : List AV := (List.range 256).map fun j => AV.bool (decide (48 ≤ j ∧ j < 48 + k))
theorem zCg (k : Nat) : (zEW k).length = 256 := by unfold zEW; simp
theorem zJo (k j : Nat) (hj : j < 256) : (zEW k)[j]? = some (AV.bool (decide (48 ≤ j ∧ j < 48 + k))) := by
 unfold zEW
 rw [List.getElem?_map, List.getElem?_range hj]; rfl
theorem setL_set (k : Nat) (hk : k < 10) : (zEW k).set (48 + k) (.bool true) = zEW (k + 1) := by
 apply List.ext_getElem?
 intro i
 rcases Nat.lt_or_ge i 256 with hi | hi
 ·rw [zJo (k + 1) i hi]
  by_cases h : i = 48 + k
  ·subst h
   rw [List.getElem?_set_self (by rw [zCg]; exact hi)]
   congr 2
   exact (decide_eq_true (by omega)).symm
  ·rw [List.getElem?_set_ne (Ne.symm h), zJo k i hi]
   congr 2
   rw [decide_eq_decide]; omega
 ·rw [List.getElem?_eq_none (by rw [List.length_set, zCg]; exact hi), List.getElem?_eq_none (by rw [zCg]; exact hi)]
def digS : List UInt8 := [48, 49, 50, 51, 52, 53, 54, 55, 56, 57]
theorem zP6 (k : Nat) (hk : k < 10) : (digS.getD k 0).toNat = 48 + k := by
 have : k = 0 ∨ k = 1 ∨ k = 2 ∨ k = 3 ∨ k = 4 ∨ k = 5 ∨ k = 6 ∨ k = 7 ∨ k = 8 ∨ k = 9 := by omega
 rcases this with rfl | rfl | rfl | rfl | rfl | rfl | rfl | rfl | rfl | rfl <;> rfl
theorem box_all (l : List AV) : (List.range (Cells.box l).sz).map ((Cells.box l).at 0) = l := by
 apply List.ext_getElem?
 intro i
 rcases Nat.lt_or_ge i l.length with h | h
 ·rw [List.getElem?_map, List.getElem?_range (by exact h)]
  show some (l.getD i .any) = _
  rw [List.getD, List.getElem?_eq_getElem h]; rfl
 ·rw [List.getElem?_eq_none (by simpa [Cells.sz] using h), List.getElem?_eq_none h]
theorem set_ok : zU Tryz.prog 197 [.str digS] (.tup [.agg (zEW 10), .bool true]) := by
 refine zS.value0 (zE (P := Tryz.prog) (fn := Tryz.f197) Z Z (by kernel_rfl) Z (fun c hR hfix => ?_)) (fix := fun _ => False) (fun _ h => h) Z (by kernel_rfl)
 refine rn4 ?_
 refine zAV [some ⟨273, .box (zEW 0)⟩] (by kernel_rfl) ?_
 refine zh (ι := Nat) (fun k => [(0, .str digS), (2, .ptr 0 0 0), (4, .int .i64 (k : Nat))]) (fun k => [some ⟨273, .box (zEW k)⟩]) (fun k => k ≤ 10) (fun k => 10 - k) 0 ⟨⟨Z, Z, Z, trivial⟩, Z, by omega⟩ ?_
 rintro k hk
 have hdl : digS.length = 10 := rfl
 refine rn6 ?_
 refine zD Z (fun h1 => ?_) (fun h1 => ?_)
 ·have hk2 : k < 10 := by omega
  refine zJl ?_
  refine zD Z (fun h2 => absurd h2 (by rw [Int.toNat_natCast, zP6 k hk2]; omega)) (fun h2 => ?_)
  refine rn1 ?_
  refine zA 18 (.int .u8 (48 + k : Nat)) Z (AEq.of_eq (by rw [Int.toNat_natCast, zP6 k hk2])) ?_
  refine zG (zMM (m := ((48 + k : Nat) : Int)) (jx := 48 + k) Z Z Z Z (by rw [Int.toNat_natCast, Nat.zero_add]) (by omega)) ?_
  refine zCG Z Z Z Z Z (by rw [show (Cells.box (zEW k)).sz = 256 from zCg k]; exact Nat.ble_eq.symm ▸ (by omega : 48 + k + 1 ≤ 256)) Z Nat.zero_lt_one ?_
  refine rn5 ?_
  refine zM ⟨k + 1, by omega, by omega, ⟨Z, Z, Z, trivial⟩, ?_⟩
  show ([some ⟨_, .box ((zEW k).set (48 + k) (.bool true))⟩] : zO) = _
  rw [setL_set k hk2]
 ·have hke : k = 10 := by omega
  subst hke
  refine rn5 ?_
  refine zG (zHj (ob := ⟨273, .box (zEW 10)⟩) Z Z Z (zCg 10).symm Z Z (box_all _) Nat.zero_lt_one) ?_
  refine zN (c' := .box (zEW 10)) Z Z (by rw [show (Cells.box (zEW 10)).sz = 256 from zCg 10]; rfl) Z (by rw [show (Cells.box (zEW 10)).sz = 256 from zCg 10]; exact zCg 10) Nat.zero_lt_one Z Z (fun i' j' hi' hj' => ?_) ?_
  ·rw [if_pos (Nat.lt_one_iff.1 hi')]; rfl
  refine rn0 ?_
  exact zI hR Z Z
theorem zJZ (ch : UInt8) : zU Tryz.prog 225 [.rp (.box (zEW 10)) 0 0, .int .u8 (ch.toNat : Nat)] (.bool (dg ch)) := by
 have hlt := ch.toNat_lt
 have hat := zJo 10 ch.toNat (by simpa using hlt)
 refine zS.value0 (zE (P := Tryz.prog) (fn := Tryz.f225) Z Z (by kernel_rfl) Z (fun c hR hfix => ?_)) (fix := fun _ => False) (fun _ h => h) Z Z
 refine rn18 ?_
 refine zG (zN4 (m := ((ch.toNat : Nat) : Int)) (jx := ch.toNat) Z Z Z Z (by rw [Int.toNat_natCast, Nat.zero_add]) (by omega)) ?_
 refine zG (zBv Z Z Z hat) ?_
 refine rn0 ?_
 exact zI hR Z Z
theorem right_ok (s : List UInt8) (hs : s.length ≤ 9223372036854775807) : zU Tryz.prog 199 [.str s, .rp (.box (zEW 10)) 0 0] (.str (trR s)) := by
 refine zS.value0 (zE (P := Tryz.prog) (fn := Tryz.f199) Z Z (by kernel_rfl) Z (fun c hR hfix => ?_)) (fix := fun _ => False) (fun _ h => h) Z Z
 refine rn1 ?_
 refine zh (ι := Nat) (fun k => [(0, .str (s.take k)), (1, .rp (.box (zEW 10)) 0 0)]) (fun _ => []) (fun k => k ≤ s.length ∧ (s.drop k).all dg = true) (fun k => k) s.length ⟨⟨by rw [List.take_length]; rfl, Z, trivial⟩, Z, Nat.le_refl _, by simp⟩ ?_
 rintro k ⟨hk, hd⟩
 have hlen : (s.take k).length = k := by simp; omega
 have hof := trR_of hk hd
 refine rn6 ?_
 refine zD Z (fun h1 => ?_) (fun h1 => ?_)
 ·have hk1 : 0 < k := by omega
  have hg : (s.take k).getD (k - 1) 0 = s.getD (k - 1) 0 := by
   simp only [List.getD, List.getElem?_take, show k - 1 < k by omega, if_true]
  have e1 : ((k : Int) - 1).toNat = k - 1 := by omega
  have hc := zJZ (s.getD (k - 1) 0)
  repeat (first | refine zG (zL rfl) ?_ | refine zF ?_ | refine z8 ?_ | refine zV rfl ?_ | refine z7 ?_ | refine zAh ?_ | refine zG (zE5 rfl rfl) ?_ | refine zG (zEN rfl rfl (by omega)) ?_ | refine zG (zIU rfl rfl rfl (by first | assumption | omega | simp)) ?_)
  refine zA 13 (.int .u8 ((s.getD (k - 1) 0).toNat : Nat)) Z (AEq.of_eq (by rw [hlen, e1, hg])) ?_
  refine zB Z Z Z hc ?_
  refine rn5 ?_
  refine zEk Z (fun h2 => ?_) (fun h2 => ?_)
  ·have h3 : dg (s.getD (k - 1) 0) = false := by simpa using h2
   refine rn21 ?_
   refine zI hR Z ?_
   rw [hof (.inr h3)]; rfl
  ·have h3 : dg (s.getD (k - 1) 0) = true := by simpa using h2
   repeat (first | refine zG (zL rfl) ?_ | refine zF ?_ | refine zV rfl ?_ | refine zAh ?_ | refine zG (zE5 rfl rfl) ?_ | refine zG (zEN rfl rfl (by omega)) ?_)
   refine zG (zFE Z Z Z Z Z Z (by omega)) ?_
   refine rn5 ?_
   refine zM ⟨k - 1, ⟨by omega, ?_⟩, by omega, ⟨?_, Z, trivial⟩, Z⟩
   ·rw [zC2 s 0 (k - 1) (by omega), show k - 1 + 1 = k by omega, List.all_cons, h3, hd]; rfl
   ·show some (AV.str ((List.drop 0 (s.take k)).take ((((s.take k).length : Int) - 1).toNat - 0))) = _
    rw [List.drop_zero, hlen, e1, Nat.sub_zero, List.take_take, Nat.min_eq_left (by omega)]
 ·have hk0 : k = 0 := by omega
  subst hk0
  refine rn5 ?_
  refine zI hR Z ?_
  rw [hof (.inl rfl)]; rfl
theorem left_ok (s : List UInt8) (hs : s.length ≤ 9223372036854775807) : zU Tryz.prog 198 [.str s, .rp (.box (zEW 10)) 0 0] (.str (trL s)) := by
 refine zS.value0 (zE (P := Tryz.prog) (fn := Tryz.f198) Z Z (by kernel_rfl) Z (fun c hR hfix => ?_)) (fix := fun _ => False) (fun _ h => h) Z Z
 refine rn1 ?_
 refine zh (ι := Nat) (fun k => [(0, .str (s.drop k)), (1, .rp (.box (zEW 10)) 0 0)]) (fun _ => []) (fun k => k ≤ s.length ∧ (s.take k).all dg = true) (fun k => s.length - k) 0 ⟨⟨by rw [List.drop_zero]; rfl, Z, trivial⟩, Z, Nat.zero_le _, by simp⟩ ?_
 rintro k ⟨hk, hd⟩
 have hlen : (s.drop k).length = s.length - k := by simp
 have hof := trL_of hd
 refine rn6 ?_
 refine zD Z (fun h1 => ?_) (fun h1 => ?_)
 ·have hk1 : k < s.length := by omega
  have hg : (s.drop k).getD 0 0 = s.getD k 0 := by simp [List.getD]
  have hc := zJZ (s.getD k 0)
  refine zJl ?_
  refine zA 10 (.int .u8 ((s.getD k 0).toNat : Nat)) Z (AEq.of_eq (by rw [Int.toNat_zero, hg])) ?_
  refine zB Z Z Z hc ?_
  refine rn5 ?_
  refine zEk Z (fun h2 => ?_) (fun h2 => ?_)
  ·have h3 : dg (s.getD k 0) = false := by simpa using h2
   refine rn21 ?_
   refine zI hR Z ?_
   rw [hof (.inr h3)]; rfl
  ·have h3 : dg (s.getD k 0) = true := by simpa using h2
   refine rn1 ?_
   refine zG (zFE Z Z Z Z Z Z (by omega)) ?_
   refine rn5 ?_
   refine zM ⟨k + 1, ⟨by omega, ?_⟩, by omega, ⟨?_, Z, trivial⟩, Z⟩
   ·rw [zCw s 0 k hk1, List.all_append, hd]; simp only [List.all_cons, List.all_nil, h3, Bool.and_true]
   ·show some (AV.str ((List.drop 1 (s.drop k)).take ((s.drop k).length - 1))) = _
    rw [List.drop_drop, List.take_of_length_le (by simp; omega)]
 ·have hk0 : s.length ≤ k := by omega
  refine rn5 ?_
  refine zI hR Z ?_
  rw [hof (.inl hk0)]; rfl
theorem trim_ok (s : List UInt8) (hs : s.length ≤ 9223372036854775807) : zU Tryz.prog 155 [.str s, .str digS] (.str (trL (trR s))) := by
 have h1 := set_ok
 have h2 := right_ok s hs
 have hle : (trR s).length ≤ s.length := by
  unfold trR
  rw [List.length_reverse]
  have := (List.dropWhile_sublist (p := dg) (l := s.reverse)).length_le
  simpa using this
 have h3 := left_ok (trR s) (by omega)
 refine zS.value0 (zE (P := Tryz.prog) (fn := Tryz.f155) Z Z (by kernel_rfl) Z (fun c hR hfix => ?_)) (fix := fun _ => False) (fun _ h => h) Z Z
 have hl := zCg 10
 refine rn6 ?_
 by_cases h0 : s = []
 ·subst h0
  refine rn6 ?_
  exact zI hR Z Z
 rw [show decide (s = _) = false from decide_eq_false h0]
 refine rn6 ?_
 refine zB Z Z Z h1 ?_
 refine rn4 ?_
 refine zN (c' := .box (zEW 10)) Z Z Z Z (zCg 10) Nat.zero_lt_one Z (zCg 10) (fun i' j' hi' hj' => ?_) ?_
 ·rw [if_pos (Nat.lt_one_iff.1 hi')]; rfl
 refine rn5 ?_
 have hrl : ∀ (h : Nat) (o : AObj), ([some ⟨273, .box (zEW 10)⟩] : zO)[h]? = some (some o) → zAK o.c := zIB (fun i j hi hj => by
  show noRef ((zEW 10).getD j .any) = true
  rw [List.getD, zJo 10 j (by have : j < (zEW 10).length := hj; rwa [zCg] at this)]; rfl)
 refine zR [some ⟨273, .box (zEW 10)⟩] Z ?_
 refine zIb rfl rfl rfl rfl h2 hrl ⟨trivial, fun o ho => by simp at ho; subst ho; exact Nat.zero_lt_one, trivial⟩ rfl rfl rfl ?_
 skip
 refine zIb rfl rfl rfl rfl h3 hrl ⟨trivial, fun o ho => by simp at ho; subst ho; exact Nat.zero_lt_one, trivial⟩ rfl rfl rfl ?_
 refine rn2 ?_
 exact zI hR Z Z
end Go.Proofs.YtnkealfaldjipaaGreatDoor
namespace Go.Proofs.YtnkealfaldjipaaGreatDoor
open Go.Ax Go.Ax.Bg Go.RowKit
open Go.Ax.Tb (zBy zEC zCH zCi)
attribute [local irreducible] Ax zBZ QOp zS
set_option maxRecDepth 100000
set_option maxHeartbeats 4000000
theorem zPq {i : Nat} (h : i ≤ 9) : 10 ^ i ≤ 1000000000 := by
 have := Nat.pow_le_pow_right (show 0 < 10 by decide) h
 exact Nat.le_trans this (by decide)
theorem zJq (S : List UInt8) (hd : ∀ c ∈ S, zBy c) (hl : S.length ≤ 1000000) : zU Tryz.prog 95 [.str S] (zf (zBG 0 S)) := by
 refine zS.value0 (zE (P := Tryz.prog) (fn := Tryz.f95) Z Z (by kernel_rfl) Z (fun c hR hfix => ?_)) (fix := fun _ => False) (fun _ h => h) Z Z
 refine rn0 ?_
 refine zAN 3 (zf 0) Z AEq.natNil ?_
 refine z7 ?_
 refine zh (ι := Nat × List UInt8) (fun p => [(0, .str p.2), (3, zf p.1)]) (fun _ => []) (fun p => p.2.length ≤ S.length ∧ (∀ c ∈ p.2, zBy c) ∧ zBG p.1 p.2 = zBG 0 S ∧ p.1 < 10 ^ (S.length - p.2.length)) (fun p => p.2.length) (0, S) ⟨⟨Z, Z, trivial⟩, Z, Nat.le_refl _, hd, Z, by simp⟩ ?_
 rintro ⟨v, s⟩ ⟨h1, h2, h3, h4⟩
 simp only at *
 refine rn6 ?_
 refine zD Z (fun h5 => ?_) (fun h5 => ?_)
 ·have hs0 : s ≠ [] := by rintro rfl; simp at h5
  obtain ⟨k, hk, hk1, hk9, hks⟩ : ∃ k : Nat, (if (9 : Int) < (s.length : Nat) then (9 : Int) else (s.length : Nat)) = (k : Int) ∧ 1 ≤ k ∧ k ≤ 9 ∧ k ≤ s.length := by
   have : 0 < s.length := List.length_pos_iff.2 hs0
   by_cases hz : (9 : Int) < (s.length : Nat)
   ·exact ⟨9, by rw [if_pos hz]; rfl, by omega, by omega, by omega⟩
   ·exact ⟨s.length, by rw [if_neg hz], by omega, by omega, Nat.le_refl _⟩
  have ht0 : s.take k ≠ [] := by
   intro e
   have := congrArg List.length e
   rw [List.length_take, Nat.min_eq_left hks] at this
   simp at this; omega
  have htl : (s.take k).length = k := by rw [List.length_take, Nat.min_eq_left hks]
  obtain ⟨hp, hplt⟩ := zDB ht0 (fun c hc => h2 c (List.mem_of_mem_take hc)) (by omega)
  have hp32 := parse32 (s.take k) _ (by omega) hp
  have hdv : zBG (v * 10 ^ k + zBG 0 (s.take k)) (s.drop k) = zBG 0 S := by
   rw [← h3]
   conv => rhs; rw [← List.take_append_drop k s]
   rw [zG6, zG3 (s.take k) v, htl]
  have hxlt := zJv (l := s.take k) (fun c hc => h2 c (List.mem_of_mem_take hc))
  rw [htl] at hxlt
  have hvn : v * 10 ^ k + zBG 0 (s.take k) < 10 ^ (S.length - (s.drop k).length) := by
   rw [List.length_drop, show S.length - (s.length - k) = (S.length - s.length) + k by omega, Nat.pow_add]
   have : (v + 1) * 10 ^ k ≤ 10 ^ (S.length - s.length) * 10 ^ k := Nat.mul_le_mul_right _ h4
   rw [Nat.add_mul] at this
   omega
  obtain ⟨x, hx⟩ : ∃ x, zBG 0 (s.take k) = x := ⟨_, rfl⟩
  rw [hx] at hplt hp32 hdv hvn
  have hvl : (zT v).length ≤ S.length - s.length := zAs (Nat.lt_of_lt_of_le h4 (Nat.pow_le_pow_left (by decide) _))
  have hma := zRD (zT v) (10 ^ k) x (zAY v) (by omega) (by have := zPq hk9; omega) (by omega)
  rw [zAH] at hma
  refine rn22 ?_
  rw [hk]
  refine zA 17 (.str (s.take k)) Z (AEq.of_eq (by
   show AV.str ((List.drop 0 s).take (k - 0)) = _
   rw [List.drop_zero, Nat.sub_zero])) ?_
  refine zB Z Z Z hp32 ?_
  refine rn2 ?_
  refine zh (ι := Nat) (fun i => [(0, .str s), (3, zf v), (4, .int .i64 (k : Nat)), (5, .int .u64 (x : Nat)), (7, .int .u32 (10 ^ i : Nat)), (21, .int .i64 (k : Nat)), (22, .int .i64 (i : Nat))]) (fun _ => []) (fun i => i ≤ k) (fun i => k - i) 0 ⟨⟨Z, Z, Z, Z, Z, Z, Z, trivial⟩, Z, Nat.zero_le _⟩ ?_
  rintro i hi
  refine rn4 ?_
  refine zD Z (fun h6 => ?_) (fun h6 => ?_)
  ·have hpw := zPq (show i + 1 ≤ 9 by omega)
   rw [Nat.pow_succ] at hpw
   refine rn1 ?_
   refine zG (zIv (m := 10 ^ i) (n := 10) Z Z zE3 (by omega)) ?_
   refine rn5 ?_
   exact zM ⟨i + 1, by omega, by omega, ⟨Z, Z, Z, Z, Z, Z, Z, trivial⟩, Z⟩
  ·have hie : i = k := by omega
   subst hie
   refine rn5 ?_
   refine zG (zAZ (m := x) Z Z Z zE3 (by omega)) ?_
   refine zB Z Z Z hma ?_
   refine rn22 ?_
   refine zM ⟨(v * 10 ^ i + x, s.drop i), ⟨by simp only [List.length_drop]; omega, fun c hc => h2 c (List.mem_of_mem_drop hc), hdv, hvn⟩, by simp only [List.length_drop]; omega, ⟨?_, Z, trivial⟩, Z⟩
   show some (AV.str ((List.drop i s).take (s.length - i))) = _
   rw [List.take_of_length_le (by simp)]
 ·have hs0 : s = [] := by
   rcases s with _ | ⟨x, r⟩
   ·rfl
   ·exact absurd (by simp) h5
  subst hs0
  refine rn5 ?_
  refine zI hR Z ?_
  rw [← h3]; rfl
theorem zQr : zU Tryz.prog 184 [zf 0] (.str (Lib.decDigits 0)) := by
 refine zS.value0 (zE (P := Tryz.prog) (fn := Tryz.f184) Z Z (by kernel_rfl) Z (fun c hR hfix => ?_)) (fix := fun _ => False) (fun _ h => h) Z Z
 have en : zf 0 = .ro (.ints .u32 []) 0 0 := by unfold zf; rw [zB9]; rfl
 rw [en]
 refine rn5 ?_
 refine zI hR Z ?_
 rw [Lib.decDigits_one (by decide)]; rfl
theorem zDk {n L : Nat} (h : (zT n).length ≤ L) (hL : 1 ≤ L) : (Lib.decDigits n).length ≤ 10 * L := by
 have h1 := zA2 (zAY n)
 rw [zAH] at h1
 have h2 : B ^ (zT n).length ≤ B ^ L := Nat.pow_le_pow_right (by decide) h
 have h3 : B ^ L ≤ (10 ^ 10) ^ L := Nat.pow_le_pow_left (by decide) L
 rw [← Nat.pow_mul] at h3
 exact zDL (by omega) (by omega)
theorem zJ4 (n : Nat) (h : (zT n).length ≤ 1000000) : zU Tryz.prog 184 [zf n] (.str (Lib.decDigits n)) := by
 rcases Nat.eq_zero_or_pos n with h0 | h0
 ·subst h0; exact zQr
 have hdl := zDk h (by decide)
 have hn0 : 0 < (zT n).length := zCV.2 (by omega)
 refine zS.value0 (zE (P := Tryz.prog) (fn := Tryz.f184) Z Z (by kernel_rfl) Z (fun c hR hfix => ?_)) (fix := fun _ => False) (fun _ h => h) Z Z
 unfold zf
 refine rn4 ?_
 refine zD Z (fun q => absurd q (by omega)) (fun q => ?_)
 refine rn8 ?_
 refine zAi 3 ⟨9, .strs []⟩ Z Z ?_
 refine z7 ?_
 refine zh (ι := Nat × List (List UInt8)) (fun p => [(0, zf p.1), (3, .sl 0 0 p.2.length)]) (fun p => [some ⟨9, .strs p.2⟩]) (fun p => (zT p.1).length ≤ 1000000 ∧ p.2.length ≤ p.2.reverse.flatten.length ∧ (if p.1 = 0 then Lib.decDigits n = p.2.reverse.flatten else Lib.decDigits n = Lib.decDigits p.1 ++ p.2.reverse.flatten)) (fun p => p.1) (n, [])
  ⟨⟨rfl, rfl, trivial⟩, rfl, h, by simp, by rw [if_neg (by simp only; omega)]; simp⟩ ?_
 rintro ⟨m, ps⟩ ⟨h1, h2, h3⟩
 simp only at *
 have hpos : 0 < (zT m).length ↔ m ≠ 0 := zCV
 have hds := zJT (zT m) 1000000000 (zAY m) (by omega) (by decide)
 rw [zAH] at hds
 have hflen : ps.reverse.flatten.length ≤ 10000000 := by
  have e : ps.reverse.flatten.length ≤ (Lib.decDigits n).length := by
   split at h3
   ·rw [h3]; exact Nat.le_refl _
   ·rw [h3, List.length_append]; omega
  omega
 have en : zf m = .ro (.ints .u32 (zT m)) 0 (zT m).length := rfl
 rw [en]
 refine rn6 ?_
 refine zD Z (fun h4 => ?_) (fun h4 => ?_)
 ·have hm0 : m ≠ 0 := hpos.1 (by omega)
  rw [if_neg hm0] at h3
  have hr : m % 1000000000 < 1000000000 := Nat.mod_lt _ (by decide)
  have hlt : m / 1000000000 < m := Nat.div_lt_self (by omega) (by decide)
  have hit := itoaN (m % 1000000000) (by omega)
  have hpos2 : 0 < (zT (m / 1000000000)).length ↔ m / 1000000000 ≠ 0 := zCV
  have hlen2 := zFl hlt h1
  have hrl : (Lib.decDigits (m % 1000000000)).length ≤ 9 := zDL (by decide) (by have e9 : (10 : Nat) ^ 9 = 1000000000 := by decide
                                                                                rw [e9]; exact hr)
  have hrp := repeat0 (9 - (Lib.decDigits (m % 1000000000)).length) (by omega)
  obtain ⟨t, ht0, htl, htp, htn⟩ : ∃ t : List UInt8, t ≠ [] ∧ t.length ≤ 9 ∧ (m / 1000000000 ≠ 0 → t = List.replicate (9 - (Lib.decDigits (m % 1000000000)).length) 48 ++ Lib.decDigits (m % 1000000000)) ∧ (m / 1000000000 = 0 → t = Lib.decDigits (m % 1000000000)) := by
   by_cases z : m / 1000000000 = 0
   ·exact ⟨_, zCi _, hrl, fun h => absurd z h, fun _ => rfl⟩
   ·refine ⟨_, ?_, ?_, fun _ => rfl, fun h => absurd h z⟩
    ·simp [zCi]
    ·simp; omega
  have hsplit : m / 1000000000 ≠ 0 → Lib.decDigits m = Lib.decDigits (m / 1000000000) ++ t := fun z => by
   have e9 : (10 : Nat) ^ 9 = 1000000000 := by decide
   have hs := zMa (n := m) (k := 9) (by decide) (by rw [e9]; omega)
   rw [e9] at hs
   rw [hs, htp z]; rfl
  have hone : m / 1000000000 = 0 → Lib.decDigits m = t := fun z => by
   rw [htn z]
   congr 1
   have := Nat.div_add_mod m 1000000000
   omega
  have hnew : (if m / 1000000000 = 0 then Lib.decDigits n = (ps ++ [t]).reverse.flatten else Lib.decDigits n = Lib.decDigits (m / 1000000000) ++ (ps ++ [t]).reverse.flatten) := by
   rw [List.reverse_append, List.reverse_singleton, List.singleton_append, List.flatten_cons]
   split
   ·rename_i z; rw [h3, hone z]
   ·rename_i z; rw [h3, hsplit z, List.append_assoc]
  obtain ⟨r, hrr⟩ : ∃ r, m % 1000000000 = r := ⟨_, rfl⟩
  obtain ⟨d, hdd⟩ : ∃ d, m / 1000000000 = d := ⟨_, rfl⟩
  simp only [hrr, hdd] at *
  refine rn1 ?_
  refine zB Z Z Z hds ?_
  refine rn2 ?_
  refine zG (zEz (m := r) Z Z Z (by omega)) ?_
  refine zB Z Z Z hit ?_
  have en2 : zf d = .ro (.ints .u32 (zT d)) 0 (zT d).length := rfl
  rw [en2]
  refine rn6 ?_
  apply zAM (H := [some ⟨9, .strs ps⟩]) [(0, zf d), (3, .sl 0 0 ps.length), (5, .str t)]
  ·intro fin
   refine zD Z (fun q2 => ?_) (fun q2 => ?_)
   ·have hd0 : d ≠ 0 := hpos2.1 (by omega)
    refine zHe ?_
    refine zA 25 (.int .i64 (9 - (Lib.decDigits r).length : Nat)) Z (AEq.of_eq (by congr 1; omega)) ?_
    refine zB Z Z Z hrp ?_
    repeat (refine zG (zL rfl) ?_)
    refine zG (zFH Z Z (by simp; omega)) ?_
    refine rn9 ?_
    exact fin _ ⟨Z, Z, by rw [htp hd0]; rfl, trivial⟩
   ·have hd0 : d = 0 := by
     rcases Nat.eq_zero_or_pos d with z | z
     ·exact z
     ·exact absurd (by have := hpos2.2 (by omega); omega) q2
    refine rn9 ?_
    exact fin _ ⟨Z, Z, by rw [htn hd0]; rfl, trivial⟩
  refine rn3 ?_
  refine zAG Z Z Z Z Z Z Z Z Z Z Z Z (Nat.le_refl 1) Z (by show (ps.length + 1) * 16 ≤ _ ∧ _; omega) (fun i j _ _ => rfl) (by rw [hfix]; exact fun h => h) ?_
  refine rn5 ?_
  refine zM ⟨(d, ps ++ [t]), ⟨hlen2, ?_, hnew⟩, hlt, ⟨Z, ?_, trivial⟩, Z⟩
  ·simp only [List.reverse_append, List.reverse_singleton, List.singleton_append, List.flatten_cons, List.length_append, List.length_singleton]
   have := List.length_pos_iff.2 ht0
   omega
  ·show some (AV.sl 0 0 (ps.length + 1)) = _
   simp
 ·have hm0 : m = 0 := by
   rcases Nat.eq_zero_or_pos m with q | q
   ·exact q
   ·exact absurd (by have := hpos.2 (by omega); omega) h4
  rw [if_pos hm0] at h3
  have hrv := zOq ps (by omega)
  have hjl : (Lib.join ps.reverse []).length ≤ 140737488355328 := by rw [zLg]; omega
  have hjn := join ps.reverse [] (by rw [List.length_reverse]; omega) hjl
  rw [zLg, ← h3, List.length_reverse] at hjn
  refine rn5 ?_
  refine zCd (fix := fun h => h < 1) Z Z Z hrv (fun h hh => hh) (fun h hh => hh) ?_
  rintro r H rfl
  refine rn0 ?_
  refine zDh 0 35 ps.length [] Z zIY Z (by show _ ≤ ps.reverse.length; simp) trivial ?_
  refine zB Z Z Z hjn ?_
  refine rn0 ?_
  exact zI hR Z Z
end Go.Proofs.YtnkealfaldjipaaGreatDoor
namespace Go.Ax.Idx
def fct : Nat → Int
 | 0 => 1
 | n + 1 => (n + 1) * fct n
/-- The place of the first element with a property, or -1. -/
def idxF {α : Type} (p : α → Bool) : List α → Int
 | [] => -1
 | x :: r => if p x then 0 else if idxF p r < 0 then -1 else idxF p r + 1
theorem idxF_neg {α : Type} (p : α → Bool) (l : List α) (h : idxF p l < 0) : idxF p l = -1 := by
 cases l with
 | nil => rfl
 | cons x r =>
  simp only [idxF] at h ⊢
  by_cases h1 : p x = true
  ·simp [h1] at h
  ·by_cases h2 : idxF p r < 0
   ·simp [h1, h2]
   ·simp only [h1, h2, if_false, Bool.false_eq_true] at h
    omega
theorem idxF_take {α : Type} (p : α → Bool) (l : List α) (k : Nat) (h : (l.take k).any p = false) (hk : k ≤ l.length) : idxF p l = if idxF p (l.drop k) < 0 then -1 else idxF p (l.drop k) + k := by
 induction k generalizing l with
 | zero =>
  simp only [List.drop_zero]
  split
  ·exact idxF_neg p l (by assumption)
  ·omega
 | succ k ih => cases l with
  | nil => simp at hk
  | cons x r =>
   simp only [List.take_succ_cons, List.any_cons, Bool.or_eq_false_iff] at h
   have := ih r h.2 (by simpa using hk)
   simp only [idxF, h.1, List.drop_succ_cons, Bool.false_eq_true, if_false]
   rw [this]
   split <;> split <;> omega
theorem zKE {α : Type} (p : α → Bool) (l : List α) : decide (0 ≤ idxF p l) = l.any p := by
 induction l with
 | nil => rfl
 | cons x r ih =>
  simp only [idxF, List.any_cons]
  by_cases h1 : p x = true
  ·simp [h1]
  ·simp only [Bool.not_eq_true] at h1
   simp only [h1, Bool.false_eq_true, if_false, Bool.false_or]
   rw [← ih]
   by_cases h2 : idxF p r < 0
   ·rw [if_pos h2]; simp; omega
   ·rw [if_neg h2]; congr 1; simp; omega
theorem getD_set {l : List Int} {i j : Nat} {v : Int} (hi : i < l.length) : (l.set i v).getD j 0 = if j = i then v else l.getD j 0 := by
 by_cases h : j = i
 ·subst h; simp [List.getD, hi]
 ·simp only [List.getD, h, if_false]
  rw [List.getElem?_set_ne (fun e => h e.symm)]
/-- One less of kind i. -/
def less (l : List Int) (i : Nat) : List Int := l.set i (l.getD i 0 - 1)
theorem zCA {l : List Int} {i : Nat} (hi : i < l.length) : (less l i).set i ((less l i).getD i 0 + 1) = l := by
 unfold less
 rw [getD_set hi, if_pos rfl, List.set_set]
 have : l.getD i 0 - 1 + 1 = l[i] := by rw [zDm 0 hi]; omega
 rw [this, List.set_getElem_self]
end Go.Ax.Idx
namespace Go.Ax.Cd
open Go.Ax.Idx
def eqp (v y : Int) : Bool := decide (v = y)
end Go.Ax.Cd
namespace Go.Ax.Cd
open Go.Ax.Idx
end Go.Ax.Cd
namespace Go.Ax.Cd
open Go.Ax.Idx
end Go.Ax.Cd
namespace Go.Proofs.YtnkealfaldjipaaGreatDoor
open Go.Ax Go.Ax.Idx Go.Ax.Cd
attribute [local irreducible] Ax zBZ QOp zS
set_option maxRecDepth 100000
set_option maxHeartbeats 4000000
theorem indexI (l : List Int) (v : Int) (hlen : l.length ≤ 9223372036854775807) :
 zU Tryz.prog 161 [.ro (.ints .i64 l) 0 l.length, .int .i64 v] (.int .i64 (idxF (eqp v) l)) := by
 refine zS.value0 (zE (P := Tryz.prog) (fn := Tryz.f161) Z Z (by kernel_rfl) Z (fun c hR hfix => ?_)) (fix := fun _ => False) (fun _ h => h) Z Z
 refine rn3 ?_
 refine zh (ι := Nat) (fun k => [(0, .ro (.ints .i64 l) 0 l.length), (1, .int .i64 v), (7, .int .i64 (l.length : Nat)), (8, .int .i64 (k : Nat))]) (fun _ => [])
  (fun k => k ≤ l.length ∧ (l.take k).any (eqp v) = false) (fun k => l.length - k) 0 ⟨⟨rfl, rfl, rfl, rfl, trivial⟩, rfl, Nat.zero_le _, rfl⟩ ?_
 intro k ⟨hk, hany⟩
 refine rn4 ?_
 refine zD Z (fun h => ?_) (fun h => ?_)
 ·have hk' : k < l.length := by omega
  have hanys := zD5 (eqp v) l 0 k hk'
  refine rn6 ?_
  refine zD Z (fun h2 => ?_) (fun h2 => ?_)
  ·refine rn6 ?_
   refine zI hR Z ?_
   have := idxF_take (eqp v) l k hany hk
   rw [zC2 l 0 k hk'] at this
   have h3 : eqp v (l.getD k 0) = true := by simpa [eqp] using h2
   simp only [idxF, h3, if_true] at this
   rw [this]; simp [zCf]
  ·refine rn5 ?_
   have h3 : eqp v (l.getD k 0) = false := by simpa [eqp] using h2
   refine zM ⟨k + 1, ⟨by omega, by rw [hanys, hany, h3]; rfl⟩, by omega, ⟨Z, Z, Z, Z, trivial⟩, Z⟩
 ·have hk' : k = l.length := by omega
  subst hk'
  refine rn5 ?_
  refine zI hR Z ?_
  have := idxF_take (eqp v) l l.length hany hk
  rw [List.drop_length] at this
  rw [this]; rfl
theorem zPF (l : List Int) (g : FuncId) (caps : List AV) (p : Int → Bool) (hc : noRef.noRefs caps = true) (hlen : l.length ≤ 9223372036854775807) (hp : ∀ x ∈ l, zU Tryz.prog g ([.int .i64 x] ++ caps) (.bool (p x))) :
 zU Tryz.prog 147 [.ro (.ints .i64 l) 0 l.length, .fn g caps] (.int .i64 (idxF p l)) := by
 refine zS.value0 (zE (P := Tryz.prog) (fn := Tryz.f147) Z Z (by kernel_rfl) Z (fun c hR hfix => ?_)) (fix := fun _ => False) (fun _ h => h) (by simp [noRef.noRefs, noRef, hc]) Z
 refine rn3 ?_
 refine zh (ι := Nat) (fun k => [(0, .ro (.ints .i64 l) 0 l.length), (1, .fn g caps), (7, .int .i64 (l.length : Nat)), (8, .int .i64 (k : Nat))]) (fun _ => [])
  (fun k => k ≤ l.length ∧ (l.take k).any p = false) (fun k => l.length - k) 0 ⟨⟨rfl, rfl, rfl, rfl, trivial⟩, rfl, Nat.zero_le _, rfl⟩ ?_
 intro k ⟨hk, hany⟩
 refine rn4 ?_
 refine zD Z (fun h => ?_) (fun h => ?_)
 ·have hk' : k < l.length := by omega
  have hanys := zD5 p l 0 k hk'
  refine rn6 ?_
  refine zB Z Z Z (hp _ (zAp 0 hk')) ?_
  refine rn0 ?_
  refine zEk Z (fun h2 => ?_) (fun h2 => ?_)
  ·refine rn6 ?_
   refine zI hR Z ?_
   have := idxF_take p l k hany hk
   rw [zC2 l 0 k hk'] at this
   simp only [idxF, h2, if_true] at this
   rw [this]; simp [zCf]
  ·refine rn5 ?_
   refine zM ⟨k + 1, ⟨by omega, by rw [hanys, hany, h2]; rfl⟩, by omega, ⟨Z, Z, Z, Z, trivial⟩, Z⟩
 ·have hk' : k = l.length := by omega
  subst hk'
  refine rn5 ?_
  refine zI hR Z ?_
  have := idxF_take p l l.length hany hk
  rw [List.drop_length] at this
  rw [this]; rfl
theorem zQv (l : List Int) (g : FuncId) (caps : List AV) (p : Int → Bool) (hc : noRef.noRefs caps = true) (hlen : l.length ≤ 9223372036854775807) (hp : ∀ x ∈ l, zU Tryz.prog g ([.int .i64 x] ++ caps) (.bool (p x))) :
 zU Tryz.prog 86 [.ro (.ints .i64 l) 0 l.length, .fn g caps] (.bool (l.any p)) := by
 refine zS.value0 (zE (P := Tryz.prog) (fn := Tryz.f86) Z Z (by kernel_rfl) Z (fun c hR hfix => ?_)) (fix := fun _ => False) (fun _ h => h) (by simp [noRef.noRefs, noRef, hc]) Z
 refine rn0 ?_
 refine zB Z Z Z (zPF l g caps p hc hlen hp) ?_
 refine rn8 ?_
 refine zI hR Z ?_
 simp only [zCf, zKE]
def notOk (e : Int) : Bool := decide (e ≠ 0)
theorem fine1 (n : Int) : zU Tryz.prog 87 [.int .i64 n] (.bool (notOk n)) := by
 refine zS.value0 (zE (P := Tryz.prog) (fn := Tryz.f87) Z Z (by kernel_rfl) Z (fun c hR hfix => ?_)) (fix := fun _ => False) (fun _ h => h) Z Z
 refine rn3 ?_
 refine zI hR Z ?_
 simp [zCf, notOk]
theorem fineI (l : List Int) (hlen : l.length ≤ 1000) : zU Tryz.prog 24 [.ro (.ints .i64 l) 0 l.length] (.bool (!(l.any notOk))) := by
 refine zS.value0 (zE (P := Tryz.prog) (fn := Tryz.f24) Z Z (by kernel_rfl) Z (fun c hR hfix => ?_)) (fix := fun _ => False) (fun _ h => h) Z Z
 refine rn0 ?_
 refine zB Z Z Z (zQv l 87 [] notOk Z (by omega) (fun x _ => fine1 x)) ?_
 refine rn5 ?_
 exact zI hR Z Z
end Go.Proofs.YtnkealfaldjipaaGreatDoor
namespace Go.Ax.Bg
open Go.Ax.Tb (zBy)
def zFG (s : List UInt8) : Bool := decide (s ≠ []) && s.all dg && (decide (s.getD 0 0 ≠ 48) || decide (s.length = 1))
theorem zD4 {s : List UInt8} : zFG s = true ↔ zHg s := by
 unfold zFG zHg
 simp only [Bool.and_eq_true, Bool.or_eq_true, decide_eq_true_eq, List.all_eq_true, dg_iff]
 constructor
 ·rintro ⟨⟨h1, h2⟩, h3⟩; exact ⟨h1, h2, h3⟩
 ·rintro ⟨h1, h2, h3⟩; exact ⟨⟨h1, h2⟩, h3⟩
def natE (s : List UInt8) : Int := if zFG s = false then 5 else if 2000 < s.length then 2 else 0
theorem zJt {s : List UInt8} (h : zHg s) {k : Nat} (hl : s.length ≤ k) : (zT (zBG 0 s)).length ≤ k := by
 refine zAs (Nat.lt_of_lt_of_le (zJv h.2.1) ?_)
 exact Nat.le_trans (Nat.pow_le_pow_right (by decide) hl) (Nat.pow_le_pow_left (by decide) k)
/-- Texts that are not too long spell numbers below this one. -/
def powT : Nat → Nat
 | 0 => 1
 | k + 1 => 10 * powT k
theorem zPt : ∀ k, powT k = 10 ^ k
 | 0 => rfl
 | k + 1 => by rw [powT, zPt k, Nat.pow_succ, Nat.mul_comm]
def TB : Nat := powT 2000
theorem TB_eq : TB = 10 ^ 2000 := zPt 2000
theorem TB_len {n : Nat} (h : n < TB) : (Lib.decDigits n).length ≤ 2000 := by
 rw [TB_eq] at h
 revert h
 generalize hk : 2000 = k
 intro h
 exact zDL (by omega) h
theorem lt_big {n k : Nat} (h : n < 10 ^ k) (hk : k ≤ 2000) : n < TB := by
 rw [TB_eq]
 revert hk
 generalize 2000 = j
 intro hk
 exact Nat.lt_of_lt_of_le h (Nat.pow_le_pow_right (by decide) hk)
theorem zIC {m n j k : Nat} (hm : m < 10 ^ j) (hn : n < 10 ^ k) : m * n < 10 ^ (j + k) := by
 rw [Nat.pow_add]; exact Nat.mul_lt_mul'' hm hn
theorem add_big {m n k : Nat} (hm : m < 10 ^ k) (hn : n < 10 ^ k) : m + n < 10 ^ (k + 1) := by
 rw [Nat.pow_succ]; omega
/-- Choices. -/
def ch : Nat → Nat → Nat
 | _, 0 => 1
 | 0, _ + 1 => 0
 | n + 1, k + 1 => ch n k + ch n (k + 1)
end Go.Ax.Bg
namespace Go.Proofs.YtnkealfaldjipaaGreatDoor
open Go.Ax Go.Ax.Bg Go.RowKit
open Go.Ax.Tb (zBy zEC zCH zCi)
attribute [local irreducible] Ax zBZ QOp zS
set_option maxRecDepth 100000
set_option maxHeartbeats 4000000
theorem zLb (s : List UInt8) (hs : s.length ≤ 9223372036854775807) : zU Tryz.prog 94 [.str s] (.bool (zFG s)) := by
 have ht := trim_ok s hs
 have hn := trR_nil (s := s)
 have hc : zFG s = (decide (s ≠ []) && s.all dg && (decide (s.getD 0 0 ≠ 48) || decide (s.length = 1))) := rfl
 refine zS.value0 (zE (P := Tryz.prog) (fn := Tryz.f94) Z Z (by kernel_rfl) Z (fun c hR hfix => ?_)) (fix := fun _ => False) (fun _ h => h) Z Z
 generalize trL (trR s) = u at *
 generalize zFG s = b at *
 by_cases h0 : s = []
 ·subst h0
  refine rn18 ?_
  refine zI hR Z ?_
  rw [hc]; rfl
 have hlen : 0 < s.length := List.length_pos_iff.2 h0
 refine zJl ?_
 refine zAt Z Z (fun h1 => ?_) (fun h1 => absurd h0 h1)
 refine rn2 ?_
 refine zB Z Z Z ht ?_
 refine rn6 ?_
 refine zAt Z Z (fun h2 => ?_) (fun h2 => ?_)
 ·have ha : s.all dg = true := hn.1 h2
  rw [decide_eq_true h0, ha, Bool.true_and, Bool.true_and] at hc
  refine zEg ?_
  refine zAt Z Z (fun h3 => ?_) (fun h3 => ?_)
  ·have h4 : decide (s.getD 0 0 ≠ 48) = true := decide_eq_true (fun e => h3 (by simp only [Int.toNat_zero]; rw [e]; rfl))
   rw [h4, Bool.true_or] at hc
   refine rn6 ?_
   refine zI hR Z ?_
   rw [hc]; rfl
  ·have h5 : s.getD 0 0 = 48 := by
    simp only [Int.toNat_zero] at h3
    apply UInt8.toNat_inj.1
    have : ((s.getD 0 0).toNat : Int) = 48 := by omega
    show (s.getD 0 0).toNat = 48
    omega
   have h4 : decide (s.getD 0 0 ≠ 48) = false := decide_eq_false (fun e => e h5)
   rw [h4, Bool.false_or] at hc
   refine rn6 ?_
   refine zI hR Z ?_
   rw [hc]
   show AV.bool (decide ((s.length : Int) = 1)) = _
   congr 1
   rw [decide_eq_decide]; omega
 ·have ha : s.all dg = false := by
   cases hq : s.all dg with
   | false => rfl
   | true => exact absurd (hn.2 hq) h2
  rw [ha, Bool.and_false, Bool.false_and] at hc
  refine rn18 ?_
  refine zI hR Z ?_
  rw [hc]; rfl
def zGz (p : List UInt8 × Int) : AV := .tup [.str p.1, .int .i64 p.2]
theorem zJy {a b k : Nat} (ha : (zT a).length ≤ k) (hb : (zT b).length ≤ k) : (zT (a * b)).length ≤ k + k := by
 have h1 := zA2 (zAY a)
 have h2 := zA2 (zAY b)
 rw [zAH] at h1 h2
 refine zAs ?_
 rw [Nat.pow_add]
 refine Nat.mul_lt_mul'' (Nat.lt_of_lt_of_le h1 (Nat.pow_le_pow_right (by decide) ha)) (Nat.lt_of_lt_of_le h2 (Nat.pow_le_pow_right (by decide) hb))
theorem len_add {a b k : Nat} (ha : (zT a).length ≤ k) (hb : (zT b).length ≤ k) : (zT (a + b)).length ≤ k + 1 := by
 have h1 := zA2 (zAY a)
 have h2 := zA2 (zAY b)
 rw [zAH] at h1 h2
 refine zAs ?_
 have h3 : B ^ (zT a).length ≤ B ^ k := Nat.pow_le_pow_right (by decide) ha
 have h4 : B ^ (zT b).length ≤ B ^ k := Nat.pow_le_pow_right (by decide) hb
 rw [Nat.pow_succ]
 have : B ^ k * 2 ≤ B ^ k * B := Nat.mul_le_mul_left _ (by decide)
 omega
end Go.Proofs.YtnkealfaldjipaaGreatDoor
namespace Go.Ax.Rt
open Go.Ax.Bg
/-- The quotient of integers, its parts. -/
theorem zLK (n : Int) (d : Nat) (hd : d ≠ 0) : (Rat.divInt n d).num.natAbs = n.natAbs / Nat.gcd n.natAbs d ∧ (Rat.divInt n d).den = d / Nat.gcd n.natAbs d ∧ ((Rat.divInt n d).num < 0 ↔ n < 0) := by
 have e : Rat.divInt n d = Rat.normalize n d hd := by rw [Rat.divInt_ofNat, ← Rat.normalize_eq_mkRat]
 have hg : 0 < Nat.gcd n.natAbs d := Nat.gcd_pos_of_pos_right _ (by omega)
 have hdv : (Nat.gcd n.natAbs d : Int) ∣ n := by
  rw [Int.ofNat_dvd_left]; exact Nat.gcd_dvd_left _ _
 rw [e, Rat.num_normalize, Rat.den_normalize]
 obtain ⟨q, hq⟩ := hdv
 generalize Nat.gcd n.natAbs d = g at *
 refine ⟨?_, Z, ?_⟩
 ·rw [hq, Int.mul_ediv_cancel_left _ (by omega), Int.natAbs_mul, Int.natAbs_natCast, Nat.mul_div_cancel_left _ hg]
 ·rw [hq, Int.mul_ediv_cancel_left _ (by omega)]
  constructor
  ·intro h; exact Int.mul_neg_of_pos_of_neg (by omega) h
  ·intro h
   rcases Int.lt_or_le q 0 with z | z
   ·exact z
   ·exact absurd h (Int.not_lt.2 (Int.mul_nonneg (by omega) z))
theorem zHu (n d : Int) (hd : d ≠ 0) : (Rat.divInt n d).num.natAbs = n.natAbs / Nat.gcd n.natAbs d.natAbs ∧ (Rat.divInt n d).den = d.natAbs / Nat.gcd n.natAbs d.natAbs ∧ ((Rat.divInt n d).num < 0 ↔ n ≠ 0 ∧ ((n < 0 ∧ ¬ d < 0) ∨ (¬ n < 0 ∧ d < 0))) := by
 rcases Int.lt_or_le d 0 with h | h
 ·obtain ⟨m, rfl⟩ : ∃ m : Nat, d = -(m : Int) := ⟨d.natAbs, by omega⟩
  have e : Rat.divInt n (-(m : Int)) = Rat.divInt (-n) m := Rat.divInt_neg' n m
  obtain ⟨h1, h2, h3⟩ := zLK (-n) m (by omega)
  rw [e]
  rw [Int.natAbs_neg] at h1 h2
  rw [Int.natAbs_neg, Int.natAbs_natCast]
  exact ⟨h1, h2, h3.trans (by omega)⟩
 ·obtain ⟨m, rfl⟩ : ∃ m : Nat, d = (m : Int) := ⟨d.natAbs, by omega⟩
  obtain ⟨h1, h2, h3⟩ := zLK n m (by omega)
  rw [Int.natAbs_natCast]
  exact ⟨h1, h2, h3.trans (by omega)⟩
theorem zK1 (p q : Rat) : Rat.divInt (p.num * q.den + q.num * p.den) ((p.den * q.den : Nat) : Int) = p + q := by
 rw [Rat.add_def', Rat.divInt_ofNat]
theorem zNP (p q : Rat) : Rat.divInt (p.num * q.num) ((p.den * q.den : Nat) : Int) = p * q := by
 rw [Rat.mul_def', Rat.divInt_ofNat]
def sgn (x : Int) : Int := if x < 0 then -1 else if x = 0 then 0 else 1
def zD0 (p q : Rat) : Int := if p < q then -1 else if p = q then 0 else 1
theorem sgn_cmp (p q : Rat) : sgn (p.num * q.den - q.num * p.den) = zD0 p q := by
 unfold sgn zD0
 have h1 : p < q ↔ p.num * q.den - q.num * p.den < 0 := by rw [Rat.lt_iff]; omega
 have h2 : p = q ↔ p.num * q.den - q.num * p.den = 0 := by rw [Rat.eq_iff_mul_eq_mul]; omega
 simp only [h1, h2]
def zEm (b : Bool) (n : Nat) : Int := if b then -(n : Int) else n
theorem zFK (b : Bool) (n : Nat) : (zEm b n).natAbs = n := by unfold zEm; split <;> omega
theorem zKH (b : Bool) (n : Nat) : decide (zEm b n < 0) = (b && decide (n ≠ 0)) := by
 unfold zEm
 cases b
 ·simp <;> try omega
 ·simp only [if_true, Bool.true_and]
  rw [decide_eq_decide]; omega
theorem zRC (x : Int) : zEm (decide (x < 0)) x.natAbs = x := by
 unfold zEm
 by_cases h : x < 0
 ·simp [h]; omega
 ·simp [h]; omega
end Go.Ax.Rt
namespace Go.Proofs.YtnkealfaldjipaaGreatDoor
open Go.Ax Go.Ax.Bg Go.Ax.Rt Go.RowKit
attribute [local irreducible] Ax zBZ QOp zS zBC
set_option maxRecDepth 100000
set_option maxHeartbeats 4000000
def zBD (x : Int) : AV := .agg [.bool (decide (x < 0)), zf x.natAbs]
theorem zFa (b : Bool) (n : Nat) : zU Tryz.prog 148 [.bool b, zf n] (zBD (zEm b n)) := by
 have hp : 0 < (zT n).length ↔ n ≠ 0 := zCV
 have hr : zBD (zEm b n) = .agg [.bool (b && decide (n ≠ 0)), zf n] := by unfold zBD; rw [zFK, zKH]
 rw [hr]
 refine zS.value0 (zE (P := Tryz.prog) (fn := Tryz.f148) Z Z (by kernel_rfl) Z (fun c hR hfix => ?_)) (fix := fun _ => False) (fun _ h => h) Z Z
 unfold zf at hR ⊢
 cases b
 ·repeat (first | refine zG (zL rfl) ?_ | refine zP ?_ | refine zF ?_ | refine z8 ?_ | refine zV rfl ?_ | refine zCt rfl rfl rfl ?_ | refine zG (zAb rfl rfl) ?_ | refine zG (zA0 rfl rfl rfl rfl rfl rfl) ?_ | refine zBV rfl rfl rfl ?_)
  refine zN (c' := .box [.bool false, .ro (.ints .u32 (zT n)) 0 (zT n).length]) Z Z Z Z Z Nat.zero_lt_one Z Z (fun i' j' hi' hj' => ?_) ?_
  ·rw [if_pos (Nat.lt_one_iff.1 hi')]; rfl
  refine rn0 ?_
  exact zI hR Z Z
 ·repeat (first | refine zG (zL rfl) ?_ | refine zP ?_ | refine zF ?_ | refine z8 ?_ | refine zV rfl ?_ | refine zAo rfl rfl ?_ | refine zG (zK5 rfl rfl) ?_ | refine zG (zAb rfl rfl) ?_ | refine zG (zA5 rfl rfl rfl) ?_ | refine zG (zA0 rfl rfl rfl rfl rfl rfl) ?_ | refine zBV rfl rfl rfl ?_)
  have e : decide (0 < ((zT n).length : Int)) = decide (n ≠ 0) := by rw [decide_eq_decide, ← hp]; omega
  refine zN (c' := .box [.bool (decide (n ≠ 0)), .ro (.ints .u32 (zT n)) 0 (zT n).length]) Z Z Z Z Z Nat.zero_lt_one Z Z (fun i' j' hi' hj' => ?_) ?_
  ·rw [if_pos (Nat.lt_one_iff.1 hi'), ← e]; rfl
  refine rn0 ?_
  exact zI hR Z Z
theorem mul_sgn (x y : Int) : zEm (!(decide (x < 0) == decide (y < 0))) (x.natAbs * y.natAbs) = x * y := by
 have h : (x * y).natAbs = x.natAbs * y.natAbs := Int.natAbs_mul x y
 unfold zEm
 rcases Int.lt_trichotomy x 0 with hx | hx | hx <;> rcases Int.lt_trichotomy y 0 with hy | hy | hy
 ·have := Int.mul_pos_of_neg_of_neg hx hy
  simp only [hx, hy]; simp; omega
 ·subst hy; simp
 ·have := Int.mul_neg_of_neg_of_pos hx hy
  simp only [hx, show ¬ y < 0 by omega]; simp; omega
 ·subst hx; simp
 ·subst hx; simp
 ·subst hx; simp
 ·have := Int.mul_neg_of_pos_of_neg hx hy
  simp only [hy, show ¬ x < 0 by omega]; simp; omega
 ·subst hy; simp
 ·have := Int.mul_pos hx hy
  simp only [show ¬ x < 0 by omega, show ¬ y < 0 by omega]; simp; omega
theorem zC1 (x y : Int) (hx : (zT x.natAbs).length ≤ 1000000) (hy : (zT y.natAbs).length ≤ 1000000) : zU Tryz.prog 144 [zBD x, zBD y] (zBD (x * y)) := by
 have h1 := zMn x.natAbs y.natAbs (by omega) (by omega)
 have h2 := zFa (!(decide (x < 0) == decide (y < 0))) (x.natAbs * y.natAbs)
 rw [mul_sgn] at h2
 refine zS.value0 (zE (P := Tryz.prog) (fn := Tryz.f144) Z Z (by kernel_rfl) Z (fun c hR hfix => ?_)) (fix := fun _ => False) (fun _ h => h) Z Z
 refine rn6 ?_
 refine zo (by kernel_rfl) ?_
 refine zv (fuel := 1) [0, 1, 2, 3, 4, 5, 6, 7, 8, 9, 10] [(2, .ptr 0 0 0), (3, .ptr 1 0 0), (4, .ptr 2 0 0)] ⟨Z, Z, Z, trivial⟩ (by kernel_rfl) (by decide) Z Z ?_
 refine zK Z Z (zJ Z Z Z Z Z Z) ?_
 refine zK Z Z (zQ Z Z Z Z Z) ?_
 refine zK Z Z (zJ Z Z Z Z Z Z) ?_
 refine zK Z Z (zQ Z Z Z Z Z) ?_
 refine zK Z Z (zJO Z Z Z) ?_
 refine zK Z Z (zJ Z Z Z Z Z Z) ?_
 refine zK Z Z (zQ Z Z Z Z Z) ?_
 refine zK Z Z (zJ Z Z Z Z Z Z) ?_
 refine zK Z Z (zQ Z Z Z Z Z) ?_
 refine zAc Z Z Z Z Z h1 ?_
 refine zAc Z Z Z Z Z h2 ?_
 refine zz ?_
 refine zH (is := [11]) (by kernel_rfl) (by simp) Z ⟨fun o ho => ?_, trivial⟩
 all_goals (cases ho)
 skip
 unfold zBD zf
 refine zN (c' := .box [.bool (decide (x * y < 0)), .ro (.ints .u32 (zT (x * y).natAbs)) 0 (zT (x * y).natAbs).length]) Z Z Z Z Z Nat.zero_lt_one Z Z (fun i' j' hi' hj' => ?_) ?_
 ·rw [if_pos (Nat.lt_one_iff.1 hi')]; rfl
 refine rn1 ?_
 refine zX (by kernel_rfl) ?_
 refine rn0 ?_
 exact zI hR Z Z
theorem opp_sgn (x : Int) : zEm (!decide (x < 0)) x.natAbs = -x := by
 unfold zEm
 by_cases h : x < 0
 ·simp [h]; omega
 ·simp [h]; omega
theorem zGZ (x : Int) : zU Tryz.prog 140 [zBD x] (zBD (-x)) := by
 have h2 := zFa (!decide (x < 0)) x.natAbs
 rw [opp_sgn] at h2
 refine zS.value0 (zE (P := Tryz.prog) (fn := Tryz.f140) Z Z (by kernel_rfl) Z (fun c hR hfix => ?_)) (fix := fun _ => False) (fun _ h => h) Z Z
 refine rn6 ?_
 refine zB Z Z Z h2 ?_
 skip
 unfold zBD
 refine zN (c' := .box [.bool (decide (-x < 0)), zf (-x).natAbs]) Z Z Z Z Z Nat.zero_lt_one Z Z (fun i' j' hi' hj' => ?_) ?_
 ·rw [if_pos (Nat.lt_one_iff.1 hi')]; rfl
 refine rn0 ?_
 exact zI hR Z Z
theorem zED (x : Int) : zU Tryz.prog 159 [zBD x] (.int .i64 (sgn x)) := by
 have hp : 0 < (zT x.natAbs).length ↔ x.natAbs ≠ 0 := zCV
 unfold sgn
 refine zS.value0 (zE (P := Tryz.prog) (fn := Tryz.f159) Z Z (by kernel_rfl) Z (fun c hR hfix => ?_)) (fix := fun _ => False) (fun _ h => h) Z Z
 unfold zBD zf
 rcases Int.lt_trichotomy x 0 with h | h | h
 ·have e : decide (x < 0) = true := decide_eq_true h
  rw [e]
  rw [if_pos h] at hR
  refine rn6 ?_
  refine zD Z (fun h0 => absurd h0 (by omega)) (fun h0 => ?_)
  refine rn6 ?_
  exact zI hR Z Z
 ·subst h
  rw [if_neg (by omega), if_pos rfl] at hR
  have e0 : zT (0 : Int).natAbs = [] := zB9
  rw [e0]
  refine rn6 ?_
  exact zI hR Z Z
 ·have e : decide (x < 0) = false := decide_eq_false (by omega)
  rw [e]
  rw [if_neg (by omega), if_neg (by omega)] at hR
  refine rn6 ?_
  refine zD Z (fun h0 => absurd h0 (by omega)) (fun h0 => ?_)
  refine rn5 ?_
  exact zI hR Z Z
theorem add_sgn1 (x y : Int) (h : decide (x < 0) = decide (y < 0)) : zEm (decide (x < 0)) (x.natAbs + y.natAbs) = x + y := by
 unfold zEm
 rw [decide_eq_decide] at h
 by_cases h1 : x < 0
 ·simp [h1]; omega
 ·simp [h1]; omega
theorem add_sgn2 (x y : Int) (h : ¬ decide (x < 0) = decide (y < 0)) (h2 : y.natAbs ≤ x.natAbs) : zEm (decide (x < 0)) (x.natAbs - y.natAbs) = x + y := by
 unfold zEm
 rw [decide_eq_decide] at h
 by_cases h1 : x < 0
 ·simp [h1]; omega
 ·simp [h1]; omega
theorem add_sgn3 (x y : Int) (h : ¬ decide (x < 0) = decide (y < 0)) (h2 : ¬ y.natAbs ≤ x.natAbs) : zEm (decide (y < 0)) (y.natAbs - x.natAbs) = x + y := by
 unfold zEm
 rw [decide_eq_decide] at h
 by_cases h1 : y < 0
 ·simp [h1]; omega
 ·simp [h1]; omega
theorem zPv {x y : Int} : 0 ≤ zEM x y ↔ y ≤ x := by
 unfold zEM
 split
 ·omega
 ·split <;> omega
theorem zMl (x y : Int) (hx : (zT x.natAbs).length ≤ 1000000) (hy : (zT y.natAbs).length ≤ 1000000) : zU Tryz.prog 151 [zBD x, zBD y] (zBD (x + y)) := by
 by_cases h : decide (x < 0) = decide (y < 0)
 ·have h1 := add_ok x.natAbs y.natAbs (by omega) (by omega)
  have h2 := zFa (decide (x < 0)) (x.natAbs + y.natAbs)
  rw [add_sgn1 x y h] at h2
  refine zS.value0 (zE (P := Tryz.prog) (fn := Tryz.f151) Z Z (by kernel_rfl) Z (fun c hR hfix => ?_)) (fix := fun _ => False) (fun _ h => h) Z Z
  unfold zBD at hR ⊢
  repeat (first | refine zP ?_ | refine zF ?_ | refine z8 ?_ | refine zV rfl ?_ | refine zG (zQ rfl rfl rfl rfl rfl) ?_ | refine zG (zJ rfl rfl rfl rfl rfl rfl) ?_ | refine zG (zKO rfl rfl rfl) ?_ | refine zGH rfl rfl ?_ | refine zBV rfl rfl rfl ?_)
  refine zAN 9 (.bool true) Z (AEq.of_eq (by rw [h]; simp)) ?_
  refine rn5 ?_
  refine zo (by kernel_rfl) ?_
  refine zv (fuel := 1) [0, 1, 2, 3, 4, 5, 6, 7] [(2, .ptr 0 0 0), (3, .ptr 1 0 0), (4, .ptr 2 0 0)] ⟨Z, Z, Z, trivial⟩ (by kernel_rfl) (by decide) Z Z ?_
  refine zK Z Z (zJ Z Z Z Z Z Z) ?_
  refine zK Z Z (zQ Z Z Z Z Z) ?_
  refine zK Z Z (zJ Z Z Z Z Z Z) ?_
  refine zK Z Z (zQ Z Z Z Z Z) ?_
  refine zK Z Z (zJ Z Z Z Z Z Z) ?_
  refine zK Z Z (zQ Z Z Z Z Z) ?_
  refine zAc Z Z Z Z Z h1 ?_
  refine zAc Z Z Z Z Z h2 ?_
  refine zz ?_
  refine zH (is := [8]) (by kernel_rfl) (by simp) Z ⟨fun o ho => ?_, trivial⟩
  all_goals (cases ho)
  skip
  unfold zBD
  refine zN (c' := .box [.bool (decide (x + y < 0)), zf (x + y).natAbs]) Z Z Z Z Z Nat.zero_lt_one Z Z (fun i' j' hi' hj' => ?_) ?_
  ·rw [if_pos (Nat.lt_one_iff.1 hi')]; rfl
  refine rn1 ?_
  refine zX (by kernel_rfl) ?_
  refine rn2 ?_
  exact zI hR Z Z
 ·have h0 := zL6 x.natAbs y.natAbs (by omega) (by omega)
  by_cases hc : y.natAbs ≤ x.natAbs
  ·have h1 := sub_ok x.natAbs y.natAbs hc (by omega)
   have h2 := zFa (decide (x < 0)) (x.natAbs - y.natAbs)
   rw [add_sgn2 x y h hc] at h2
   refine zS.value0 (zE (P := Tryz.prog) (fn := Tryz.f151) Z Z (by kernel_rfl) Z (fun c hR hfix => ?_)) (fix := fun _ => False) (fun _ h => h) Z Z
   unfold zBD at hR ⊢
   repeat (first | refine zP ?_ | refine zF ?_ | refine z8 ?_ | refine zV rfl ?_ | refine zG (zQ rfl rfl rfl rfl rfl) ?_ | refine zG (zJ rfl rfl rfl rfl rfl rfl) ?_ | refine zG (zKO rfl rfl rfl) ?_ | refine zGH rfl rfl ?_ | refine zBV rfl rfl rfl ?_)
   refine zAN 9 (.bool false) Z (AEq.of_eq (by rw [beq_eq_false_iff_ne.2 h])) ?_
   refine rn5 ?_
   refine zB Z Z Z h0 ?_
   refine rn8 ?_
   refine zD Z (fun h5 => ?_) (fun h5 => absurd (zPv.2 (Int.ofNat_le.2 hc)) h5)
   repeat (refine z8 ?_)
   refine zo (by kernel_rfl) ?_
   refine zv (fuel := 1) [0, 1, 2, 3, 4, 5, 6, 7] [(2, .ptr 0 0 0), (3, .ptr 1 0 0), (4, .ptr 2 0 0)] ⟨Z, Z, Z, trivial⟩ (by kernel_rfl) (by decide) Z Z ?_
   refine zK Z Z (zJ Z Z Z Z Z Z) ?_
   refine zK Z Z (zQ Z Z Z Z Z) ?_
   refine zK Z Z (zJ Z Z Z Z Z Z) ?_
   refine zK Z Z (zQ Z Z Z Z Z) ?_
   refine zK Z Z (zJ Z Z Z Z Z Z) ?_
   refine zK Z Z (zQ Z Z Z Z Z) ?_
   refine zAc Z Z Z Z Z h1 ?_
   refine zAc Z Z Z Z Z h2 ?_
   refine zz ?_
   refine zH (is := [8]) (by kernel_rfl) (by simp) Z ⟨fun o ho => ?_, trivial⟩
   all_goals (cases ho)
   skip
   unfold zBD
   refine zN (c' := .box [.bool (decide (x + y < 0)), zf (x + y).natAbs]) Z Z Z Z Z Nat.zero_lt_one Z Z (fun i' j' hi' hj' => ?_) ?_
   ·rw [if_pos (Nat.lt_one_iff.1 hi')]; rfl
   refine rn1 ?_
   refine zX (by kernel_rfl) ?_
   refine rn2 ?_
   exact zI hR Z Z
  ·have h1 := sub_ok y.natAbs x.natAbs (by omega) (by omega)
   have h2 := zFa (decide (y < 0)) (y.natAbs - x.natAbs)
   rw [add_sgn3 x y h hc] at h2
   refine zS.value0 (zE (P := Tryz.prog) (fn := Tryz.f151) Z Z (by kernel_rfl) Z (fun c hR hfix => ?_)) (fix := fun _ => False) (fun _ h => h) Z Z
   unfold zBD at hR ⊢
   repeat (first | refine zP ?_ | refine zF ?_ | refine z8 ?_ | refine zV rfl ?_ | refine zG (zQ rfl rfl rfl rfl rfl) ?_ | refine zG (zJ rfl rfl rfl rfl rfl rfl) ?_ | refine zG (zKO rfl rfl rfl) ?_ | refine zGH rfl rfl ?_ | refine zBV rfl rfl rfl ?_)
   refine zAN 9 (.bool false) Z (AEq.of_eq (by rw [beq_eq_false_iff_ne.2 h])) ?_
   refine rn5 ?_
   refine zB Z Z Z h0 ?_
   refine rn8 ?_
   refine zD Z (fun h5 => absurd (Int.ofNat_le.1 (zPv.1 h5)) hc) (fun h5 => ?_)
   refine rn1 ?_
   refine zo (by kernel_rfl) ?_
   refine zv (fuel := 1) [0, 1, 2, 3, 4, 5, 6, 7] [(2, .ptr 0 0 0), (3, .ptr 1 0 0), (4, .ptr 2 0 0)] ⟨Z, Z, Z, trivial⟩ (by kernel_rfl) (by decide) Z Z ?_
   refine zK Z Z (zJ Z Z Z Z Z Z) ?_
   refine zK Z Z (zQ Z Z Z Z Z) ?_
   refine zK Z Z (zJ Z Z Z Z Z Z) ?_
   refine zK Z Z (zQ Z Z Z Z Z) ?_
   refine zK Z Z (zJ Z Z Z Z Z Z) ?_
   refine zK Z Z (zQ Z Z Z Z Z) ?_
   refine zAc Z Z Z Z Z h1 ?_
   refine zAc Z Z Z Z Z h2 ?_
   refine zz ?_
   refine zH (is := [8]) (by kernel_rfl) (by simp) Z ⟨fun o ho => ?_, trivial⟩
   all_goals (cases ho)
   skip
   unfold zBD
   refine zN (c' := .box [.bool (decide (x + y < 0)), zf (x + y).natAbs]) Z Z Z Z Z Nat.zero_lt_one Z Z (fun i' j' hi' hj' => ?_) ?_
   ·rw [if_pos (Nat.lt_one_iff.1 hi')]; rfl
   refine rn1 ?_
   refine zX (by kernel_rfl) ?_
   refine rn0 ?_
   exact zI hR Z Z
theorem len_neg {x : Int} {k : Nat} (h : (zT x.natAbs).length ≤ k) : (zT (-x).natAbs).length ≤ k := by rw [Int.natAbs_neg]; exact h
theorem zMh (x y : Int) (hx : (zT x.natAbs).length ≤ 1000000) (hy : (zT y.natAbs).length ≤ 1000000) : zU Tryz.prog 188 [zBD x, zBD y] (zBD (x - y)) := by
 have h1 := zGZ y
 have h2 := zMl x (-y) hx (len_neg hy)
 rw [show x + -y = x - y from rfl] at h2
 refine zS.value0 (zE (P := Tryz.prog) (fn := Tryz.f188) Z Z (by kernel_rfl) Z (fun c hR hfix => ?_)) (fix := fun _ => False) (fun _ h => h) Z Z
 refine rn6 ?_
 refine zo (by kernel_rfl) ?_
 refine zv (fuel := 1) [0, 1, 2, 3] [(2, .ptr 0 0 0), (3, .ptr 1 0 0), (4, .ptr 2 0 0)] ⟨Z, Z, Z, trivial⟩ (by kernel_rfl) (by decide) Z Z ?_
 refine zK Z Z (zu Z Z Z Z Z Z Z (by first | exact Nat.zero_lt_one | assumption | omega)) ?_
 refine zK Z Z (zu Z Z Z Z Z Z Z (by first | exact Nat.zero_lt_one | assumption | omega)) ?_
 refine zAc Z Z Z Z Z h1 ?_
 refine zAc Z Z Z Z Z h2 ?_
 refine zz ?_
 refine zH (is := [4]) (by kernel_rfl) (by simp) Z ⟨fun o ho => ?_, trivial⟩
 all_goals (cases ho)
 skip
 unfold zBD
 refine zN (c' := .box [.bool (decide (x - y < 0)), zf (x - y).natAbs]) Z Z Z Z Z Nat.zero_lt_one Z Z (fun i' j' hi' hj' => ?_) ?_
 ·rw [if_pos (Nat.lt_one_iff.1 hi')]; rfl
 refine rn1 ?_
 refine zX (by kernel_rfl) ?_
 refine rn0 ?_
 exact zI hR Z Z
theorem zPj (x y : Int) (hx : (zT x.natAbs).length ≤ 1000000) (hy : (zT y.natAbs).length ≤ 1000000) : zU Tryz.prog 145 [zBD x, zBD y] (.int .i64 (sgn (x - y))) := by
 have h1 := zMh x y hx hy
 have h2 := zED (x - y)
 refine zS.value0 (zE (P := Tryz.prog) (fn := Tryz.f145) Z Z (by kernel_rfl) Z (fun c hR hfix => ?_)) (fix := fun _ => False) (fun _ h => h) Z Z
 refine rn6 ?_
 refine zB Z Z Z h1 ?_
 skip
 refine zB Z Z Z h2 ?_
 refine rn0 ?_
 exact zI hR Z Z
theorem zKe (n : Int) (h : -9223372036854775808 ≤ n ∧ n < 9223372036854775808) : zU Tryz.prog 146 [.int .i64 n] (zBD n) := by
 refine zS.value0 (zE (P := Tryz.prog) (fn := Tryz.f146) Z Z (by kernel_rfl) Z (fun c hR hfix => ?_)) (fix := fun _ => False) (fun _ h => h) Z Z
 rcases Int.lt_or_le n 0 with hn | hn
 ·have h1 := zG2 n.natAbs (by omega)
  refine rn4 ?_
  refine zD Z (fun _ => ?_) (fun h0 => absurd hn h0)
  refine rn3 ?_
  refine zG (q_neg Z (by omega)) ?_
  refine zA 7 (.int .i64 ((n.natAbs - 1 : Nat) : Int)) Z (AEq.of_eq (congrArg _ (by omega))) ?_
  refine zG (zAZ (m := n.natAbs - 1) Z Z Z zBe (by omega)) ?_
  refine zG (zFm (m := n.natAbs - 1) (n := 1) Z Z zBe (by omega)) ?_
  refine zA 9 (.int .u64 ((n.natAbs : Nat) : Int)) Z (AEq.of_eq (congrArg _ (by omega))) ?_
  skip
  refine zB Z Z Z h1 ?_
  repeat (refine zG (zA0 rfl rfl rfl rfl rfl rfl) ?_)
  refine zN (c' := .box [.bool true, zf n.natAbs]) Z Z Z Z Z Nat.zero_lt_one Z Z (fun i' j' hi' hj' => ?_) ?_
  ·rw [if_pos (Nat.lt_one_iff.1 hi')]; rfl
  refine rn2 ?_
  refine zI hR Z ?_
  unfold zBD
  rw [show decide (n < 0) = true from decide_eq_true hn]
  rfl
 ·have h1 := zG2 n.natAbs (by omega)
  refine rn4 ?_
  refine zD Z (fun h0 => absurd h0 (by omega)) (fun h0 => ?_)
  refine rn1 ?_
  refine zA 12 (.int .i64 ((n.natAbs : Nat) : Int)) Z (AEq.of_eq (congrArg _ (by omega))) ?_
  refine zG (zAZ (m := n.natAbs) Z Z Z zBe (by omega)) ?_
  skip
  refine zB Z Z Z h1 ?_
  repeat (refine zG (zA0 rfl rfl rfl rfl rfl rfl) ?_)
  refine zN (c' := .box [.bool false, zf n.natAbs]) Z Z Z Z Z Nat.zero_lt_one Z Z (fun i' j' hi' hj' => ?_) ?_
  ·rw [if_pos (Nat.lt_one_iff.1 hi')]; rfl
  refine rn0 ?_
  refine zI hR Z ?_
  unfold zBD
  rw [show decide (n < 0) = false from decide_eq_false (by omega)]
  rfl
def qA (q : Rat) : AV := .agg [.bool (decide (q.num < 0)), zf q.num.natAbs, zf q.den]
theorem zJ3 (n : Nat) : zBD (n : Int) = .agg [.bool false, zf n] := by
 unfold zBD
 rw [show decide ((n : Int) < 0) = false from decide_eq_false (by omega), Int.natAbs_natCast]
theorem bne_iff {x y z : Int} (h : z < 0 ↔ x ≠ 0 ∧ ((x < 0 ∧ ¬ y < 0) ∨ (¬ x < 0 ∧ y < 0))) (hz : x = 0 → z = 0) : zEm (!(decide (x < 0) == decide (y < 0))) z.natAbs = z := by
 unfold zEm
 by_cases h1 : x < 0 <;> by_cases h2 : y < 0
 ·simp [h1, h2]; have : ¬ z < 0 := fun q => by have := h.1 q; omega
  omega
 ·simp [h1, h2]; have : z < 0 := h.2 (by omega)
  omega
 ·simp [h1, h2]
  rcases Int.lt_or_le z 0 with q | q
  ·omega
  ·have : x = 0 := by
    rcases Int.lt_trichotomy x 0 with w | w | w
    ·exact absurd w h1
    ·exact w
    ·exact absurd (h.2 ⟨by omega, .inr ⟨h1, h2⟩⟩) (by omega)
   have := hz this
   omega
 ·simp [h1, h2]; have : ¬ z < 0 := fun q => by have := h.1 q; omega
  omega
theorem gcd_len {a b k : Nat} (ha : (zT a).length ≤ k) (hb : (zT b).length ≤ k) : (zT (Nat.gcd a b)).length ≤ k := by
 rcases Nat.eq_zero_or_pos a with h | h
 ·subst h; rw [Nat.gcd_zero_left]; exact hb
 ·exact zFQ (Nat.gcd_le_left b h) ha
theorem zIV (n d : Int) (hd : d ≠ 0) (hn : (zT n.natAbs).length ≤ 1000000) (hdl : (zT d.natAbs).length ≤ 1000000) : zU Tryz.prog 150 [zBD n, zBD d] (qA (Rat.divInt n d)) := by
 obtain ⟨e1, e2, e3⟩ := zHu n d hd
 have hg := zOI n.natAbs d.natAbs hn hdl
 have hgl := gcd_len hn hdl
 have hgp : 0 < Nat.gcd n.natAbs d.natAbs := Nat.gcd_pos_of_pos_right _ (by omega)
 have h1 := zJL n.natAbs _ hgp hn hgl
 have h2 := zJL d.natAbs _ hgp hdl hgl
 have h3 := zFa (!(decide (n < 0) == decide (d < 0))) (Rat.divInt n d).num.natAbs
 rw [bne_iff e3 (fun h0 => by rw [h0, Rat.zero_divInt]; rfl)] at h3
 rw [← e1] at h1
 rw [← e2] at h2
 refine zS.value0 (zE (P := Tryz.prog) (fn := Tryz.f150) Z Z (by kernel_rfl) Z (fun c hR hfix => ?_)) (fix := fun _ => False) (fun _ h => h) Z Z
 refine rn6 ?_
 refine zB Z Z Z hg ?_
 refine rn5 ?_
 refine zB Z Z Z h1 ?_
 refine rn5 ?_
 refine zB Z Z Z h2 ?_
 repeat (first | refine zG (zL rfl) ?_ | refine zG (zi rfl) ?_ | refine zP ?_ | refine zF ?_ | refine z8 ?_ | refine zV rfl ?_ | refine zG (zQ rfl rfl rfl rfl rfl) ?_ | refine zG (zBz rfl rfl) ?_ | refine zG (zJ rfl rfl rfl rfl rfl rfl) ?_ | refine zG (zJO rfl rfl rfl) ?_)
 refine zB Z Z Z h3 ?_
 refine zGh ?_
 refine zN (c' := .box [.bool (decide ((Rat.divInt n d).num < 0)), zf (Rat.divInt n d).num.natAbs, zf (Rat.divInt n d).den]) Z Z Z Z Z Nat.zero_lt_one Z Z (fun i' j' hi' hj' => ?_) ?_
 ·rw [if_pos (Nat.lt_one_iff.1 hi')]; rfl
 refine rn0 ?_
 exact zI hR Z Z
def Sz (k : Nat) (q : Rat) : Prop := (zT q.num.natAbs).length ≤ k ∧ (zT q.den).length ≤ k
theorem zE2 {x y : Int} {k : Nat} (hx : (zT x.natAbs).length ≤ k) (hy : (zT y.natAbs).length ≤ k) : (zT (x * y).natAbs).length ≤ k + k := by
 rw [Int.natAbs_mul]; exact zJy hx hy
theorem zNg {x y : Int} {k : Nat} (hx : (zT x.natAbs).length ≤ k) (hy : (zT y.natAbs).length ≤ k) : (zT (x + y).natAbs).length ≤ k + 1 :=
 zFQ (Int.natAbs_add_le x y) (len_add hx hy)
theorem zPs (p q : Rat) (hp : Sz 100000 p) (hq : Sz 100000 q) : zU Tryz.prog 91 [qA p, qA q] (qA (p + q)) := by
 have l1 : (zT (q.den : Int).natAbs).length ≤ 100000 := hq.2
 have l2 : (zT (p.den : Int).natAbs).length ≤ 100000 := hp.2
 have h1 := zC1 p.num q.den (by have := hp.1; omega) (by omega)
 have h2 := zC1 q.num p.den (by have := hq.1; omega) (by omega)
 have m1 := zE2 hp.1 l1
 have m2 := zE2 hq.1 l2
 have h3 := zMl (p.num * q.den) (q.num * p.den) (by omega) (by omega)
 have h4 := zMn p.den q.den (by have := hp.2; omega) (by have := hq.2; omega)
 have m3 := zNg m1 m2
 have m4 := zJy hp.2 hq.2
 have h5 := zIV (p.num * q.den + q.num * p.den) ((p.den * q.den : Nat) : Int) (by have := Nat.mul_ne_zero p.den_nz q.den_nz; omega) (by omega) (by rw [Int.natAbs_natCast]; omega)
 rw [zJ3, zK1] at h5
 rw [zJ3] at h1 h2
 refine zS.value0 (zE (P := Tryz.prog) (fn := Tryz.f91) Z Z (by kernel_rfl) Z (fun c hR hfix => ?_)) (fix := fun _ => False) (fun _ h => h) Z Z
 refine rn6 ?_
 refine zo (by kernel_rfl) ?_
 refine zv (fuel := 1) [0, 1, 2, 3, 4, 5, 6, 7, 8, 9, 10, 11, 12, 13, 14, 15, 16, 17, 18, 19] [(2, .ptr 0 0 0), (3, .ptr 1 0 0), (4, .ptr 2 0 0)] ⟨Z, Z, Z, trivial⟩ (by kernel_rfl) (by decide) Z Z ?_
 refine zK Z Z (zJ Z Z Z Z Z Z) ?_
 refine zK Z Z (zu Z Z Z Z Z Z Z (by first | exact Nat.zero_lt_one | assumption | omega)) ?_
 refine zK Z Z (zJ Z Z Z Z Z Z) ?_
 refine zK Z Z (zQ Z Z Z Z Z) ?_
 refine zK Z Z (zA0 Z Z Z Z Z Z) ?_
 refine zAc Z Z Z Z Z h1 ?_
 refine zK Z Z (zJ Z Z Z Z Z Z) ?_
 refine zK Z Z (zu Z Z Z Z Z Z Z (by first | exact Nat.zero_lt_one | assumption | omega)) ?_
 refine zK Z Z (zJ Z Z Z Z Z Z) ?_
 refine zK Z Z (zQ Z Z Z Z Z) ?_
 refine zK Z Z (zA0 Z Z Z Z Z Z) ?_
 refine zAc Z Z Z Z Z h2 ?_
 refine zAc Z Z Z Z Z h3 ?_
 refine zK Z Z (zJ Z Z Z Z Z Z) ?_
 refine zK Z Z (zQ Z Z Z Z Z) ?_
 refine zK Z Z (zJ Z Z Z Z Z Z) ?_
 refine zK Z Z (zQ Z Z Z Z Z) ?_
 refine zAc Z Z Z Z Z h4 ?_
 refine zK Z Z (zA0 Z Z Z Z Z Z) ?_
 refine zAc Z Z Z Z Z h5 ?_
 refine zz ?_
 refine zH (is := [20]) (by kernel_rfl) (by simp) Z ⟨fun o ho => ?_, trivial⟩
 all_goals (cases ho)
 skip
 unfold qA
 refine zN (c' := .box [.bool (decide ((p + q).num < 0)), zf (p + q).num.natAbs, zf (p + q).den]) Z Z Z Z Z Nat.zero_lt_one Z Z (fun i' j' hi' hj' => ?_) ?_
 ·rw [if_pos (Nat.lt_one_iff.1 hi')]; rfl
 refine rn1 ?_
 refine zX (by kernel_rfl) ?_
 refine rn0 ?_
 exact zI hR Z Z
theorem zPI (p q : Rat) (hp : Sz 100000 p) (hq : Sz 100000 q) : zU Tryz.prog 105 [qA p, qA q] (qA (p * q)) := by
 have h1 := zC1 p.num q.num (by have := hp.1; omega) (by have := hq.1; omega)
 have m1 := zE2 hp.1 hq.1
 have h4 := zMn p.den q.den (by have := hp.2; omega) (by have := hq.2; omega)
 have m4 := zJy hp.2 hq.2
 have h5 := zIV (p.num * q.num) ((p.den * q.den : Nat) : Int) (by have := Nat.mul_ne_zero p.den_nz q.den_nz; omega) (by omega) (by rw [Int.natAbs_natCast]; omega)
 rw [zJ3, zNP] at h5
 refine zS.value0 (zE (P := Tryz.prog) (fn := Tryz.f105) Z Z (by kernel_rfl) Z (fun c hR hfix => ?_)) (fix := fun _ => False) (fun _ h => h) Z Z
 refine rn6 ?_
 refine zo (by kernel_rfl) ?_
 refine zv (fuel := 1) [0, 1, 2, 3, 4, 5, 6, 7, 8, 9, 10, 11] [(2, .ptr 0 0 0), (3, .ptr 1 0 0), (4, .ptr 2 0 0)] ⟨Z, Z, Z, trivial⟩ (by kernel_rfl) (by decide) Z Z ?_
 refine zK Z Z (zJ Z Z Z Z Z Z) ?_
 refine zK Z Z (zu Z Z Z Z Z Z Z (by first | exact Nat.zero_lt_one | assumption | omega)) ?_
 refine zK Z Z (zJ Z Z Z Z Z Z) ?_
 refine zK Z Z (zu Z Z Z Z Z Z Z (by first | exact Nat.zero_lt_one | assumption | omega)) ?_
 refine zAc Z Z Z Z Z h1 ?_
 refine zK Z Z (zJ Z Z Z Z Z Z) ?_
 refine zK Z Z (zQ Z Z Z Z Z) ?_
 refine zK Z Z (zJ Z Z Z Z Z Z) ?_
 refine zK Z Z (zQ Z Z Z Z Z) ?_
 refine zAc Z Z Z Z Z h4 ?_
 refine zK Z Z (zA0 Z Z Z Z Z Z) ?_
 refine zAc Z Z Z Z Z h5 ?_
 refine zz ?_
 refine zH (is := [12]) (by kernel_rfl) (by simp) Z ⟨fun o ho => ?_, trivial⟩
 all_goals (cases ho)
 skip
 unfold qA
 refine zN (c' := .box [.bool (decide ((p * q).num < 0)), zf (p * q).num.natAbs, zf (p * q).den]) Z Z Z Z Z Nat.zero_lt_one Z Z (fun i' j' hi' hj' => ?_) ?_
 ·rw [if_pos (Nat.lt_one_iff.1 hi')]; rfl
 refine rn1 ?_
 refine zX (by kernel_rfl) ?_
 refine rn0 ?_
 exact zI hR Z Z
theorem zII (p q : Rat) (hp : Sz 100000 p) (hq : Sz 100000 q) : zU Tryz.prog 84 [qA p, qA q] (.int .i64 (zD0 p q)) := by
 have l1 : (zT (q.den : Int).natAbs).length ≤ 100000 := hq.2
 have l2 : (zT (p.den : Int).natAbs).length ≤ 100000 := hp.2
 have h1 := zC1 p.num q.den (by have := hp.1; omega) (by omega)
 have h2 := zC1 q.num p.den (by have := hq.1; omega) (by omega)
 have m1 := zE2 hp.1 l1
 have m2 := zE2 hq.1 l2
 have h5 := zPj (p.num * q.den) (q.num * p.den) (by omega) (by omega)
 rw [sgn_cmp p q] at h5
 rw [zJ3] at h1 h2
 refine zS.value0 (zE (P := Tryz.prog) (fn := Tryz.f84) Z Z (by kernel_rfl) Z (fun c hR hfix => ?_)) (fix := fun _ => False) (fun _ h => h) Z Z
 refine rn6 ?_
 refine zo (by kernel_rfl) ?_
 refine zv (fuel := 0) [0, 1, 2, 3, 4, 5, 6, 7, 8, 9, 10, 11, 12, 13] [(2, .ptr 0 0 0), (3, .ptr 1 0 0)] ⟨Z, Z, trivial⟩ (by kernel_rfl) (by decide) Z Z ?_
 refine zK Z Z (zJ Z Z Z Z Z Z) ?_
 refine zK Z Z (zu Z Z Z Z Z Z Z (by first | exact Nat.zero_lt_one | assumption | omega)) ?_
 refine zK Z Z (zJ Z Z Z Z Z Z) ?_
 refine zK Z Z (zQ Z Z Z Z Z) ?_
 refine zK Z Z (zA0 Z Z Z Z Z Z) ?_
 refine zAc Z Z Z Z Z h1 ?_
 refine zK Z Z (zJ Z Z Z Z Z Z) ?_
 refine zK Z Z (zu Z Z Z Z Z Z Z (by first | exact Nat.zero_lt_one | assumption | omega)) ?_
 refine zK Z Z (zJ Z Z Z Z Z Z) ?_
 refine zK Z Z (zQ Z Z Z Z Z) ?_
 refine zK Z Z (zA0 Z Z Z Z Z Z) ?_
 refine zAc Z Z Z Z Z h2 ?_
 refine zAc Z Z Z Z Z h5 ?_
 refine zK Z Z (zi Z) ?_
 refine zz ?_
 refine zX (by kernel_rfl) ?_
 refine rn0 ?_
 exact zI hR Z Z
theorem zEB (p : Rat) : zU Tryz.prog 98 [qA p] (.int .i64 (sgn p.num)) := by
 have h1 := zED p.num
 refine zS.value0 (zE (P := Tryz.prog) (fn := Tryz.f98) Z Z (by kernel_rfl) Z (fun c hR hfix => ?_)) (fix := fun _ => False) (fun _ h => h) Z Z
 refine rn6 ?_
 refine zB Z Z Z h1 ?_
 refine rn0 ?_
 exact zI hR Z Z
theorem qopp_ok (p : Rat) : zU Tryz.prog 79 [qA p] (qA (-p)) := by
 have h1 := zGZ p.num
 refine zS.value0 (zE (P := Tryz.prog) (fn := Tryz.f79) Z Z (by kernel_rfl) Z (fun c hR hfix => ?_)) (fix := fun _ => False) (fun _ h => h) Z Z
 refine rn6 ?_
 refine zo (by kernel_rfl) ?_
 refine zv (fuel := 1) [0, 1, 2, 3, 4, 5] [(1, .ptr 0 0 0), (2, .ptr 1 0 0)] ⟨Z, Z, trivial⟩ (by kernel_rfl) (by decide) Z Z ?_
 refine zK Z Z (zJ Z Z Z Z Z Z) ?_
 refine zK Z Z (zu Z Z Z Z Z Z Z (by first | exact Nat.zero_lt_one | assumption | omega)) ?_
 refine zAc Z Z Z Z Z h1 ?_
 refine zK Z Z (zJ Z Z Z Z Z Z) ?_
 refine zK Z Z (zQ Z Z Z Z Z) ?_
 refine zK Z Z (zA0 Z Z Z Z Z Z) ?_
 refine zz ?_
 refine zH (is := [6]) (by kernel_rfl) (by simp) Z ⟨fun o ho => ?_, trivial⟩
 all_goals (cases ho)
 skip
 refine zN (c' := .box [.bool (decide ((-p).num < 0)), zf (-p).num.natAbs, zf (-p).den]) Z Z Z Z Z Nat.zero_lt_one Z Z (fun i' j' hi' hj' => ?_) ?_
 ·rw [if_pos (Nat.lt_one_iff.1 hi')]; rfl
 refine rn1 ?_
 refine zX (by kernel_rfl) ?_
 refine rn0 ?_
 exact zI hR Z Z
theorem sz_neg {k : Nat} {q : Rat} (h : Sz k q) : Sz k (-q) := by
 refine ⟨?_, h.2⟩
 show (zT (-q.num).natAbs).length ≤ k
 rw [Int.natAbs_neg]; exact h.1
end Go.Proofs.YtnkealfaldjipaaGreatDoor
namespace Go.Proofs.YtnkealfaldjipaaGreatDoor
open Go.Ax Go.Ax.Bg Go.Ax.Rt Go.RowKit
attribute [local irreducible] Ax zBZ QOp zS zBC
set_option maxRecDepth 100000
set_option maxHeartbeats 4000000
open Go.Ax.Tb (zDF zKb)
theorem zM8 : zf 1 = .ro (.ints .u32 [1]) 0 1 := by unfold zf; rw [zKn]; rfl
theorem qA_int (z : Int) : qA (z : Rat) = .agg [.bool (decide (z < 0)), zf z.natAbs, zf 1] := rfl
theorem qof_ok (n : Int) (h : -9223372036854775808 ≤ n ∧ n < 9223372036854775808) : zU Tryz.prog 85 [.int .i64 n] (qA (n : Rat)) := by
 have h1 := zKe n h
 refine zS.value0 (zE (P := Tryz.prog) (fn := Tryz.f85) Z Z (by kernel_rfl) Z (fun c hR hfix => ?_)) (fix := fun _ => False) (fun _ h => h) Z Z
 refine rn4 ?_
 refine zB Z Z Z h1 ?_
 unfold zBD
 refine zEL ?_
 refine zN (c' := .box [.bool (decide (n < 0)), zf n.natAbs, .ro (.ints .u32 [1]) 0 1]) Z Z Z Z Z Nat.zero_lt_one Z Z (fun i' j' hi' hj' => ?_) ?_
 ·rw [if_pos (Nat.lt_one_iff.1 hi')]; rfl
 refine rn0 ?_
 refine zI hR Z ?_
 rw [qA_int, zM8]
 rfl
theorem zO7 (s : List UInt8) (b : Int) : zU Tryz.prog 221 [.str s, .int .u8 b] (.int .i64 (Lib.indexByte s b.toNat.toUInt8)) := by
 refine zS.value0 (zE (P := Tryz.prog) (fn := Tryz.f221) Z Z (by kernel_rfl) Z (fun c hR hfix => ?_)) (fix := fun _ => False) (fun _ h => h) Z Z
 refine rn0 ?_
 refine zG (zNd Z Z Z Z (by kernel_rfl) (by kernel_rfl) (by kernel_rfl) (by kernel_rfl)) ?_
 refine rn0 ?_
 exact zI hR Z Z
theorem indexI1 (s : List UInt8) (b : UInt8) : zU Tryz.prog 194 [.str s, .str [b]] (.int .i64 (Lib.indexByte s b)) := by
 refine zS.value0 (zE (P := Tryz.prog) (fn := Tryz.f194) Z Z (by kernel_rfl) Z (fun c hR hfix => ?_)) (fix := fun _ => False) (fun _ h => h) Z Z
 refine rn6 ?_
 refine zD Z (fun h => ?_) (fun h => ?_)
 ·refine rn6 ?_
  refine zI hR Z ?_
  subst h
  simp [zCf, Lib.indexByte]
 refine zJl ?_
 refine zB Z Z Z (zO7 s b.toNat) ?_
 refine rn6 ?_
 refine zI hR Z ?_
 simp [zCf]
theorem zL9 (l : List UInt8) (b : UInt8) : Lib.indexByte l b < l.length := by
 induction l with
 | nil => simp [Lib.indexByte]
 | cons c r ih =>
  rw [Lib.indexByte]
  simp only [List.length_cons]
  split
  ·omega
  ·split
   ·omega
   ·omega
theorem cutI (s : List UInt8) (b : UInt8) (h : s.length ≤ 9223372036854775807) : zU Tryz.prog 154 [.str s, .str [b]] (.tup [.str (zDF b s).1, .str (zDF b s).2.1, .bool (zDF b s).2.2]) := by
 have hc := zKb b s
 have hlt := zL9 s b
 have hge := Lib.indexByte_ge s b
 have ci := indexI1 s b
 refine zS.value0 (zE (P := Tryz.prog) (fn := Tryz.f154) Z Z (by kernel_rfl) Z (fun c hR hfix => ?_)) (fix := fun _ => False) (fun _ h => h) Z Z
 generalize Lib.indexByte s b = i at *
 refine rn0 ?_
 refine zB Z Z Z ci ?_
 refine rn8 ?_
 refine zD Z (fun h0 => ?_) (fun h0 => ?_)
 ·rw [if_pos h0] at hc
  rw [hc] at hR
  have hb1 : ([b] : List UInt8).length = 1 := rfl
  have hi1 : (i + 1).toNat = i.toNat + 1 := by omega
  repeat (refine z8 ?_)
  refine zGT (by kernel_rfl) (by kernel_rfl) Z ?_
  refine rn22 ?_
  refine zI hR Z ?_
  simp [zCf, hi1]
  exact List.take_of_length_le (by simp)
 ·rw [if_neg h0] at hc
  rw [hc] at hR
  refine rn1 ?_
  exact zI hR Z Z
theorem cutS (s : List UInt8) (b : UInt8) (h : s.length ≤ 9223372036854775807) : zU Tryz.prog 93 [.str s, .str [b]] (.tup [.str (zDF b s).1, .str (zDF b s).2.1, .bool (zDF b s).2.2]) := by
 have ci := cutI s b h
 refine zS.value0 (zE (P := Tryz.prog) (fn := Tryz.f93) Z Z (by kernel_rfl) Z (fun c hR hfix => ?_)) (fix := fun _ => False) (fun _ h => h) Z Z
 generalize zDF b s = q at *
 refine rn0 ?_
 refine zB Z Z Z ci ?_
 refine rn2 ?_
 exact zI hR Z Z
theorem cutP1 (s p : List UInt8) (hs : s.length ≤ 9223372036854775807) (hp : p.length ≤ 9223372036854775807) : zU Tryz.prog 153 [.str s, .str p] (.tup [.str (if zIc s p then s.drop p.length else s), .bool (zIc s p)]) := by
 have h1 := zPX s p hs hp
 refine zS.value0 (zE (P := Tryz.prog) (fn := Tryz.f153) Z Z (by kernel_rfl) Z (fun c hR hfix => ?_)) (fix := fun _ => False) (fun _ h => h) Z Z
 by_cases h : zIc s p = true
 ·have hle : p.length ≤ s.length := by unfold zIc at h; exact (of_decide_eq_true h).1
  rw [h] at h1 hR
  refine rn0 ?_
  refine zB Z Z Z h1 ?_
  refine rn22 ?_
  refine zI hR Z ?_
  simp only [zCf, Int.toNat_natCast]
  rw [List.take_of_length_le (by simp)]
  rfl
 ·rw [Bool.not_eq_true] at h
  rw [h] at h1 hR
  refine rn0 ?_
  refine zB Z Z Z h1 ?_
  refine rn5 ?_
  exact zI hR Z Z
theorem cutP (s p : List UInt8) (hs : s.length ≤ 9223372036854775807) (hp : p.length ≤ 9223372036854775807) : zU Tryz.prog 92 [.str s, .str p] (.tup [.str (if zIc s p then s.drop p.length else s), .bool (zIc s p)]) := by
 have h1 := cutP1 s p hs hp
 refine zS.value0 (zE (P := Tryz.prog) (fn := Tryz.f92) Z Z (by kernel_rfl) Z (fun c hR hfix => ?_)) (fix := fun _ => False) (fun _ h => h) Z Z
 generalize zIc s p = b at *
 refine rn0 ?_
 refine zB Z Z Z h1 ?_
 refine rn2 ?_
 exact zI hR Z Z
end Go.Proofs.YtnkealfaldjipaaGreatDoor
namespace Go.Ax.Rt
open Go.Ax.Bg
open Go.Ax.Tb (zBy zCH zCi zDF zPa zPY zEo)
def zE8 : List UInt8 → Bool
 | c :: _ => decide (c = 45)
 | [] => false
def zEc (s : List UInt8) : List UInt8 := if zE8 s then s.drop 1 else s
def zEQ (s : List UInt8) : List UInt8 := (zDF 47 (zEc s)).1
def zEV (s : List UInt8) : List UInt8 := (zDF 47 (zEc s)).2.1
def zGf (s : List UInt8) : Bool := (zDF 47 (zEc s)).2.2
/-- rat.Check -/
def zAy (s : List UInt8) : Int :=
 if zFG (zEQ s) = false ∨ (zGf s = true ∧ zFG (zEV s) = false) ∨ (zE8 s = true ∧ zEQ s = [48]) then 5
 else if 2000 < (zEQ s).length ∨ 2000 < (zEV s).length then 2
 else if zGf s = true ∧ (zEV s = [48] ∨ zEV s = [49] ∨ Nat.gcd (zBG 0 (zEQ s)) (zBG 0 (zEV s)) ≠ 1) then 3 else 0
def zKr (s : List UInt8) : Nat := if zGf s then zBG 0 (zEV s) else 1
def zg (s : List UInt8) : Rat := Rat.divInt (zEm (zE8 s) (zBG 0 (zEQ s))) (zKr s : Nat)
def zj (q : Rat) : List UInt8 := (if q.num < 0 then [45] else []) ++ (Lib.decDigits q.num.natAbs ++ (if q.den = 1 then [] else 47 :: Lib.decDigits q.den))
def zCM (q : Rat) : Bool := decide ((Lib.decDigits q.num.natAbs).length ≤ 2000) && decide ((Lib.decDigits q.den).length ≤ 2000)
def zHd (q : Rat) : List UInt8 × Int := if zCM q then (zj q, 0) else ([], 2)
theorem zLc (b : UInt8) : ∀ l : List UInt8, l = (zDF b l).1 ++ (if (zDF b l).2.2 then b :: (zDF b l).2.1 else [])
 | [] => rfl
 | c :: r => by
  rw [zDF]
  split
  ·rename_i h; subst h; simp
  ·have := zLc b r
   simp only [List.cons_append, List.cons.injEq, true_and]
   exact this
structure Parts (s : List UInt8) (q : Rat) : Prop where
 num : q.num = zEm (zE8 s) (zBG 0 (zEQ s))
 den : q.den = zKr s
 cn : zHg (zEQ s)
 cd : zGf s = true → zHg (zEV s) ∧ zBG 0 (zEV s) ≠ 0 ∧ zBG 0 (zEV s) ≠ 1
 ln : (zEQ s).length ≤ 2000
 ld : (zEV s).length ≤ 2000
 ng : zE8 s = true → zBG 0 (zEQ s) ≠ 0
theorem zMJ {s : List UInt8} {n : Nat} (hc : zHg s) (hn : n < 10) (h : zBG 0 s = n) : s = [UInt8.ofNat (48 + n)] := by
 rw [← zF1 hc, h, Lib.decDigits_one hn]
theorem zHa {s : List UInt8} (h : zGf s = false) : zKr s = 1 := by unfold zKr; rw [h]; rfl
theorem zFw {s : List UInt8} (h : zGf s = true) : zKr s = zBG 0 (zEV s) := by unfold zKr; rw [h]; rfl
theorem zFq {s : List UInt8} (h : zAy s = 0) : Parts s (zg s) := by
 unfold zAy at h
 split at h
 ·omega
 split at h
 ·omega
 split at h
 ·omega
 rename_i h1 h2 h3
 simp only [not_or, not_and, Bool.not_eq_false] at h1 h2 h3
 obtain ⟨a1, a2, a3⟩ := h1
 have cn := zD4.1 a1
 have cd : zGf s = true → zHg (zEV s) ∧ zBG 0 (zEV s) ≠ 0 ∧ zBG 0 (zEV s) ≠ 1 := fun hd => by
  have c := zD4.1 (a2 hd)
  exact ⟨c, fun e => (h3 hd).1 (zMJ c (by decide) e), fun e => (h3 hd).2.1 (zMJ c (by decide) e)⟩
 have hd0 : zKr s ≠ 0 := by
  cases e : zGf s
  ·rw [zHa e]; decide
  ·rw [zFw e]; exact (cd e).2.1
 have hg : Nat.gcd (zBG 0 (zEQ s)) (zKr s) = 1 := by
  cases e : zGf s
  ·rw [zHa e]; exact Nat.gcd_one_right _
  ·rw [zFw e]; exact Classical.not_not.1 (h3 e).2.2
 obtain ⟨e1, e2, e3⟩ := zLK (zEm (zE8 s) (zBG 0 (zEQ s))) (zKr s) hd0
 rw [zFK, hg, Nat.div_one] at e1
 rw [zFK, hg, Nat.div_one] at e2
 refine ⟨?_, e2, cn, cd, by omega, by omega, fun hn e => a3 hn (zMJ cn (by decide) e)⟩
 show (Rat.divInt _ _).num = _
 have := zFK (zE8 s) (zBG 0 (zEQ s))
 omega
theorem neg_body {s : List UInt8} : s = (if zE8 s then [45] else []) ++ zEc s := by
 unfold zEc
 cases s with
 | nil => rfl
 | cons c r =>
  unfold zE8
  by_cases h : c = 45
  ·subst h; rfl
  ·simp [h]
theorem Parts.text {s : List UInt8} {q : Rat} (h : Parts s q) : zj q = s := by
 conv => rhs; rw [neg_body (s := s), zLc 47 (zEc s)]
 change zj q = _ ++ (zEQ s ++ if zGf s then 47 :: zEV s else [])
 unfold zj
 rw [h.num, h.den, zFK, zF1 h.cn]
 congr 1
 ·have := zKH (zE8 s) (zBG 0 (zEQ s))
  cases e : zE8 s
  ·rw [e] at this; simp at this
   rw [if_neg (by simpa [e] using this)]; rfl
  ·rw [e] at this
   have hn := h.ng e
   simp [hn] at this
   rw [if_pos this]; rfl
 ·congr 1
  cases e : zGf s
  ·rw [zHa e]; rfl
  ·obtain ⟨c, c0, c1⟩ := h.cd e
   rw [zFw e, if_neg c1, zF1 c]; rfl
theorem zNn (q : Rat) : zE8 (zj q) = decide (q.num < 0) ∧ zEc (zj q) = Lib.decDigits q.num.natAbs ++ (if q.den = 1 then [] else 47 :: Lib.decDigits q.den) := by
 have hne := zCi q.num.natAbs
 have h45 := zEo q.num.natAbs 45 (by decide)
 unfold zEc zj
 by_cases h : q.num < 0
 ·simp [h, zE8]
 ·have : zE8 (Lib.decDigits q.num.natAbs ++ (if q.den = 1 then [] else 47 :: Lib.decDigits q.den)) = false := by
   cases e : Lib.decDigits q.num.natAbs with
   | nil => exact absurd e hne
   | cons c r =>
    rw [e] at h45
    have : c ≠ 45 := fun e => h45 (by simp [e])
    simp [zE8, this]
  simp [h, this]
theorem zKv (q : Rat) : zDF 47 (zEc (zj q)) = (Lib.decDigits q.num.natAbs, (if q.den = 1 then [] else Lib.decDigits q.den), decide (q.den ≠ 1)) := by
 rw [(zNn q).2]
 by_cases h : q.den = 1
 ·rw [if_pos h, if_pos h, List.append_nil, zPa (zEo _ 47 (by decide))]
  simp [h]
 ·rw [if_neg h, if_neg h, zPY (zEo _ 47 (by decide))]
  simp [h]
theorem rat_of {q : Rat} (h : zCM q = true) : zAy (zj q) = 0 ∧ zg (zj q) = q := by
 have e1 : zEQ (zj q) = Lib.decDigits q.num.natAbs := by unfold zEQ; rw [zKv]
 have e2 : zEV (zj q) = if q.den = 1 then [] else Lib.decDigits q.den := by unfold zEV; rw [zKv]
 have e3 : zGf (zj q) = decide (q.den ≠ 1) := by unfold zGf; rw [zKv]
 have e4 := (zNn q).1
 unfold zCM at h
 rw [Bool.and_eq_true, decide_eq_true_eq, decide_eq_true_eq] at h
 constructor
 ·unfold zAy
  rw [e1, e2, e3, e4, zBo, zD4.2 (zEj _)]
  have g1 : ¬ (true = false ∨ (decide (q.den ≠ 1) = true ∧ zFG (if q.den = 1 then [] else Lib.decDigits q.den) = false) ∨ (decide (q.num < 0) = true ∧ Lib.decDigits q.num.natAbs = [48])) := by
   rintro (g | ⟨g1, g2⟩ | ⟨g1, g2⟩)
   ·cases g
   ·rw [decide_eq_true_eq] at g1
    rw [if_neg g1, zD4.2 (zEj _)] at g2
    cases g2
   ·rw [decide_eq_true_eq] at g1
    have : q.num.natAbs = 0 := zFi (by rw [g2, Lib.decDigits_one (by decide)]; rfl)
    omega
  have g2 : ¬ (2000 < (Lib.decDigits q.num.natAbs).length ∨ 2000 < (if q.den = 1 then [] else Lib.decDigits q.den : List UInt8).length) := by
   rintro (g | g)
   ·omega
   ·split at g
    ·simp at g
    ·omega
  have g3 : ¬ (decide (q.den ≠ 1) = true ∧ ((if q.den = 1 then [] else Lib.decDigits q.den) = [48] ∨ (if q.den = 1 then [] else Lib.decDigits q.den) = [49] ∨ Nat.gcd q.num.natAbs (zBG 0 (if q.den = 1 then [] else Lib.decDigits q.den)) ≠ 1)) := by
   rintro ⟨g, g3⟩
   rw [decide_eq_true_eq] at g
   rw [if_neg g] at g3
   rw [zBo] at g3
   rcases g3 with g3 | g3 | g3
   ·have : q.den = 0 := zFi (by rw [g3, Lib.decDigits_one (by decide)]; rfl)
    exact q.den_nz this
   ·exact g (zFi (by rw [g3, Lib.decDigits_one (by decide)]; rfl))
   ·exact g3 q.reduced
  rw [if_neg g1, if_neg g2, if_neg g3]
 ·unfold zg
  have e5 : zKr (zj q) = q.den := by
   unfold zKr
   rw [e3, e2]
   by_cases g : q.den = 1
   ·simp [g]
   ·simp [g, zBo]
  rw [e1, e4, e5, zBo, zRC]
  exact Rat.num_divInt_den q
/-- rat.CheckAll -/
def zFc : List (List UInt8) → Int
 | [] => 0
 | s :: r => if zAy s = 0 then zFc r else zAy s
theorem zAS : ∀ {l : List (List UInt8)}, zFc l = 0 → ∀ s ∈ l, zAy s = 0
 | [], _, s, h => by simp at h
 | a :: r, h, s, hs => by
  rw [zFc] at h
  split at h
  ·rename_i h1
   rcases List.mem_cons.1 hs with e | e
   ·rw [e]; exact h1
   ·exact zAS h s e
  ·contradiction
theorem zGa : ∀ {l : List (List UInt8)}, (∀ s ∈ l, zAy s = 0) → zFc l = 0
 | [], _ => rfl
 | a :: r, h => by
  rw [zFc, if_pos (h a (by simp))]
  exact zGa (fun s hs => h s (by simp [hs]))
/-- Sums, products and so on of two texts. -/
def zKP (F : Rat → Rat → Rat) (a b : List UInt8) : List UInt8 × Int := if zFc [a, b] = 0 then zHd (F (zg a) (zg b)) else ([], zFc [a, b])
def oneR (F : Rat → Rat) (a : List UInt8) : List UInt8 × Int := if zAy a = 0 then zHd (F (zg a)) else ([], zAy a)
def cmpR (a b : List UInt8) : Int × Int := if zFc [a, b] = 0 then (zD0 (zg a) (zg b), 0) else (0, zFc [a, b])
def zM7 (a : List UInt8) : Int × Int := if zAy a = 0 then (sgn (zg a).num, 0) else (0, zAy a)
def zCY (l : List Rat) : List (List UInt8) × Int := if l.all zCM then (l.map zj, 0) else ([], 2)
end Go.Ax.Rt
namespace Go.Proofs.YtnkealfaldjipaaGreatDoor
open Go.Ax Go.Ax.Bg Go.Ax.Rt Go.RowKit
attribute [local irreducible] Ax zBZ QOp zS zBC
set_option maxRecDepth 100000
set_option maxHeartbeats 4000000
open Go.Ax.Tb (zDF zKb zNc)
theorem pre_neg (s : List UInt8) : zIc s [45] = zE8 s := by
 unfold zIc zE8
 cases s with
 | nil => rfl
 | cons c r => simp
theorem zMz (s : List UInt8) : (zEc s).length ≤ s.length := by
 unfold zEc; split
 ·simp
 ·exact Nat.le_refl _
theorem zRH (s : List UInt8) : (zEQ s).length ≤ s.length ∧ (zEV s).length ≤ s.length := by
 have h := zNc 47 (zEc s)
 have h2 := zMz s
 unfold zEQ zEV
 omega
theorem cutNeg (s : List UInt8) (hs : s.length ≤ 9223372036854775807) : zU Tryz.prog 92 [.str s, .str [45]] (.tup [.str (zEc s), .bool (zE8 s)]) := by
 have h := cutP s [45] hs (by decide)
 rw [pre_neg] at h
 exact h
theorem cutBar (s : List UInt8) (hs : s.length ≤ 9223372036854775807) : zU Tryz.prog 93 [.str (zEc s), .str [47]] (.tup [.str (zEQ s), .str (zEV s), .bool (zGf s)]) :=
 cutS (zEc s) 47 (Nat.le_trans (zMz s) hs)
theorem zDB (s : List UInt8) (hs : s.length ≤ 9223372036854775807) (h : zAy s = 0) : zU Tryz.prog 89 [.str s] (qA (zg s)) := by
 have hp := zFq h
 have h1 := cutNeg s (by omega)
 have h2 := cutBar s hs
 have h3 := zJq (zEQ s) hp.cn.2.1 (by have := hp.ln; omega)
 have h4 := zFa (zE8 s) (zBG 0 (zEQ s))
 rw [← hp.num] at h4
 unfold qA
 rw [hp.den]
 cases e : zGf s
 ·rw [e] at h2
  rw [zHa e, zM8]
  refine zS.value0 (zE (P := Tryz.prog) (fn := Tryz.f89) Z Z (by kernel_rfl) Z (fun c hR hfix => ?_)) (fix := fun _ => False) (fun _ h => h) Z Z
  refine rn4 ?_
  refine zB Z Z Z h1 ?_
  refine rn2 ?_
  refine zB Z Z Z h2 ?_
  refine rn2 ?_
  refine zB Z Z Z h3 ?_
  skip
  refine zB Z Z Z h4 ?_
  unfold zBD
  refine zEL ?_
  refine zN (c' := .box [.bool (decide ((zg s).num < 0)), zf (zg s).num.natAbs, .ro (.ints .u32 [1]) 0 1]) Z Z Z Z Z Nat.zero_lt_one Z Z (fun i' j' hi' hj' => ?_) ?_
  ·rw [if_pos (Nat.lt_one_iff.1 hi')]; rfl
  refine rn6 ?_
  refine zN (c' := .box [.bool (decide ((zg s).num < 0)), zf (zg s).num.natAbs, .ro (.ints .u32 [1]) 0 1]) Z Z Z Z Z Nat.zero_lt_one Z Z (fun i' j' hi' hj' => ?_) ?_
  ·rw [if_pos (Nat.lt_one_iff.1 hi')]; rfl
  refine rn0 ?_
  exact zI hR Z Z
 ·rw [e] at h2
  rw [zFw e]
  have h5 := zJq (zEV s) (hp.cd e).1.2.1 (by have := hp.ld; omega)
  refine zS.value0 (zE (P := Tryz.prog) (fn := Tryz.f89) Z Z (by kernel_rfl) Z (fun c hR hfix => ?_)) (fix := fun _ => False) (fun _ h => h) Z Z
  refine rn4 ?_
  refine zB Z Z Z h1 ?_
  refine rn2 ?_
  refine zB Z Z Z h2 ?_
  refine rn2 ?_
  refine zB Z Z Z h3 ?_
  skip
  refine zB Z Z Z h4 ?_
  unfold zBD
  refine zEL ?_
  refine zN (c' := .box [.bool (decide ((zg s).num < 0)), zf (zg s).num.natAbs, .ro (.ints .u32 [1]) 0 1]) Z Z Z Z Z Nat.zero_lt_one Z Z (fun i' j' hi' hj' => ?_) ?_
  ·rw [if_pos (Nat.lt_one_iff.1 hi')]; rfl
  refine rn5 ?_
  refine zB Z Z Z h5 ?_
  refine rn19 ?_
  refine zN (c' := .box [.bool (decide ((zg s).num < 0)), zf (zg s).num.natAbs, zf (zBG 0 (zEV s))]) Z Z Z Z Z Nat.zero_lt_one Z Z (fun i' j' hi' hj' => ?_) ?_
  ·rw [if_pos (Nat.lt_one_iff.1 hi')]; rfl
  refine rn0 ?_
  exact zI hR Z Z
theorem qtext_ok (q : Rat) (hq : Sz 100000 q) : zU Tryz.prog 137 [qA q] (.str (zj q)) := by
 have h1 := zJ4 q.num.natAbs (by have := hq.1; omega)
 have h2 := one_ok q.den
 have h3 := zJ4 q.den (by have := hq.2; omega)
 unfold zj
 have l1 := zDk hq.1 (by decide)
 have l2 := zDk hq.2 (by decide)
 refine zS.value0 (zE (P := Tryz.prog) (fn := Tryz.f137) Z Z (by kernel_rfl) Z (fun c hR hfix => ?_)) (fix := fun _ => False) (fun _ h => h) Z Z
 by_cases hn : q.num < 0 <;> by_cases hd : q.den = 1
 ·rw [if_pos hn, if_pos hd] at hR
  rw [decide_eq_true hd] at h2
  unfold qA
  rw [decide_eq_true hn]
  refine rn6 ?_
  refine zB Z Z Z h1 ?_
  refine rn5 ?_
  refine zG (zFH Z Z (by show ([45] : List UInt8).length + _ ≤ _; simp only [List.length_cons, List.length_nil, List.length_append]; omega)) ?_
  refine rn5 ?_
  refine zB Z Z Z h2 ?_
  refine rn5 ?_
  refine zI hR Z ?_
  simp [zCf]
 ·rw [if_pos hn, if_neg hd] at hR
  rw [decide_eq_false hd] at h2
  unfold qA
  rw [decide_eq_true hn]
  refine rn6 ?_
  refine zB Z Z Z h1 ?_
  refine rn5 ?_
  refine zG (zFH Z Z (by show ([45] : List UInt8).length + _ ≤ _; simp only [List.length_cons, List.length_nil, List.length_append]; omega)) ?_
  refine rn5 ?_
  refine zB Z Z Z h2 ?_
  refine rn5 ?_
  refine zB Z Z Z h3 ?_
  skip
  refine zG (zFH Z Z (by show ([47] : List UInt8).length + _ ≤ _; simp only [List.length_cons, List.length_nil, List.length_append]; omega)) ?_
  refine zG (zFH (b := 47 :: Lib.decDigits q.den) Z Z (by simp only [List.length_cons, List.length_nil, List.length_append]; omega)) ?_
  refine rn0 ?_
  refine zI hR Z ?_
  simp [zCf]
 ·rw [if_neg hn, if_pos hd] at hR
  rw [decide_eq_true hd] at h2
  unfold qA
  rw [decide_eq_false hn]
  refine rn6 ?_
  refine zB Z Z Z h1 ?_
  refine rn5 ?_
  refine zB Z Z Z h2 ?_
  refine rn5 ?_
  refine zI hR Z ?_
  simp [zCf]
 ·rw [if_neg hn, if_neg hd] at hR
  rw [decide_eq_false hd] at h2
  unfold qA
  rw [decide_eq_false hn]
  refine rn6 ?_
  refine zB Z Z Z h1 ?_
  refine rn5 ?_
  refine zB Z Z Z h2 ?_
  refine rn5 ?_
  refine zB Z Z Z h3 ?_
  skip
  refine zG (zFH Z Z (by show ([47] : List UInt8).length + _ ≤ _; simp only [List.length_cons, List.length_nil, List.length_append]; omega)) ?_
  refine zG (zFH (b := 47 :: Lib.decDigits q.den) Z Z (by simp only [List.length_cons, List.length_nil, List.length_append]; omega)) ?_
  refine rn0 ?_
  refine zI hR Z ?_
  simp [zCf]
end Go.Proofs.YtnkealfaldjipaaGreatDoor
namespace Go.Proofs.YtnkealfaldjipaaGreatDoor
open Go.Ax Go.Ax.Bg Go.Ax.Rt Go.RowKit
attribute [local irreducible] Ax zBZ QOp zS zBC
set_option maxRecDepth 100000
set_option maxHeartbeats 4000000
theorem zQE {n k m : Nat} (h : k < (zT n).length) (hm : m ≤ 9 * k) : m < (Lib.decDigits n).length := by
 rcases Nat.lt_or_ge m (Lib.decDigits n).length with q | q
 ·exact q
 exfalso
 have h1 := zEx n
 have h2 : 10 ^ (Lib.decDigits n).length ≤ 10 ^ (9 * k) := Nat.pow_le_pow_right (by decide) (by omega)
 have h3 : 10 ^ (9 * k) ≤ B ^ k := by rw [Nat.pow_mul]; exact Nat.pow_le_pow_left (by decide) k
 have h4 : ¬ n < B ^ k := fun h5 => by have := zAs h5; omega
 omega
theorem zPJ (q : Rat) (hq : Sz 100000 q) : zU Tryz.prog 136 [qA q, .int .i64 2000] (.bool (zCM q)) := by
 have h1 := zJ4 q.num.natAbs (by have := hq.1; omega)
 have h3 := zJ4 q.den (by have := hq.2; omega)
 have l1 := zDk hq.1 (by decide)
 have l2 := zDk hq.2 (by decide)
 have g1 := hq.1
 have g2 := hq.2
 have b1 := @zQE q.num.natAbs 224 2000
 have b2 := @zQE q.den 224 2000
 unfold zCM
 refine zS.value0 (zE (P := Tryz.prog) (fn := Tryz.f136) Z Z (by kernel_rfl) Z (fun c hR hfix => ?_)) (fix := fun _ => False) (fun _ h => h) Z Z
 unfold qA
 unfold zf at h1 h3 ⊢
 repeat (first | refine zG (zL rfl) ?_ | refine zG (zi rfl) ?_ | refine zP ?_ | refine zF ?_ | refine z8 ?_ | refine zV rfl ?_ | refine zG (zQ rfl rfl rfl rfl rfl) ?_ | refine zG (zK5 rfl rfl) ?_ | refine zG (zA5 rfl rfl rfl) ?_ | refine zG (zCo rfl rfl (by omega)) ?_ | refine zG (q_quo rfl rfl (by omega)) ?_ | refine zG (q_max rfl rfl) ?_ | refine zG (zJ rfl rfl rfl rfl rfl rfl) ?_ | refine zGH rfl rfl ?_)
 refine zD Z (fun h0 => ?_) (fun h0 => ?_)
 ·refine rn2 ?_
  refine zI hR Z ?_
  have h5 : 224 < (zT q.num.natAbs).length ∨ 224 < (zT q.den).length := by
   split at h0 <;> omega
  have h6 : ¬ ((Lib.decDigits q.num.natAbs).length ≤ 2000 ∧ (Lib.decDigits q.den).length ≤ 2000) := by
   rcases h5 with h5 | h5
   ·have := b1 h5 (by decide); omega
   ·have := b2 h5 (by decide); omega
  rw [← Bool.decide_and, decide_eq_false h6]
  rfl
 ·refine rn5 ?_
  refine zB Z Z Z h1 ?_
  refine zHe ?_
  refine zAt Z Z (fun h5 => ?_) (fun h5 => ?_)
  ·refine rn5 ?_
   refine zB Z Z Z h3 ?_
   refine zHe ?_
   refine zI hR Z ?_
   rw [show decide ((Lib.decDigits q.num.natAbs).length ≤ 2000) = true from decide_eq_true (by omega), Bool.true_and]
   show AV.bool _ = AV.bool _
   rw [show decide (((Lib.decDigits q.den).length : Int) ≤ 2000) = decide ((Lib.decDigits q.den).length ≤ 2000) from by rw [decide_eq_decide]; omega]
  ·refine rn6 ?_
   refine zI hR Z ?_
   rw [show decide ((Lib.decDigits q.num.natAbs).length ≤ 2000) = false from decide_eq_false (by omega), Bool.false_and]
   rfl
theorem zMd (q : Rat) (hq : Sz 100000 q) (h : zCM q = true) : zU Tryz.prog 74 [qA q] (.tup [.str (zj q), .int .i64 0]) := by
 have h1 := zPJ q hq
 have h2 := qtext_ok q hq
 rw [h] at h1
 refine zS.value0 (zE (P := Tryz.prog) (fn := Tryz.f74) Z Z (by kernel_rfl) Z (fun c hR hfix => ?_)) (fix := fun _ => False) (fun _ h => h) Z Z
 refine rn6 ?_
 refine zB Z Z Z h1 ?_
 refine rn6 ?_
 refine zB Z Z Z h2 ?_
 refine rn0 ?_
 exact zI hR Z Z
theorem out_no (q : Rat) (hq : Sz 100000 q) (h : zCM q = false) : zU Tryz.prog 74 [qA q] (.tup [.str [], .int .i64 2]) := by
 have h1 := zPJ q hq
 rw [h] at h1
 refine zS.value0 (zE (P := Tryz.prog) (fn := Tryz.f74) Z Z (by kernel_rfl) Z (fun c hR hfix => ?_)) (fix := fun _ => False) (fun _ h => h) Z Z
 refine rn6 ?_
 refine zB Z Z Z h1 ?_
 refine rn5 ?_
 exact zI hR Z Z
theorem zMf (q : Rat) (hq : Sz 100000 q) : zU Tryz.prog 74 [qA q] (zGz (zHd q)) := by
 unfold zHd
 cases h : zCM q
 ·exact out_no q hq h
 ·exact zMd q hq h
theorem zHZ (s : List UInt8) (hs : s.length ≤ 9223372036854775807) : zU Tryz.prog 30 [.str s] (.int .i64 (zAy s)) := by
 have h1 := cutNeg s (by omega)
 have h2 := cutBar s hs
 obtain ⟨ln, ld⟩ := zRH s
 have h3 := zLb (zEQ s) (by omega)
 have h4 := zLb (zEV s) (by omega)
 have cn := @zD4 (zEQ s)
 have cd := @zD4 (zEV s)
 unfold zAy
 generalize zEQ s = n at *
 generalize zEV s = d at *
 generalize zGf s = ok at *
 generalize zE8 s = ng at *
 generalize zEc s = b at *
 generalize zFG n = p at *
 generalize zFG d = q at *
 refine zS.value0 (zE (P := Tryz.prog) (fn := Tryz.f30) Z Z (by kernel_rfl) Z (fun c hR hfix => ?_)) (fix := fun _ => False) (fun _ h => h) Z Z
 refine rn0 ?_
 refine zB Z Z Z h1 ?_
 refine rn2 ?_
 refine zB Z Z Z h2 ?_
 refine rn9 ?_
 by_cases hsyn : p = false ∨ (ok = true ∧ q = false) ∨ (ng = true ∧ n = [48])
 ·rw [if_pos hsyn] at hR
  cases p
  ·refine rn0 ?_
   refine zB Z Z Z h3 ?_
   refine rn18 ?_
   exact zI hR Z Z
  ·cases ok
   ·obtain ⟨hng, hn⟩ : ng = true ∧ n = [48] := by simpa using hsyn
    subst hng
    subst hn
    refine rn0 ?_
    refine zB Z Z Z h3 ?_
    refine rn6 ?_
    exact zI hR Z Z
   ·cases q
    ·refine rn0 ?_
     refine zB Z Z Z h3 ?_
     refine rn5 ?_
     refine zB Z Z Z h4 ?_
     refine rn18 ?_
     exact zI hR Z Z
    ·obtain ⟨hng, hn⟩ : ng = true ∧ n = [48] := by simpa using hsyn
     subst hng
     subst hn
     refine rn0 ?_
     refine zB Z Z Z h3 ?_
     refine rn5 ?_
     refine zB Z Z Z h4 ?_
     refine rn6 ?_
     exact zI hR Z Z
 rw [if_neg hsyn] at hR
 apply zAM (H := []) [(5, .str n), (6, .str d), (7, .bool ok)]
 ·intro fin
  cases p
  ·exact absurd (.inl Z) hsyn
  cases ok
  ·cases ng
   ·refine rn0 ?_
    refine zB Z Z Z h3 ?_
    refine rn9 ?_
    exact fin _ ⟨Z, Z, Z, trivial⟩
   ·refine rn0 ?_
    refine zB Z Z Z h3 ?_
    refine rn9 ?_
    refine zD Z (fun h0 => absurd (.inr (.inr ⟨Z, h0⟩)) hsyn) (fun h0 => ?_)
    refine rn9 ?_
    exact fin _ ⟨Z, Z, Z, trivial⟩
  ·cases q
   ·exact absurd (.inr (.inl ⟨Z, Z⟩)) hsyn
   cases ng
   ·refine rn0 ?_
    refine zB Z Z Z h3 ?_
    refine rn5 ?_
    refine zB Z Z Z h4 ?_
    refine rn9 ?_
    exact fin _ ⟨Z, Z, Z, trivial⟩
   ·refine rn0 ?_
    refine zB Z Z Z h3 ?_
    refine rn5 ?_
    refine zB Z Z Z h4 ?_
    refine rn9 ?_
    refine zD Z (fun h0 => absurd (.inr (.inr ⟨Z, h0⟩)) hsyn) (fun h0 => ?_)
    refine rn9 ?_
    exact fin _ ⟨Z, Z, Z, trivial⟩
 by_cases hl : 2000 < n.length ∨ 2000 < d.length
 ·rw [if_pos hl] at hR
  refine rn6 ?_
  refine zAt Z Z (fun h5 => ?_) (fun h5 => ?_)
  ·refine rn6 ?_
   exact zI hR Z Z
  ·refine rn6 ?_
   refine zD Z (fun h0 => ?_) (fun h0 => absurd hl (by omega))
   refine rn2 ?_
   exact zI hR Z Z
 rw [if_neg hl] at hR
 refine rn6 ?_
 refine zAt Z Z (fun h5 => absurd hl (by omega)) (fun h5 => ?_)
 refine rn6 ?_
 refine zD Z (fun h0 => absurd hl (by omega)) (fun h0 => ?_)
 cases ok
 ·rw [if_neg (fun h => Bool.false_ne_true h.1)] at hR
  refine rn18 ?_
  exact zI hR Z Z
 have hp : p = true := by cases p; exact absurd (.inl rfl) hsyn; rfl
 have hq : q = true := by cases q; exact absurd (.inr (.inl ⟨rfl, rfl⟩)) hsyn; rfl
 have c1 := cn.1 hp
 have c2 := cd.1 hq
 have h6 := zJq n c1.2.1 (by omega)
 have h7 := zJq d c2.2.1 (by omega)
 have v1 : (zT (zBG 0 n)).length ≤ 2000 := zJt c1 (by omega)
 have v2 : (zT (zBG 0 d)).length ≤ 2000 := zJt c2 (by omega)
 have h8 := zOI (zBG 0 n) (zBG 0 d) (by omega) (by omega)
 have h9 := one_ok (Nat.gcd (zBG 0 n) (zBG 0 d))
 refine rn6 ?_
 refine zAt Z Z (fun h10 => ?_) (fun h10 => ?_)
 ·rw [if_pos ⟨rfl, .inl h10⟩] at hR
  refine rn6 ?_
  exact zI hR Z Z
 ·refine rn6 ?_
  refine zAt Z Z (fun h11 => ?_) (fun h11 => ?_)
  ·rw [if_pos ⟨rfl, .inr (.inl h11)⟩] at hR
   refine rn6 ?_
   exact zI hR Z Z
  ·by_cases hg : Nat.gcd (zBG 0 n) (zBG 0 d) = 1
   ·rw [decide_eq_true hg] at h9
    rw [if_neg (fun h => by rcases h.2 with e | e | e; exact h10 e; exact h11 e; exact e hg)] at hR
    refine rn2 ?_
    refine zB Z Z Z h6 ?_
    refine rn2 ?_
    refine zB Z Z Z h7 ?_
    repeat (refine zAo rfl rfl ?_)
    refine zB Z Z Z h8 ?_
    repeat (refine zAo rfl rfl ?_)
    refine zB Z Z Z h9 ?_
    refine rn5 ?_
    exact zI hR Z Z
   ·rw [decide_eq_false hg] at h9
    rw [if_pos ⟨rfl, .inr (.inr hg)⟩] at hR
    refine rn2 ?_
    refine zB Z Z Z h6 ?_
    refine rn2 ?_
    refine zB Z Z Z h7 ?_
    repeat (refine zAo rfl rfl ?_)
    refine zB Z Z Z h8 ?_
    repeat (refine zAo rfl rfl ?_)
    refine zB Z Z Z h9 ?_
    refine rn5 ?_
    exact zI hR Z Z
theorem zFx {α : Type} {l : List α} {d : α} {k : Nat} (h : k < l.length) : l.drop k = l.getD k d :: l.drop (k + 1) := by
 rw [List.drop_eq_getElem_cons h]; simp [List.getD, h]
theorem zG8 (l : List (List UInt8)) (hlen : l.length ≤ 9223372036854775807) (hs : ∀ s ∈ l, s.length ≤ 9223372036854775807) : zU Tryz.prog 88 [.ro (.strs l) 0 l.length] (.int .i64 (zFc l)) := by
 refine zS.value0 (zE (P := Tryz.prog) (fn := Tryz.f88) Z Z (by kernel_rfl) Z (fun c hR hfix => ?_)) (fix := fun _ => False) (fun _ h => h) Z Z
 refine rn3 ?_
 refine zh (ι := Nat) (fun k => [(0, .ro (.strs l) 0 l.length), (6, .ro (.strs l) 0 l.length), (7, .int .i64 (l.length : Nat)), (8, .int .i64 (k : Nat))]) (fun _ => [])
  (fun k => k ≤ l.length ∧ zFc l = zFc (l.drop k)) (fun k => l.length - k) 0 ⟨⟨rfl, rfl, rfl, rfl, trivial⟩, rfl, Nat.zero_le _, by rw [List.drop_zero]⟩ ?_
 intro k ⟨hk, hE⟩
 refine rn4 ?_
 refine zD Z (fun h => ?_) (fun h => ?_)
 ·have hk' : k < l.length := by omega
  have hd := zFx (d := []) hk'
  have hc := zHZ (l.getD k []) (hs _ (zAp [] hk'))
  rw [hd, zFc] at hE
  refine zGh ?_
  refine zB Z Z Z hc ?_
  refine rn3 ?_
  refine zD Z (fun h2 => ?_) (fun h2 => ?_)
  ·rw [if_neg h2] at hE
   refine rn6 ?_
   refine zI hR Z ?_
   rw [hE]; rfl
  ·rw [if_pos (Classical.not_not.1 h2)] at hE
   refine rn5 ?_
   refine zM ⟨k + 1, ⟨by omega, hE⟩, by omega, ⟨Z, Z, Z, Z, trivial⟩, Z⟩
 ·have hk' : k = l.length := by omega
  subst hk'
  rw [List.drop_length] at hE
  refine rn5 ?_
  refine zI hR Z ?_
  rw [hE]; rfl
theorem sz_v {s : List UInt8} (h : zAy s = 0) : Sz 2000 (zg s) := by
 have hp := zFq h
 refine ⟨?_, ?_⟩
 ·rw [hp.num, zFK]; exact zJt hp.cn hp.ln
 ·rw [hp.den]
  cases e : zGf s
  ·rw [zHa e, zKn]; decide
  ·rw [zFw e]; exact zJt (hp.cd e).1 hp.ld
theorem Sz.mono {j k : Nat} {q : Rat} (h : Sz j q) (hk : j ≤ k) : Sz k q := ⟨Nat.le_trans h.1 hk, Nat.le_trans h.2 hk⟩
theorem sz_frac {n d : Int} {k : Nat} (hd : d ≠ 0) (h1 : (zT n.natAbs).length ≤ k) (h2 : (zT d.natAbs).length ≤ k) : Sz k (Rat.divInt n d) := by
 obtain ⟨e1, e2, _⟩ := zHu n d hd
 refine ⟨?_, ?_⟩
 ·rw [e1]; exact zFQ (Nat.div_le_self _ _) h1
 ·rw [e2]; exact zFQ (Nat.div_le_self _ _) h2
theorem sz_add {p q : Rat} {k : Nat} (hp : Sz k p) (hq : Sz k q) : Sz (k + k + 1) (p + q) := by
 have l1 : (zT (q.den : Int).natAbs).length ≤ k := hq.2
 have l2 : (zT (p.den : Int).natAbs).length ≤ k := hp.2
 rw [← zK1]
 refine sz_frac (by have := Nat.mul_ne_zero p.den_nz q.den_nz; omega) (zNg (zE2 hp.1 l1) (zE2 hq.1 l2)) ?_
 rw [Int.natAbs_natCast]
 have := zJy hp.2 hq.2
 omega
theorem rtwo_ok (a b : List UInt8) (ha : a.length ≤ 9223372036854775807) (hb : b.length ≤ 9223372036854775807) (g : FuncId) (F : Rat → Rat → Rat) (hF : zFc [a, b] = 0 → zU Tryz.prog g [qA (zg a), qA (zg b)] (qA (F (zg a) (zg b))) ∧ Sz 100000 (F (zg a) (zg b))) : zU Tryz.prog 99 [.str a, .str b, .fn g []] (zGz (zKP F a b)) := by
 have h1 := zG8 [a, b] (by show 2 ≤ _; decide) (by intro s hs; simp at hs; rcases hs with rfl | rfl <;> assumption)
 unfold zKP
 by_cases hE : zFc [a, b] = 0
 ·obtain ⟨h2, hz⟩ := hF hE
  rw [if_pos hE]
  rw [hE] at h1
  have ea := zAS hE a (by simp)
  have eb := zAS hE b (by simp)
  have h3 := zDB a ha ea
  have h4 := zDB b hb eb
  have h5 := zMf _ hz
  refine zS.value0 (zE (P := Tryz.prog) (fn := Tryz.f99) Z Z (by kernel_rfl) Z (fun c hR hfix => ?_)) (fix := fun _ => False) (fun _ h => h) Z Z
  generalize zHd (F (zg a) (zg b)) = r at *
  unfold zGz at *
  refine rn3 ?_
  refine zB Z Z Z h1 ?_
  refine rn4 ?_
  refine zB Z Z Z h3 ?_
  repeat (refine zG (zL rfl) ?_)
  refine zB Z Z Z h4 ?_
  skip
  refine zB Z Z Z h2 ?_
  skip
  refine zB Z Z Z h5 ?_
  refine rn2 ?_
  exact zI hR Z Z
 ·rw [if_neg hE]
  generalize zFc [a, b] = e at *
  refine zS.value0 (zE (P := Tryz.prog) (fn := Tryz.f99) Z Z (by kernel_rfl) Z (fun c hR hfix => ?_)) (fix := fun _ => False) (fun _ h => h) Z Z
  refine rn3 ?_
  refine zB Z Z Z h1 ?_
  refine rn3 ?_
  refine zD Z (fun h2 => ?_) (fun h2 => absurd hE h2)
  refine rn2 ?_
  exact zI hR Z Z
theorem rone_ok (a : List UInt8) (ha : a.length ≤ 9223372036854775807) (g : FuncId) (F : Rat → Rat) (hF : zAy a = 0 → zU Tryz.prog g [qA (zg a)] (qA (F (zg a))) ∧ Sz 100000 (F (zg a))) : zU Tryz.prog 78 [.str a, .fn g []] (zGz (oneR F a)) := by
 have h1 := zHZ a ha
 unfold oneR
 by_cases hE : zAy a = 0
 ·obtain ⟨h2, hz⟩ := hF hE
  rw [if_pos hE]
  have h3 := zDB a ha hE
  rw [hE] at h1
  have h5 := zMf _ hz
  refine zS.value0 (zE (P := Tryz.prog) (fn := Tryz.f78) Z Z (by kernel_rfl) Z (fun c hR hfix => ?_)) (fix := fun _ => False) (fun _ h => h) Z Z
  generalize zHd (F (zg a)) = r at *
  unfold zGz at *
  refine rn0 ?_
  refine zB Z Z Z h1 ?_
  refine rn4 ?_
  refine zB Z Z Z h3 ?_
  skip
  refine zB Z Z Z h2 ?_
  skip
  refine zB Z Z Z h5 ?_
  refine rn2 ?_
  exact zI hR Z Z
 ·rw [if_neg hE]
  generalize zAy a = e at *
  refine zS.value0 (zE (P := Tryz.prog) (fn := Tryz.f78) Z Z (by kernel_rfl) Z (fun c hR hfix => ?_)) (fix := fun _ => False) (fun _ h => h) Z Z
  refine rn0 ?_
  refine zB Z Z Z h1 ?_
  refine rn3 ?_
  refine zD Z (fun h2 => ?_) (fun h2 => absurd hE h2)
  refine rn2 ?_
  exact zI hR Z Z
theorem radd_ok (a b : List UInt8) (ha : a.length ≤ 9223372036854775807) (hb : b.length ≤ 9223372036854775807) : zU Tryz.prog 33 [.str a, .str b] (zGz (zKP (fun x y => x + y) a b)) := by
 have h1 := rtwo_ok a b ha hb 91 (fun x y => x + y) (fun hE => by
  have za := sz_v (zAS hE a (by simp))
  have zb := sz_v (zAS hE b (by simp))
  exact ⟨zPs _ _ (za.mono (by decide)) (zb.mono (by decide)), (sz_add za zb).mono (by decide)⟩)
 refine zS.value0 (zE (P := Tryz.prog) (fn := Tryz.f33) Z Z (by kernel_rfl) Z (fun c hR hfix => ?_)) (fix := fun _ => False) (fun _ h => h) Z Z
 generalize zKP (fun x y => x + y) a b = r at *
 unfold zGz at *
 refine rn0 ?_
 refine zB Z Z Z h1 ?_
 refine rn2 ?_
 exact zI hR Z Z
theorem rneg_ok (a : List UInt8) (ha : a.length ≤ 9223372036854775807) : zU Tryz.prog 20 [.str a] (zGz (oneR (fun x => -x) a)) := by
 have h1 := rone_ok a ha 79 (fun x => -x) (fun hE => by
  have za := sz_v hE
  exact ⟨qopp_ok _, (sz_neg za).mono (by decide)⟩)
 refine zS.value0 (zE (P := Tryz.prog) (fn := Tryz.f20) Z Z (by kernel_rfl) Z (fun c hR hfix => ?_)) (fix := fun _ => False) (fun _ h => h) Z Z
 generalize oneR (fun x => -x) a = r at *
 unfold zGz at *
 refine rn0 ?_
 refine zB Z Z Z h1 ?_
 refine rn2 ?_
 exact zI hR Z Z
theorem rcmp_ok (a b : List UInt8) (ha : a.length ≤ 9223372036854775807) (hb : b.length ≤ 9223372036854775807) : zU Tryz.prog 25 [.str a, .str b] (.tup [.int .i64 (cmpR a b).1, .int .i64 (cmpR a b).2]) := by
 have h1 := zG8 [a, b] (by show 2 ≤ _; decide) (by intro s hs; simp at hs; rcases hs with rfl | rfl <;> assumption)
 unfold cmpR
 by_cases hE : zFc [a, b] = 0
 ·rw [if_pos hE]
  rw [hE] at h1
  have ea := zAS hE a (by simp)
  have eb := zAS hE b (by simp)
  have h3 := zDB a ha ea
  have h4 := zDB b hb eb
  have h5 := zII _ _ ((sz_v ea).mono (by decide)) ((sz_v eb).mono (by decide))
  refine zS.value0 (zE (P := Tryz.prog) (fn := Tryz.f25) Z Z (by kernel_rfl) Z (fun c hR hfix => ?_)) (fix := fun _ => False) (fun _ h => h) Z Z
  refine rn3 ?_
  refine zB Z Z Z h1 ?_
  refine rn4 ?_
  refine zB Z Z Z h3 ?_
  repeat (refine zG (zL rfl) ?_)
  refine zB Z Z Z h4 ?_
  skip
  refine zB Z Z Z h5 ?_
  refine rn0 ?_
  exact zI hR Z Z
 ·rw [if_neg hE]
  generalize zFc [a, b] = e at *
  refine zS.value0 (zE (P := Tryz.prog) (fn := Tryz.f25) Z Z (by kernel_rfl) Z (fun c hR hfix => ?_)) (fix := fun _ => False) (fun _ h => h) Z Z
  refine rn3 ?_
  refine zB Z Z Z h1 ?_
  refine rn3 ?_
  refine zD Z (fun h2 => ?_) (fun h2 => absurd hE h2)
  refine rn2 ?_
  exact zI hR Z Z
theorem rsign_ok (a : List UInt8) (ha : a.length ≤ 9223372036854775807) : zU Tryz.prog 32 [.str a] (.tup [.int .i64 (zM7 a).1, .int .i64 (zM7 a).2]) := by
 have h1 := zHZ a ha
 unfold zM7
 by_cases hE : zAy a = 0
 ·rw [if_pos hE]
  have h3 := zDB a ha hE
  rw [hE] at h1
  have h5 := zEB (zg a)
  refine zS.value0 (zE (P := Tryz.prog) (fn := Tryz.f32) Z Z (by kernel_rfl) Z (fun c hR hfix => ?_)) (fix := fun _ => False) (fun _ h => h) Z Z
  refine rn0 ?_
  refine zB Z Z Z h1 ?_
  refine rn4 ?_
  refine zB Z Z Z h3 ?_
  skip
  refine zB Z Z Z h5 ?_
  refine rn0 ?_
  exact zI hR Z Z
 ·rw [if_neg hE]
  generalize zAy a = e at *
  refine zS.value0 (zE (P := Tryz.prog) (fn := Tryz.f32) Z Z (by kernel_rfl) Z (fun c hR hfix => ?_)) (fix := fun _ => False) (fun _ h => h) Z Z
  refine rn0 ?_
  refine zB Z Z Z h1 ?_
  refine rn3 ?_
  refine zD Z (fun h2 => ?_) (fun h2 => absurd hE h2)
  refine rn2 ?_
  exact zI hR Z Z
section
variable {α : Type}
theorem zN3 (d : α) (n : Nat) (e : α → List AV) (ls : List α) (s : α) (cx : Cells) (h0 : ∀ j, j < n → cx.at 0 j = (e s).getD j .any) (i j : Nat) (hi : i < ls.length + 1) (hj : j < n) :
 (bif Nat.blt i ls.length then (zDg d n e ls).at i j else cx.at (0 + (i - ls.length)) j) = (zDg d n e (ls ++ [s])).at i j := by
 rcases Nat.lt_or_ge i ls.length with h | h
 ·have e1 : Nat.blt i ls.length = true := by rw [Nat.blt_eq]; exact h
  rw [e1]
  simp only [zDg, Cells.at, cond_true, List.getD, List.getElem?_append_left h]
 ·have hie : i = ls.length := by omega
  have e1 : Nat.blt i ls.length = false := by rw [← Bool.not_eq_true, Nat.blt_eq]; omega
  subst hie
  rw [e1]
  simp only [cond_false, Nat.sub_self, Nat.zero_add]
  rw [h0 j hj]
  simp [zDg, Cells.at, List.getD]
theorem zBX (d : α) (n : Nat) (e : α → List AV) (ls : List α) (s : α) (cx : Cells) (h0 : ∀ j, j < n → cx.at 0 j = (e s).getD j .any) :
 CEq (.fn (ls.length + 1) n (fun i j => bif Nat.blt i ls.length then (zDg d n e ls).at i j else cx.at (0 + (i - ls.length)) j)) (zDg d n e (ls ++ [s])) := by
 refine ⟨by simp [zDg, Cells.len], Z, fun i j hi hj => ?_⟩
 exact (zN3 d n e ls s cx h0 i j hi hj).symm
theorem zA9 (d : α) (n : Nat) (e : α → List AV) (hn : ∀ a j h, j < n → ((e a).getD j .any).forget h = (e a).getD j .any) (ls : List α) (s : α) (cx : Cells) (h0 : ∀ j, j < n → cx.at 0 j = (e s).getD j .any) (h i j : Nat) (hi : i < ls.length + 1) (hj : j < n) :
 (bif Nat.blt i ls.length then (zDg d n e ls).at i j else cx.at (0 + (i - ls.length)) j).forget h = (bif Nat.blt i ls.length then (zDg d n e ls).at i j else cx.at (0 + (i - ls.length)) j) := by
 rw [zN3 d n e ls s cx h0 i j hi hj]; exact hn _ _ _ hj
theorem zAx {β : Type} (f : α → β) (l : List α) (d : α) (k : Nat) (hk : k < l.length) : (l.take (k + 1)).map f = (l.take k).map f ++ [f (l.getD k d)] := by
 rw [List.take_succ_eq_append_getElem hk, List.map_append]; simp [List.getD, hk]
end
def zq (q : Rat) : List AV := [.bool (decide (q.num < 0)), zf q.num.natAbs, zf q.den]
abbrev qsC (l : List Rat) : Cells := zDg 0 3 zq l
theorem zBS (q : Rat) (j h : Nat) (hj : j < 3) : ((zq q).getD j .any).forget h = (zq q).getD j .any := by
 match j, hj with
 | 0, _ => rfl
 | 1, _ => rfl
 | 2, _ => rfl
theorem zBk (l : List Rat) : zAK (qsC l) := by
 intro i j _ hj
 show noRef ((zq (l.getD i 0)).getD j .any) = true
 have hj : j < 3 := hj
 match j, hj with
 | 0, _ => rfl
 | 1, _ => rfl
 | 2, _ => rfl
theorem zDb (q : Rat) (j : Nat) (hj : j < 3) : (zB4 1 3 [.bool (decide (q.num < 0)), zf q.num.natAbs, zf q.den]).at 0 j = (zq q).getD j .any := by
 match j, hj with
 | 0, _ => rfl
 | 1, _ => rfl
 | 2, _ => rfl
theorem in_ok (l : List (List UInt8)) (hlen : l.length ≤ 1000000) (hs : ∀ s ∈ l, s.length ≤ 9223372036854775807 ∧ zAy s = 0) : zU Tryz.prog 104 [.ro (.strs l) 0 l.length] (.ro (qsC (l.map zg)) 0 l.length) := by
 refine zS.value0 (zE (P := Tryz.prog) (fn := Tryz.f104) Z Z (by kernel_rfl) Z (fun c hR hfix => ?_)) (fix := fun _ => False) (fun _ h => h) Z Z
 refine rn8 ?_
 refine zAi 3 ⟨122, qsC []⟩ Z Z ?_
 repeat (refine z7 ?_)
 refine zh (ι := Nat) (fun k => [(0, .ro (.strs l) 0 l.length), (3, .sl 0 0 k), (6, .ro (.strs l) 0 l.length), (7, .int .i64 (l.length : Nat)), (8, .int .i64 (k : Nat))]) (fun k => [some ⟨122, qsC ((l.take k).map zg)⟩])
  (fun k => k ≤ l.length) (fun k => l.length - k) 0 ⟨⟨rfl, rfl, rfl, rfl, rfl, trivial⟩, rfl, Nat.zero_le _⟩ ?_
 intro k hk
 refine rn4 ?_
 refine zD Z (fun h => ?_) (fun h => ?_)
 ·have hk' : k < l.length := by omega
  obtain ⟨b1, b2⟩ := hs _ (zAp [] hk')
  have hc := zDB (l.getD k []) b1 b2
  have htk := zAx zg l [] k hk'
  have hml : ((l.take k).map zg).length = k := by rw [List.length_map, List.length_take]; omega
  generalize (l.take k).map zg = qs at *
  refine zGh ?_
  refine zB Z Z Z hc ?_
  unfold qA
  repeat (refine zW rfl rfl rfl rfl rfl rfl rfl rfl rfl rfl rfl ?_)
  refine zAG Z Z Z Z Z Z Z Z Z hml Z Z (by show 0 + 1 ≤ 1; omega) Z (by show (k + 1) * 56 ≤ _ ∧ _; omega) ?_ (by rw [hfix]; exact fun h => h) ?_
  ·intro i' j hi hj
   exact zA9 0 3 zq zBS qs (zg (l.getD k [])) _ (zDb _) 0 i' j hi hj
  refine zEg ?_
  refine zF ?_
  refine zBH [some ⟨122, qsC ((l.take (k + 1)).map zg)⟩] ?_ ?_
  ·rw [htk]
   exact ze.eqv (zBX 0 3 zq qs (zg (l.getD k [])) _ (zDb _)) ze.nil
  refine rn3 ?_
  exact zM ⟨k + 1, by omega, by omega, ⟨Z, Z, Z, Z, Z, trivial⟩, Z⟩
 ·have hk' : k = l.length := by omega
  subst hk'
  rw [List.take_length]
  refine zEL ?_
  refine zAW 0 3 l.length [] Z (zBk _) Z (by show _ ≤ (l.map zg).length; rw [List.length_map]; exact Nat.le_refl _) trivial ?_
  refine rn0 ?_
  exact zI hR Z Z
end Go.Proofs.YtnkealfaldjipaaGreatDoor
namespace Go.Proofs.YtnkealfaldjipaaGreatDoor
open Go.Ax Go.Ax.Bg Go.Ax.Rt Go.RowKit
attribute [local irreducible] Ax zBZ QOp zS zBC
set_option maxRecDepth 100000
set_option maxHeartbeats 4000000
open Go.Ax.Idx Go.Ax.Cd
theorem zO1 (l : List Rat) (hlen : l.length ≤ 1000000) (hs : ∀ q ∈ l, Sz 100000 q) (hall : l.all zCM = true) : zU Tryz.prog 80 [.ro (qsC l) 0 l.length] (.tup [.ro (.strs (l.map zj)) 0 l.length, .int .i64 0]) := by
 refine zS.value0 (zE (P := Tryz.prog) (fn := Tryz.f80) Z Z (by kernel_rfl) Z (fun c hR hfix => ?_)) (fix := fun _ => False) (fun _ h => h) Z Z
 refine rn8 ?_
 refine zAi 4 ⟨27, .strs []⟩ Z Z ?_
 repeat (refine z7 ?_)
 refine zh (ι := Nat) (fun k => [(0, .ro (qsC l) 0 l.length), (4, .sl 0 0 k), (9, .ro (qsC l) 0 l.length), (10, .int .i64 (l.length : Nat)), (11, .int .i64 (k : Nat))]) (fun k => [some ⟨27, .strs ((l.take k).map zj)⟩])
  (fun k => k ≤ l.length ∧ (l.drop k).all zCM = true) (fun k => l.length - k) 0 ⟨⟨rfl, rfl, rfl, rfl, rfl, trivial⟩, rfl, Nat.zero_le _, hall⟩ ?_
 rintro k ⟨hk, hA⟩
 refine rn4 ?_
 refine zD Z (fun h => ?_) (fun h => ?_)
 ·have hk' : k < l.length := by omega
  have hz := hs _ (zAp 0 hk')
  have hd := zFx (d := (0 : Rat)) hk'
  rw [hd, List.all_cons] at hA
  have htk := zAx zj l 0 k hk'
  have hml : ((l.take k).map zj).length = k := by rw [List.length_map, List.length_take]; omega
  generalize hX : (l.take k).map zj = ts at *
  refine rn6 ?_
  refine zA 14 (.agg (zq (l.getD k 0))) Z (AEq.of_eq Z) ?_
  generalize l.getD k 0 = q at *
  refine zN (c' := .box (zq q)) Z Z Z Z Z Nat.zero_lt_one Z Z (fun i' j' hi' hj' => ?_) ?_
  ·rw [if_pos (Nat.lt_one_iff.1 hi')]; rfl
  rw [Bool.and_eq_true] at hA
  have hc := zMd q hz hA.1
  refine rn6 ?_
  refine zB Z Z Z hc ?_
  refine rn4 ?_
  refine zAG Z Z Z Z Z Z Z Z Z hml Z Z (by show 0 + 1 ≤ 1; omega) Z (by show (k + 1) * 16 ≤ _ ∧ _; omega) (fun i j _ _ => rfl) (by rw [hfix]; exact fun h => h) ?_
  refine zEg ?_
  refine zF ?_
  refine zBH ([some ⟨27, .strs ((l.take (k + 1)).map zj)⟩] ++ [none]) ?_ ?_
  ·rw [htk]
   exact ze.eqv (CEq.refl _) (ze.drop ze.nil)
  refine zEn (H1 := [some ⟨27, .strs ((l.take (k + 1)).map zj)⟩]) Z (by rw [hfix]; exact fun h => h) ?_
  refine rn3 ?_
  exact zM ⟨k + 1, ⟨by omega, hA.2⟩, by omega, ⟨Z, Z, Z, Z, Z, trivial⟩, Z⟩
 ·have hk' : k = l.length := by omega
  subst hk'
  rw [List.take_length]
  refine zEL ?_
  refine zAW 0 4 l.length [] Z (fun _ _ _ _ => rfl) Z (by show _ ≤ (l.map zj).length; rw [List.length_map]; exact Nat.le_refl _) trivial ?_
  refine rn0 ?_
  exact zI hR Z Z
theorem zQ3 (l : List Rat) (hlen : l.length ≤ 1000000) (hs : ∀ q ∈ l, Sz 100000 q) (hall : l.all zCM = false) : zU Tryz.prog 80 [.ro (qsC l) 0 l.length] (.tup [.nil, .int .i64 2]) := by
 refine zS.value0 (zE (P := Tryz.prog) (fn := Tryz.f80) Z Z (by kernel_rfl) Z (fun c hR hfix => ?_)) (fix := fun _ => False) (fun _ h => h) Z Z
 refine rn8 ?_
 refine zAi 4 ⟨27, .strs []⟩ Z Z ?_
 repeat (refine z7 ?_)
 refine zh (ι := Nat) (fun k => [(0, .ro (qsC l) 0 l.length), (4, .sl 0 0 k), (9, .ro (qsC l) 0 l.length), (10, .int .i64 (l.length : Nat)), (11, .int .i64 (k : Nat))]) (fun k => [some ⟨27, .strs ((l.take k).map zj)⟩])
  (fun k => k ≤ l.length ∧ (l.drop k).all zCM = false) (fun k => l.length - k) 0 ⟨⟨rfl, rfl, rfl, rfl, rfl, trivial⟩, rfl, Nat.zero_le _, hall⟩ ?_
 rintro k ⟨hk, hA⟩
 refine rn4 ?_
 refine zD Z (fun h => ?_) (fun h => ?_)
 ·have hk' : k < l.length := by omega
  have hz := hs _ (zAp 0 hk')
  have hd := zFx (d := (0 : Rat)) hk'
  rw [hd, List.all_cons] at hA
  have htk := zAx zj l 0 k hk'
  have hml : ((l.take k).map zj).length = k := by rw [List.length_map, List.length_take]; omega
  generalize hX : (l.take k).map zj = ts at *
  refine rn6 ?_
  refine zA 14 (.agg (zq (l.getD k 0))) Z (AEq.of_eq Z) ?_
  generalize l.getD k 0 = q at *
  refine zN (c' := .box (zq q)) Z Z Z Z Z Nat.zero_lt_one Z Z (fun i' j' hi' hj' => ?_) ?_
  ·rw [if_pos (Nat.lt_one_iff.1 hi')]; rfl
  cases hf : zCM q
  ·have hc := out_no q hz hf
   refine rn6 ?_
   refine zB Z Z Z hc ?_
   refine rn6 ?_
   exact zI hR Z Z
  ·have hc := zMd q hz hf
   rw [hf, Bool.true_and] at hA
   refine rn6 ?_
   refine zB Z Z Z hc ?_
   refine rn4 ?_
   refine zAG Z Z Z Z Z Z Z Z Z hml Z Z (by show 0 + 1 ≤ 1; omega) Z (by show (k + 1) * 16 ≤ _ ∧ _; omega) (fun i j _ _ => rfl) (by rw [hfix]; exact fun h => h) ?_
   refine zEg ?_
   refine zF ?_
   refine zBH ([some ⟨27, .strs ((l.take (k + 1)).map zj)⟩] ++ [none]) ?_ ?_
   ·rw [htk]
    exact ze.eqv (CEq.refl _) (ze.drop ze.nil)
   refine zEn (H1 := [some ⟨27, .strs ((l.take (k + 1)).map zj)⟩]) Z (by rw [hfix]; exact fun h => h) ?_
   refine rn3 ?_
   exact zM ⟨k + 1, ⟨by omega, hA⟩, by omega, ⟨Z, Z, Z, Z, Z, trivial⟩, Z⟩
 ·have hk' : k = l.length := by omega
  subst hk'
  rw [List.drop_length] at hA
  exact absurd hA (by decide)
end Go.Proofs.YtnkealfaldjipaaGreatDoor
namespace Go.Proofs.YtnkealfaldjipaaGreatDoor
open Go.Ax Go.Ax.Bg Go.Ax.Rt Go.RowKit
attribute [local irreducible] Ax zBZ QOp zS zBC
set_option maxRecDepth 100000
set_option maxHeartbeats 4000000
theorem zJp : zU Tryz.prog 85 [.int .i64 0] (qA 0) := qof_ok 0 (by decide)
theorem of_one : zU Tryz.prog 85 [.int .i64 1] (qA 1) := qof_ok 1 (by decide)
theorem zN9 {q : Rat} : sgn q.num = 0 ↔ q = 0 := by
 rw [← Rat.num_eq_zero]
 unfold sgn
 split
 ·omega
 ·split <;> omega
end Go.Proofs.YtnkealfaldjipaaGreatDoor
namespace Go.Ax.Rt
open Go.Ax.Bg
theorem Parts.fit {s : List UInt8} {q : Rat} (h : Parts s q) : zCM q = true := by
 unfold zCM
 rw [Bool.and_eq_true, decide_eq_true_eq, decide_eq_true_eq, h.num, h.den, zFK, zF1 h.cn]
 refine ⟨h.ln, ?_⟩
 cases e : zGf s
 ·rw [zHa e, Lib.decDigits_one (by decide)]; decide
 ·rw [zFw e, zF1 (h.cd e).1]; exact h.ld
/-- A text that spells q. -/
def IsQ (s : List UInt8) (q : Rat) : Prop := zAy s = 0 ∧ zg s = q
instance (s : List UInt8) (q : Rat) : Decidable (IsQ s q) := inferInstanceAs (Decidable (_ ∧ _))
theorem IsQ.self {s : List UInt8} (h : zAy s = 0) : IsQ s (zg s) := ⟨h, rfl⟩
theorem IsQ.text {s : List UInt8} {q : Rat} (h : IsQ s q) : zj q = s := by
 have := (zFq h.1).text
 rwa [h.2] at this
theorem IsQ.fit {s : List UInt8} {q : Rat} (h : IsQ s q) : zCM q = true := by
 have := (zFq h.1).fit
 rwa [h.2] at this
theorem zE1 {q : Rat} (h : zCM q = true) : IsQ (zj q) q := rat_of h
theorem IsQ.out {s : List UInt8} {q : Rat} (h : IsQ s q) : zHd q = (s, 0) := by
 unfold zHd
 rw [if_pos h.fit, h.text]
theorem IsQ.all2 {a b : List UInt8} {x y : Rat} (ha : IsQ a x) (hb : IsQ b y) : zFc [a, b] = 0 := by
 refine zGa (fun s hs => ?_)
 simp at hs
 rcases hs with rfl | rfl
 ·exact ha.1
 ·exact hb.1
theorem IsQ.two {a b : List UInt8} {x y : Rat} (F : Rat → Rat → Rat) (ha : IsQ a x) (hb : IsQ b y) : zKP F a b = zHd (F x y) := by
 unfold zKP
 rw [if_pos (ha.all2 hb), ha.2, hb.2]
theorem IsQ.one {a : List UInt8} {x : Rat} (F : Rat → Rat) (ha : IsQ a x) : oneR F a = zHd (F x) := by
 unfold oneR
 rw [if_pos ha.1, ha.2]
theorem IsQ.cmp {a b : List UInt8} {x y : Rat} (ha : IsQ a x) (hb : IsQ b y) : cmpR a b = (zD0 x y, 0) := by
 unfold cmpR
 rw [if_pos (ha.all2 hb), ha.2, hb.2]
theorem IsQ.sign {a : List UInt8} {x : Rat} (ha : IsQ a x) : zM7 a = (sgn x.num, 0) := by
 unfold zM7
 rw [if_pos ha.1, ha.2]
/-- Numbers of at most so many digits. -/
def D (k : Nat) (q : Rat) : Prop := q.num.natAbs < 10 ^ k ∧ q.den < 10 ^ k
theorem D.mono {j k : Nat} {q : Rat} (h : D j q) (hk : j ≤ k) : D k q :=
 ⟨Nat.lt_of_lt_of_le h.1 (Nat.pow_le_pow_right (by decide) hk), Nat.lt_of_lt_of_le h.2 (Nat.pow_le_pow_right (by decide) hk)⟩
theorem D.fit {k : Nat} {q : Rat} (h : D k q) (hk : k ≤ 2000) : zCM q = true := by
 unfold zCM
 rw [Bool.and_eq_true, decide_eq_true_eq, decide_eq_true_eq]
 exact ⟨TB_len (lt_big h.1 hk), TB_len (lt_big h.2 hk)⟩
theorem D.out {k : Nat} {q : Rat} (h : D k q) (hk : k ≤ 2000) : zHd q = (zj q, 0) ∧ IsQ (zj q) q := ⟨(zE1 (h.fit hk)).out, zE1 (h.fit hk)⟩
theorem IsQ.dig {s : List UInt8} {q : Rat} (h : IsQ s q) {k : Nat} (hk : s.length ≤ k) (h1 : 1 ≤ k) : D k q := by
 have ht := h.text
 have hl : (zj q).length ≤ k := by rw [ht]; exact hk
 unfold zj at hl
 rw [List.length_append, List.length_append] at hl
 refine ⟨Nat.lt_of_lt_of_le (zEx _) (Nat.pow_le_pow_right (by decide) (by omega)), ?_⟩
 by_cases hd : q.den = 1
 ·rw [hd]
  exact Nat.lt_of_lt_of_le (show 1 < 10 ^ 1 by decide) (Nat.pow_le_pow_right (by decide) h1)
 ·rw [if_neg hd, List.length_cons] at hl
  exact Nat.lt_of_lt_of_le (zEx _) (Nat.pow_le_pow_right (by decide) (by omega))
theorem zGj {n d : Int} {k : Nat} (hd : d ≠ 0) (h1 : n.natAbs < 10 ^ k) (h2 : d.natAbs < 10 ^ k) : D k (Rat.divInt n d) := by
 obtain ⟨e1, e2, _⟩ := zHu n d hd
 refine ⟨?_, ?_⟩
 ·rw [e1]; exact Nat.lt_of_le_of_lt (Nat.div_le_self _ _) h1
 ·rw [e2]; exact Nat.lt_of_le_of_lt (Nat.div_le_self _ _) h2
theorem D.add {p q : Rat} {j k : Nat} (hp : D j p) (hq : D k q) : D (j + k + 1) (p + q) := by
 rw [← zK1]
 have a1 := zIC hp.1 hq.2
 have a2 := zIC hq.1 hp.2
 rw [Nat.add_comm k j] at a2
 have a3 := zIC hp.2 hq.2
 refine zGj (by have := Nat.mul_ne_zero p.den_nz q.den_nz; omega) ?_ ?_
 ·have h := Int.natAbs_add_le (p.num * q.den) (q.num * p.den)
  rw [Int.natAbs_mul, Int.natAbs_mul, Int.natAbs_natCast, Int.natAbs_natCast] at h
  exact Nat.lt_of_le_of_lt h (add_big a1 a2)
 ·rw [Int.natAbs_natCast]
  exact Nat.lt_of_lt_of_le a3 (Nat.pow_le_pow_right (by decide) (by omega))
theorem D.neg {q : Rat} {k : Nat} (h : D k q) : D k (-q) := by
 refine ⟨?_, h.2⟩
 show (-q.num).natAbs < _
 rw [Int.natAbs_neg]; exact h.1
theorem D.mul {p q : Rat} {j k : Nat} (hp : D j p) (hq : D k q) : D (j + k) (p * q) := by
 rw [← zNP]
 refine zGj (by have := Nat.mul_ne_zero p.den_nz q.den_nz; omega) ?_ ?_
 ·rw [Int.natAbs_mul]; exact zIC hp.1 hq.1
 ·rw [Int.natAbs_natCast]; exact zIC hp.2 hq.2
theorem div_one (q : Rat) : q / 1 = q := by
 have := Rat.mul_div_cancel (a := q) (b := 1) (by decide)
 rwa [Rat.mul_one] at this
theorem zEy {s : List UInt8} (h : zAy s = 0) : zE8 s = false ↔ 0 ≤ zg s := by
 have hp := zFq h
 have h1 := zKH (zE8 s) (zBG 0 (zEQ s))
 rw [← hp.num] at h1
 rw [← Rat.num_nonneg]
 cases e : zE8 s
 ·rw [e] at h1; simp at h1; simpa using h1
 ·have h2 : (zg s).num < 0 := by
   have h3 := hp.ng e
   rw [e] at h1
   simpa [h3] using h1
  exact ⟨fun q => absurd q (by decide), fun q => absurd h2 (by omega)⟩
def zA8 (f : Nat → Rat) : Nat → Rat
 | 0 => 0
 | n + 1 => zA8 f n + f n
theorem zBi {f g : Nat → Rat} : ∀ {n : Nat}, (∀ i, i < n → f i = g i) → zA8 f n = zA8 g n
 | 0, _ => rfl
 | n + 1, h => by rw [zA8, zA8, zBi (fun i hi => h i (by omega)), h n (by omega)]
theorem zIr : ∀ n : Nat, zA8 (fun _ => 0) n = 0
 | 0 => rfl
 | n + 1 => by rw [zA8, zIr n, Rat.add_zero]
theorem zM0 (f g : Nat → Rat) : ∀ n : Nat, zA8 (fun i => f i + g i) n = zA8 f n + zA8 g n
 | 0 => by rw [zA8, zA8, zA8, Rat.add_zero]
 | n + 1 => by
  rw [zA8, zA8, zA8, zM0 f g n]
  rw [Rat.add_assoc, Rat.add_assoc, ← Rat.add_assoc (zA8 g n), Rat.add_comm (zA8 g n) (f n), Rat.add_assoc]
theorem zGy (c : Rat) (f : Nat → Rat) : ∀ n : Nat, zA8 (fun i => c * f i) n = c * zA8 f n
 | 0 => by rw [zA8, zA8, Rat.mul_zero]
 | n + 1 => by rw [zA8, zA8, zGy c f n, Rat.mul_add]
theorem zEv (c : Rat) (f : Nat → Rat) : ∀ n : Nat, zA8 (fun i => f i * c) n = zA8 f n * c
 | 0 => by rw [zA8, zA8, Rat.zero_mul]
 | n + 1 => by rw [zA8, zA8, zEv c f n, Rat.add_mul]
theorem zLW (f : Nat → Nat → Rat) (m : Nat) : ∀ n : Nat, zA8 (fun i => zA8 (fun j => f i j) m) n = zA8 (fun j => zA8 (fun i => f i j) n) m
 | 0 => by
  show (0 : Rat) = zA8 (fun j => 0) m
  rw [zIr]
 | n + 1 => by
  rw [zA8, zLW f m n, ← zM0]
  exact zBi (fun i _ => rfl)
theorem zJb {f : Nat → Rat} : ∀ {n : Nat}, (∀ i, i < n → 0 ≤ f i) → 0 ≤ zA8 f n
 | 0, _ => Rat.le_refl
 | n + 1, h => by rw [zA8]; exact Rat.add_nonneg (zJb (fun i hi => h i (by omega))) (h n (by omega))
theorem zOy {j : Nat} {f : Nat → Rat} : ∀ {n : Nat}, (∀ i, i < n → D j (f i)) → D (1 + n * (j + 1)) (zA8 f n)
 | 0, _ => by
  rw [Nat.zero_mul]
  exact ⟨by show (0 : Rat).num.natAbs < _; decide, by show (0 : Rat).den < _; decide⟩
 | n + 1, h => by
  rw [zA8]
  have := (zOy (n := n) (fun i hi => h i (by omega))).add (h n (by omega))
  refine this.mono ?_
  rw [Nat.add_mul]; omega
/-- The sum of the products. -/
def zAB (a b : List Rat) : Rat := zA8 (fun i => a.getD i 0 * b.getD i 0) a.length
def zCK (m : List (List Rat)) (k : Nat) : List Rat := m.map (fun row => row.getD k 0)
def zDu (m : List (List Rat)) (w : Nat) : List (List Rat) := (List.range w).map (zCK m)
def mulQ (a b : List (List Rat)) (w : Nat) : List (List Rat) := a.map (fun row => (zDu b w).map (zAB row))
def zDj (m : List (List Rat)) (v : List Rat) : List Rat := m.map (fun row => zAB row v)
theorem zIK (m : List (List Rat)) (k i : Nat) : (zCK m k).getD i 0 = (m.getD i []).getD k 0 := by
 unfold zCK
 by_cases h : i < m.length
 ·simp [List.getD, h]
 ·simp [List.getD, h]
theorem zFI (m : List (List Rat)) (k : Nat) : (zCK m k).length = m.length := by simp [zCK]
theorem zQY (m : List (List Rat)) {w k : Nat} (hk : k < w) : (zDu m w).getD k [] = zCK m k := by
 simp [zDu, List.getD, hk]
theorem zI8 (m : List (List Rat)) (w : Nat) : (zDu m w).length = w := by simp [zDu]
theorem zCe {α β : Type} (f : α → β) (l : List α) (d : α) (e : β) (i : Nat) (hi : i < l.length) : (l.map f).getD i e = f (l.getD i d) := by simp [List.getD, hi]
theorem zCz {a b : List Rat} {n : Nat} (h : a.length = n) : zAB a b = zA8 (fun i => a.getD i 0 * b.getD i 0) n := by unfold zAB; rw [h]
theorem zOP (m : List (List Rat)) (v : List Rat) {i : Nat} (hi : i < m.length) : (zDj m v).getD i 0 = zAB (m.getD i []) v := by
 unfold zDj; rw [zCe _ _ [] _ _ hi]
theorem zI9 {a b : List Rat} {j k : Nat} (ha : ∀ x ∈ a, D j x) (hb : ∀ x ∈ b, D k x) (hl : a.length ≤ b.length) : D (1 + a.length * (j + k + 1)) (zAB a b) := by
 refine zOy (fun i hi => (ha _ (by simp [List.getD, hi])).mul (hb _ (by simp [List.getD, show i < b.length by omega])))
abbrev zp := List UInt8
def zBd (v : List zp) : Int := if 40 < v.length then 2 else zFc v
def zIN (w : Nat) : List (List zp) → Int
 | [] => 0
 | r :: rs => if r.length = w then (if zBd r = 0 then zIN w rs else zBd r) else 3
def zEG (m : List (List zp)) : Nat := (m.getD 0 []).length
/-- matrix.Check -/
def zGQ (m : List (List zp)) : Int := if 40 < m.length then 2 else zIN (zEG m) m
def inM (m : List (List zp)) : List (List Rat) := m.map (fun r => r.map zg)
def outM (q : List (List Rat)) : List (List zp) × Int := if q.all (fun r => r.all zCM) then (q.map (fun r => r.map zj), 0) else ([], 2)
def zJh (a b : List zp) : zp × Int := if zBd a ≠ 0 then ([], zBd a) else if zBd b ≠ 0 then ([], zBd b) else if a.length = b.length then zHd (zAB (a.map zg) (b.map zg)) else ([], 3)
def zDv (m : List (List zp)) (v : List zp) : List zp × Int := if zGQ m ≠ 0 then ([], zGQ m) else if zBd v ≠ 0 then ([], zBd v) else if m ≠ [] ∧ zEG m ≠ v.length then ([], 3) else zCY (zDj (inM m) (v.map zg))
def mulR (a b : List (List zp)) : List (List zp) × Int := if zGQ a ≠ 0 then ([], zGQ a) else if zGQ b ≠ 0 then ([], zGQ b) else if zEG a = b.length then outM (mulQ (inM a) (inM b) (zEG b)) else ([], 3)
def zBt (m : List (List zp)) : List (List zp) := (List.range (zEG m)).map (fun k => m.map (fun r => r.getD k []))
def zH3 (m : List (List zp)) : List (List zp) × Int := if zGQ m ≠ 0 then ([], zGQ m) else (zBt m, 0)
theorem zAJ {v : List zp} (h : zBd v = 0) : v.length ≤ 40 ∧ zFc v = 0 := by
 unfold zBd at h
 split at h
 ·cases h
 ·exact ⟨by omega, h⟩
theorem zJ6 {w : Nat} : ∀ {m : List (List zp)}, zIN w m = 0 → ∀ r ∈ m, r.length = w ∧ zBd r = 0
 | [], _, r, hr => by simp at hr
 | a :: m, h, r, hr => by
  rw [zIN] at h
  split at h
  ·rename_i h1
   split at h
   ·rename_i h2
    rcases List.mem_cons.1 hr with rfl | hr
    ·exact ⟨h1, h2⟩
    ·exact zJ6 h r hr
   ·contradiction
  ·cases h
theorem zOE {w : Nat} : ∀ {m : List (List zp)}, (∀ r ∈ m, r.length = w ∧ zBd r = 0) → zIN w m = 0
 | [], _ => rfl
 | a :: m, h => by
  rw [zIN, if_pos (h a (by simp)).1, if_pos (h a (by simp)).2]
  exact zOE (fun r hr => h r (by simp [hr]))
/-- A valid matrix of so many rows and columns. -/
structure IsM (m : List (List zp)) (p q : Nat) : Prop where
 rows : m.length = p
 cols : ∀ r ∈ m, r.length = q
 sp : p ≤ 40
 sq : m ≠ [] → q ≤ 40
 ok : ∀ r ∈ m, ∀ s ∈ r, zAy s = 0
theorem zJF {m : List (List zp)} (h : zGQ m = 0) : IsM m m.length (zEG m) := by
 unfold zGQ at h
 split at h
 ·cases h
 ·have h1 := zJ6 h
  refine ⟨Z, fun r hr => (h1 r hr).1, by omega, fun hne => ?_, fun r hr s hs => zAS (zAJ (h1 r hr).2).2 s hs⟩
  obtain ⟨a, m', rfl⟩ := List.exists_cons_of_ne_nil hne
  have h2 := h1 a (by simp)
  have := (zAJ h2.2).1
  omega
theorem zL8 {m : List (List zp)} {p q : Nat} (h : IsM m p q) : zGQ m = 0 := by
 unfold zGQ
 rw [if_neg (by have := h.rows; have := h.sp; omega)]
 cases m with
 | nil => rfl
 | cons a m' =>
  have hw : zEG (a :: m') = q := h.cols a (by simp)
  rw [hw]
  refine zOE (fun r hr => ⟨h.cols r hr, ?_⟩)
  unfold zBd
  rw [if_neg (by have := h.cols r hr; have := h.sq (by simp); omega)]
  exact zGa (fun s hs => h.ok r hr s hs)
theorem IsM.wid {m : List (List zp)} {p q : Nat} (h : IsM m p q) (hne : m ≠ []) : zEG m = q := by
 obtain ⟨a, m', rfl⟩ := List.exists_cons_of_ne_nil hne
 exact h.cols a (by simp)
theorem zJn (m : List (List zp)) : (inM m).length = m.length := by simp [inM]
theorem inM_cols {m : List (List zp)} {p q : Nat} (h : IsM m p q) : ∀ r ∈ inM m, r.length = q := by
 intro r hr
 obtain ⟨x, hx, rfl⟩ := List.mem_map.1 hr
 rw [List.length_map]; exact h.cols x hx
/-- Short texts. -/
def zIi (n k : Nat) (m : List (List zp)) : Bool := decide (m.length ≤ n) && m.all (fun v => decide (v.length ≤ n) && v.all (fun s => decide (s.length ≤ k)))
theorem zF2 {n k : Nat} {m : List (List zp)} (h : zIi n k m = true) : m.length ≤ n ∧ ∀ v ∈ m, v.length ≤ n ∧ ∀ s ∈ v, s.length ≤ k := by
 unfold zIi at h
 simp only [Bool.and_eq_true, decide_eq_true_eq, List.all_eq_true] at h
 exact ⟨h.1, fun v hv => ⟨(h.2 v hv).1, fun s hs => (h.2 v hv).2 s hs⟩⟩
theorem zK8 {n k : Nat} {m : List (List zp)} (h : zIi n k m = true) : m.length ≤ n ∧ (∀ v ∈ m, v.length ≤ n) ∧ ∀ v ∈ m, ∀ s ∈ v, s.length ≤ k :=
 ⟨(zF2 h).1, fun v hv => ((zF2 h).2 v hv).1, fun v hv => ((zF2 h).2 v hv).2⟩
/-- The product of short valid matrices. -/
structure Prod (a b : List (List zp)) (t : List (List zp)) (p q r K : Nat) : Prop where
 res : mulR a b = (t, 0)
 ok : IsM t p r
 val : inM t = mulQ (inM a) (inM b) r
 dig : ∀ x ∈ inM t, ∀ y ∈ x, D K y
theorem apply_of {m : List (List zp)} {v : List zp} {p q j k : Nat} (hm : IsM m p q) (hv : v.length = q) (hvo : ∀ s ∈ v, zAy s = 0) (hq : q ≤ 40) (dm : ∀ x ∈ inM m, ∀ y ∈ x, D j y) (dv : ∀ x ∈ v.map zg, D k x) (hk : 1 + q * (j + k + 1) ≤ 2000) :
 ∃ t, zDv m v = (t, 0) ∧ t.length = p ∧ (∀ s ∈ t, zAy s = 0) ∧ t.map zg = zDj (inM m) (v.map zg) ∧ ∀ x ∈ t.map zg, D (1 + q * (j + k + 1)) x := by
 have hd : ∀ x ∈ zDj (inM m) (v.map zg), D (1 + q * (j + k + 1)) x := by
  intro x hx
  obtain ⟨r, hr, rfl⟩ := List.mem_map.1 hx
  have hl := inM_cols hm r hr
  have := zI9 (dm r hr) dv (by rw [List.length_map]; omega)
  rwa [hl] at this
 have hf : ∀ x ∈ zDj (inM m) (v.map zg), zCM x = true := fun x hx => (hd x hx).fit hk
 have e : ((zDj (inM m) (v.map zg)).map zj).map zg = zDj (inM m) (v.map zg) := by
  rw [List.map_map]
  conv => rhs; rw [← List.map_id (zDj (inM m) (v.map zg))]
  exact List.map_congr_left (fun x hx => (zE1 (hf x hx)).2)
 refine ⟨(zDj (inM m) (v.map zg)).map zj, ?_, by simp [zDj, zJn, hm.rows], fun s hs => ?_, e, fun x hx => ?_⟩
 ·unfold zDv
  rw [if_neg (fun h => h (zL8 hm)), if_neg (fun h => h (by unfold zBd; rw [if_neg (by omega)]; exact zGa hvo)), if_neg (fun h => h.2 (by rw [hm.wid h.1, hv]))]
  unfold zCY
  rw [if_pos (by simpa [List.all_eq_true] using hf)]
 ·obtain ⟨x, hx, rfl⟩ := List.mem_map.1 hs
  exact (zE1 (hf x hx)).1
 ·rw [e] at hx; exact hd x hx
theorem zOu (m : List (List zp)) : (zBt m).length = zEG m := by simp [zBt]
theorem zIs {m : List (List zp)} {p q : Nat} (h : IsM m p q) (hp : p ≠ 0) : IsM (zBt m) q p := by
 have hne : m ≠ [] := by rintro rfl; exact hp h.rows.symm
 have hw := h.wid hne
 refine ⟨by rw [zOu, hw], fun r hr => ?_, h.sq hne, fun _ => h.sp, fun r hr s hs => ?_⟩
 ·obtain ⟨k, _, rfl⟩ := List.mem_map.1 hr
  rw [List.length_map, h.rows]
 ·obtain ⟨k, hk, rfl⟩ := List.mem_map.1 hr
  obtain ⟨x, hx, rfl⟩ := List.mem_map.1 hs
  have hk' : k < x.length := by rw [h.cols x hx, ← hw]; simpa using hk
  have : x.getD k [] = x[k] := by simp [List.getD, hk']
  rw [this]
  exact h.ok x hx _ (List.getElem_mem hk')
theorem zQU {m : List (List zp)} {p q : Nat} (h : IsM m p q) (hp : p ≠ 0) : inM (zBt m) = zDu (inM m) q := by
 have hne : m ≠ [] := by rintro rfl; exact hp h.rows.symm
 have hw := h.wid hne
 unfold inM zBt zDu
 rw [List.map_map, hw]
 refine List.map_congr_left (fun k hk => ?_)
 have hk' : k < q := by simpa using hk
 unfold zCK
 simp only [Function.comp, List.map_map]
 refine List.map_congr_left (fun r hr => ?_)
 have : k < r.length := by rw [h.cols r hr]; exact hk'
 simp [List.getD, this]
end Go.Ax.Rt
namespace Go.Proofs.YtnkealfaldjipaaGreatDoor
open Go.Ax Go.Ax.Bg Go.Ax.Rt Go.RowKit
attribute [local irreducible] Ax zBZ QOp zS zBC
set_option maxRecDepth 100000
set_option maxHeartbeats 4000000
def zJY (r : List zp) : List AV := [.ro (.strs r) 0 r.length]
def zJQ (r : List Rat) : List AV := [.ro (qsC r) 0 r.length]
abbrev zr (m : List (List zp)) : Cells := zDg [] 1 zJY m
abbrev zn (m : List (List Rat)) : Cells := zDg [] 1 zJQ m
theorem zFO (r : List Rat) (j h : Nat) (hj : j < 1) : ((zJQ r).getD j .any).forget h = (zJQ r).getD j .any := by
 obtain rfl : j = 0 := by omega
 rfl
theorem zHh (m : List (List Rat)) : zAK (zn m) := by
 intro i j _ hj
 obtain rfl : j = 0 := by have hj : j < 1 := hj; omega
 rfl
theorem rowR1 (q : List Rat) (j : Nat) (hj : j < 1) : (zB4 1 1 [.ro (qsC q) 0 q.length]).at 0 j = (zJQ q).getD j .any := by
 obtain rfl : j = 0 := by omega
 rfl
theorem zFj (v : List zp) (hlen : v.length ≤ 9223372036854775807) (hs : ∀ s ∈ v, s.length ≤ 9223372036854775807) : zU Tryz.prog 58 [.ro (.strs v) 0 v.length] (.int .i64 (zBd v)) := by
 have h1 := zG8 v hlen hs
 unfold zBd
 refine zS.value0 (zE (P := Tryz.prog) (fn := Tryz.f58) Z Z (by kernel_rfl) Z (fun c hR hfix => ?_)) (fix := fun _ => False) (fun _ h => h) Z Z
 refine rn6 ?_
 refine zD Z (fun h => ?_) (fun h => ?_)
 ·rw [if_pos (by omega)] at hR
  refine rn2 ?_
  exact zI hR Z Z
 ·rw [if_neg (by omega)] at hR
  refine rn1 ?_
  refine zB Z Z Z h1 ?_
  refine rn0 ?_
  exact zI hR Z Z
theorem zJI (m : List (List zp)) (hlen : m.length ≤ 9223372036854775807) (hr : ∀ r ∈ m, r.length ≤ 9223372036854775807 ∧ ∀ s ∈ r, s.length ≤ 9223372036854775807) : zU Tryz.prog 120 [.ro (zr m) 0 m.length] (.int .i64 (zGQ m)) := by
 unfold zGQ
 refine zS.value0 (zE (P := Tryz.prog) (fn := Tryz.f120) Z Z (by kernel_rfl) Z (fun c hR hfix => ?_)) (fix := fun _ => False) (fun _ h => h) Z Z
 refine rn6 ?_
 refine zD Z (fun h => ?_) (fun h => ?_)
 ·rw [if_pos (by omega)] at hR
  refine rn2 ?_
  exact zI hR Z Z
 rw [if_neg (by omega)] at hR
 refine rn3 ?_
 refine zh (ι := Nat) (fun k => [(0, .ro (zr m) 0 m.length), (9, .ro (zr m) 0 m.length), (10, .int .i64 (m.length : Nat)), (11, .int .i64 (k : Nat))]) (fun _ => [])
  (fun k => k ≤ m.length ∧ zIN (zEG m) m = zIN (zEG m) (m.drop k)) (fun k => m.length - k) 0 ⟨⟨rfl, rfl, rfl, rfl, trivial⟩, rfl, Nat.zero_le _, by rw [List.drop_zero]⟩ ?_
 intro k ⟨hk, hE⟩
 refine rn4 ?_
 refine zD Z (fun h => ?_) (fun h => ?_)
 ·have hk' : k < m.length := by omega
  have hm : 0 < m.length := by omega
  have hd := zFx (d := []) hk'
  have hc := zFj (m.getD k []) (hr _ (zAp [] hk')).1 (hr _ (zAp [] hk')).2
  rw [hd, zIN] at hE
  refine rn6 ?_
  refine zD Z (fun h2 => ?_) (fun h2 => ?_)
  ·have h3 : ¬ (m.getD k []).length = zEG m := fun e => h2 (by show (((m.getD k []).length : Nat) : Int) = ((zEG m : Nat) : Int); omega)
   rw [if_neg h3] at hE
   rw [hE] at hR
   refine rn6 ?_
   exact zI hR Z Z
  ·have h3 : (m.getD k []).length = zEG m := by
    have h4 : (((m.getD k []).length : Nat) : Int) = ((zEG m : Nat) : Int) := Classical.not_not.1 h2
    omega
   rw [if_pos h3] at hE
   refine rn1 ?_
   refine zB Z Z Z hc ?_
   refine rn3 ?_
   refine zD Z (fun h5 => ?_) (fun h5 => ?_)
   ·rw [if_neg h5] at hE
    rw [hE] at hR
    refine rn6 ?_
    exact zI hR Z Z
   ·rw [if_pos (Classical.not_not.1 h5)] at hE
    refine rn5 ?_
    exact zM ⟨k + 1, ⟨by omega, hE⟩, by omega, ⟨Z, Z, Z, Z, trivial⟩, Z⟩
 ·have hk' : k = m.length := by omega
  subst hk'
  rw [List.drop_length] at hE
  rw [hE] at hR
  refine rn5 ?_
  exact zI hR Z Z
theorem zG5 (l : List zp) (hlen : l.length ≤ 1000000) (hs : ∀ s ∈ l, s.length ≤ 9223372036854775807 ∧ zAy s = 0) : zU Tryz.prog 104 [.ro (.strs l) 0 l.length] (.ro (qsC (l.map zg)) 0 (l.map zg).length) := by
 have := in_ok l hlen hs
 rwa [List.length_map]
theorem zO0 (m : List (List zp)) (hlen : m.length ≤ 1000000) (hr : ∀ r ∈ m, r.length ≤ 1000000 ∧ ∀ s ∈ r, s.length ≤ 9223372036854775807 ∧ zAy s = 0) : zU Tryz.prog 124 [.ro (zr m) 0 m.length] (.ro (zn (inM m)) 0 m.length) := by
 refine zS.value0 (zE (P := Tryz.prog) (fn := Tryz.f124) Z Z (by kernel_rfl) Z (fun c hR hfix => ?_)) (fix := fun _ => False) (fun _ h => h) Z Z
 refine rn8 ?_
 refine zAi 3 ⟨135, zn []⟩ Z Z ?_
 repeat (refine z7 ?_)
 refine zh (ι := Nat) (fun k => [(0, .ro (zr m) 0 m.length), (3, .sl 0 0 k), (6, .ro (zr m) 0 m.length), (7, .int .i64 (m.length : Nat)), (8, .int .i64 (k : Nat))]) (fun k => [some ⟨135, zn ((m.take k).map (fun r => r.map zg))⟩])
  (fun k => k ≤ m.length) (fun k => m.length - k) 0 ⟨⟨rfl, rfl, rfl, rfl, rfl, trivial⟩, rfl, Nat.zero_le _⟩ ?_
 intro k hk
 refine rn4 ?_
 refine zD Z (fun h => ?_) (fun h => ?_)
 ·have hk' : k < m.length := by omega
  obtain ⟨b1, b2⟩ := hr _ (zAp [] hk')
  have hc := zG5 (m.getD k []) b1 b2
  have htk := zAx (fun r : List zp => r.map zg) m [] k hk'
  have hml : ((m.take k).map (fun r : List zp => r.map zg)).length = k := by rw [List.length_map, List.length_take]; omega
  generalize (m.take k).map (fun r : List zp => r.map zg) = qs at *
  generalize (m.getD k []).map zg = q at *
  refine rn6 ?_
  refine zB Z Z Z hc ?_
  repeat (refine zW rfl rfl rfl rfl rfl rfl rfl rfl rfl rfl rfl ?_)
  refine zAG Z Z Z Z Z Z Z Z Z hml Z Z (by show 0 + 1 ≤ 1; omega) Z (by show (k + 1) * 24 ≤ _ ∧ _; omega) ?_ (by rw [hfix]; exact fun h => h) ?_
  ·intro i' j hi hj
   exact zA9 [] 1 zJQ zFO qs q _ (rowR1 _) 0 i' j hi hj
  refine zEg ?_
  refine zF ?_
  refine zBH [some ⟨135, zn ((m.take (k + 1)).map (fun r => r.map zg))⟩] ?_ ?_
  ·rw [htk]
   exact ze.eqv (zBX [] 1 zJQ qs q _ (rowR1 _)) ze.nil
  refine rn3 ?_
  exact zM ⟨k + 1, by omega, by omega, ⟨Z, Z, Z, Z, Z, trivial⟩, Z⟩
 ·have hk' : k = m.length := by omega
  subst hk'
  rw [List.take_length]
  refine zEL ?_
  refine zAW 0 3 m.length [] Z (zHh _) Z (by show _ ≤ (m.map _).length; rw [List.length_map]; exact Nat.le_refl _) trivial ?_
  refine rn0 ?_
  exact zI hR Z Z
theorem zGG {m : Nat} {q : Rat} (h : D (9 * m) q) : Sz m q := by
 have key : ∀ n : Nat, n < 10 ^ (9 * m) → (zT n).length ≤ m := fun n hn => by
  refine zAs (Nat.lt_of_lt_of_le hn ?_)
  rw [Nat.pow_mul]
  exact Nat.pow_le_pow_left (by decide) m
 exact ⟨key _ h.1, key _ h.2⟩
theorem zMN (a b : List Rat) (j k : Nat) (ha : ∀ q ∈ a, D j q) (hb : ∀ q ∈ b, D k q) (hl : a.length ≤ b.length) (hal : b.length ≤ 1000000) (hK : 1 + a.length * (j + k + 1) ≤ 900000) : zU Tryz.prog 125 [.ro (qsC a) 0 a.length, .ro (qsC b) 0 b.length] (qA (zAB a b)) := by
 refine zS.value0 (zE (P := Tryz.prog) (fn := Tryz.f125) Z Z (by kernel_rfl) Z (fun c hR hfix => ?_)) (fix := fun _ => False) (fun _ h => h) Z Z
 refine rn4 ?_
 refine zB Z Z Z zJp ?_
 repeat (refine zBV rfl rfl rfl ?_)
 refine zN (c' := .box (zq 0)) Z Z Z Z Z Nat.zero_lt_one Z Z (fun i' j' hi' hj' => ?_) ?_
 ·rw [if_pos (Nat.lt_one_iff.1 hi')]; rfl
 refine rn3 ?_
 refine zh (ι := Nat × Rat) (fun p => [(0, .ro (qsC a) 0 a.length), (1, .ro (qsC b) 0 b.length), (4, .ptr 0 0 0), (5, .ptr 1 0 0), (9, .ro (qsC a) 0 a.length), (10, .int .i64 (a.length : Nat)), (11, .int .i64 (p.1 : Nat))]) (fun p => [some ⟨122, .box [.bool false, .nil, .nil]⟩, some ⟨122, .box (zq p.2)⟩])
  (fun p => p.1 ≤ a.length ∧ p.2 = zA8 (fun i => a.getD i 0 * b.getD i 0) p.1) (fun p => a.length - p.1) (0, 0) ⟨⟨rfl, rfl, rfl, rfl, rfl, rfl, rfl, trivial⟩, rfl, Nat.zero_le _, rfl⟩ ?_
 rintro ⟨i, acc⟩ ⟨hi, hA⟩
 simp only at *
 have hterm : ∀ i', i' < a.length → D (j + k) (a.getD i' 0 * b.getD i' 0) := fun i' h' => (ha _ (zAp 0 h')).mul (hb _ (zAp 0 (by omega)))
 have hDa : D (1 + i * (j + k + 1)) acc := by rw [hA]; exact zOy (fun i' h' => hterm i' (by omega))
 have hb1 : i * (j + k + 1) ≤ a.length * (j + k + 1) := Nat.mul_le_mul_right _ hi
 refine rn4 ?_
 refine zD Z (fun h => ?_) (fun h => ?_)
 ·have hi' : i < a.length := by omega
  have hib : i < b.length := by omega
  have hm := hterm i hi'
  have hx := ha _ (zAp 0 hi')
  have hy := hb _ (zAp 0 hib)
  have hsz1 : Sz 100000 (a.getD i 0) := zGG (hx.mono (by have := Nat.le_mul_of_pos_left (j + k + 1) (show 0 < a.length by omega); omega))
  have hsz2 : Sz 100000 (b.getD i 0) := zGG (hy.mono (by have := Nat.le_mul_of_pos_left (j + k + 1) (show 0 < a.length by omega); omega))
  have hsz3 : Sz 100000 (a.getD i 0 * b.getD i 0) := zGG (hm.mono (by have := Nat.le_mul_of_pos_left (j + k + 1) (show 0 < a.length by omega); omega))
  have hsz4 : Sz 100000 acc := zGG (hDa.mono (by omega))
  have hnext : acc + a.getD i 0 * b.getD i 0 = zA8 (fun i => a.getD i 0 * b.getD i 0) (i + 1) := by rw [zA8, hA]
  refine rn6 ?_
  refine zA 15 (.agg (zq (a.getD i 0))) Z (AEq.of_eq Z) ?_
  have e5 : b.getD i 0 = b.getD i 0 := rfl
  generalize hp : a.getD i 0 = p at *
  have g1 := zEB p
  refine zN (c' := .box (zq p)) Z Z Z Z Z Nat.zero_lt_one Z Z (fun i' j' hi' hj' => ?_) ?_
  ·rw [if_pos (Nat.lt_one_iff.1 hi')]; rfl
  refine rn6 ?_
  refine zB Z Z Z g1 ?_
  refine rn3 ?_
  have hz : ∀ x : Rat, sgn x.num = 0 → x = 0 := fun x hx => zN9.1 hx
  generalize hq : b.getD i 0 = q at *
  have g2 := zEB q
  have g3 := zPI p q hsz1 hsz2
  have g4 := zPs acc (p * q) hsz4 hsz3
  have g3' : zU Tryz.prog 105 [qA p, qA (b.getD i 0)] (qA (p * q)) := by rw [hq]; exact g3
  refine zAt Z Z (fun h1 => ?_) (fun h1 => ?_)
  ·refine rn6 ?_
   refine zA 23 (.agg (zq q)) Z (AEq.of_eq (by rw [← hq]; rfl)) ?_
   refine zB Z Z Z g2 ?_
   refine rn3 ?_
   refine zD Z (fun h2 => ?_) (fun h2 => ?_)
   ·skip
    refine zo (by kernel_rfl) ?_
    refine zv (fuel := 1) [0, 1, 2, 3, 4, 5, 6, 7] [(0, .ro (qsC a) 0 a.length), (1, .ro (qsC b) 0 b.length), (5, .ptr 1 0 0), (7, .ptr 2 0 0), (6, .int .i64 (i : Nat)), (4, .ptr 0 0 0), (9, .ro (qsC a) 0 a.length), (10, .int .i64 (a.length : Nat)), (11, .int .i64 (i : Nat))] ⟨Z, Z, Z, Z, Z, Z, Z, Z, Z, trivial⟩ (by kernel_rfl) (by decide) Z Z ?_
    refine zK Z Z (zu Z Z Z Z Z Z Z (by first | exact Nat.zero_lt_one | assumption | omega)) ?_
    refine zK Z Z (zu Z Z Z Z Z Z Z (by first | exact Nat.zero_lt_one | assumption | omega)) ?_
    refine zK Z Z (zL Z) ?_
    refine zK Z Z (zL Z) ?_
    refine zK Z Z (zAU Z Z Z Z (by first | (simp only [Nat.zero_add, Int.toNat_natCast, Int.toNat_zero]; exact Z) | exact Z) (by omega)) ?_
    refine zK Z Z (zBW Z Z Z Z Z Z) ?_
    refine zAc Z Z Z Z Z g3' ?_
    refine zAc Z Z Z Z Z g4 ?_
    refine zz ?_
    refine zH (is := [8]) (by kernel_rfl) (by simp) Z ⟨fun o ho => ?_, trivial⟩
    all_goals (cases ho)
    skip
    unfold qA
    refine zN (c' := .box (zq (acc + p * q))) Z Z Z Z Z Nat.zero_lt_one Z Z (fun i' j' hi' hj' => ?_) ?_
    ·rw [if_pos (Nat.lt_one_iff.1 hi')]; rfl
    refine rn1 ?_
    refine zX (by kernel_rfl) ?_
    repeat (refine zAf ?_)
    refine zF ?_
    refine zBH ([some ⟨122, .box [.bool false, .nil, .nil]⟩, some ⟨122, .box (zq (acc + p * q))⟩] ++ [none]) ?_ ?_
    ·exact ze.eqv (CEq.refl _) (ze.eqv (CEq.refl _) (ze.drop ze.nil))
    refine zEn (H1 := [some ⟨122, .box [.bool false, .nil, .nil]⟩, some ⟨122, .box (zq (acc + p * q))⟩]) Z (by rw [hfix]; exact fun h => h) ?_
    refine rn3 ?_
    exact zM ⟨(i + 1, (acc + p * q)), ⟨by simp only; omega, hnext⟩, by simp only; omega, ⟨Z, Z, Z, Z, Z, Z, Z, trivial⟩, Z⟩
   ·have e0 : q = 0 := hz q (Classical.not_not.1 h2)
    rw [e0, Rat.mul_zero, Rat.add_zero] at hnext
    refine zEg ?_
    refine zF ?_
    refine zBH ([some ⟨122, .box [.bool false, .nil, .nil]⟩, some ⟨122, .box (zq acc)⟩] ++ [none]) ?_ ?_
    ·exact ze.eqv (CEq.refl _) (ze.eqv (CEq.refl _) (ze.drop ze.nil))
    refine zEn (H1 := [some ⟨122, .box [.bool false, .nil, .nil]⟩, some ⟨122, .box (zq acc)⟩]) Z (by rw [hfix]; exact fun h => h) ?_
    refine rn3 ?_
    exact zM ⟨(i + 1, acc), ⟨by simp only; omega, hnext⟩, by simp only; omega, ⟨Z, Z, Z, Z, Z, Z, Z, trivial⟩, Z⟩
  ·have e0 : p = 0 := hz p (Classical.not_not.1 h1)
   rw [e0, Rat.zero_mul, Rat.add_zero] at hnext
   repeat (first | refine zP ?_ | refine zCt rfl rfl rfl ?_ | refine zG (zAb rfl rfl) ?_)
   refine zF ?_
   refine zBH ([some ⟨122, .box [.bool false, .nil, .nil]⟩, some ⟨122, .box (zq acc)⟩] ++ [none]) ?_ ?_
   ·exact ze.eqv (CEq.refl _) (ze.eqv (CEq.refl _) (ze.drop ze.nil))
   refine zEn (H1 := [some ⟨122, .box [.bool false, .nil, .nil]⟩, some ⟨122, .box (zq acc)⟩]) Z (by rw [hfix]; exact fun h => h) ?_
   refine rn5 ?_
   exact zM ⟨(i + 1, acc), ⟨by simp only; omega, hnext⟩, by simp only; omega, ⟨Z, Z, Z, Z, Z, Z, Z, trivial⟩, Z⟩
 ·have hi' : i = a.length := by omega
  subst hi'
  have e : zAB a b = acc := hA.symm
  rw [e] at hR
  refine rn6 ?_
  refine zN (c' := .box (zq acc)) Z Z Z Z Z Nat.zero_lt_one Z Z (fun i' j' hi' hj' => ?_) ?_
  ·rw [if_pos (Nat.lt_one_iff.1 hi')]; rfl
  refine rn0 ?_
  exact zI hR Z Z
theorem cols_ok (m : List (List Rat)) (w : Nat) (hlen : m.length ≤ 1000000) (hw : w ≤ 1000000) (hr : ∀ r ∈ m, r.length = w) : zU Tryz.prog 174 [.ro (zn m) 0 m.length, .int .i64 (w : Nat)] (.ro (zn (zDu m w)) 0 w) := by
 refine zS.value0 (zE (P := Tryz.prog) (fn := Tryz.f174) Z Z (by kernel_rfl) Z (fun c hR hfix => ?_)) (fix := fun _ => False) (fun _ h => h) Z Z
 refine rn0 ?_
 refine zAi 5 ⟨135, zn []⟩ Z Z ?_
 repeat (refine z7 ?_)
 refine zh (ι := Nat) (fun k => [(0, .ro (zn m) 0 m.length), (5, .sl 0 0 k), (10, .int .i64 (w : Nat)), (11, .int .i64 (k : Nat))]) (fun k => [some ⟨135, zn ((List.range k).map (zCK m))⟩])
  (fun k => k ≤ w) (fun k => w - k) 0 ⟨⟨rfl, rfl, rfl, rfl, trivial⟩, rfl, Nat.zero_le _⟩ ?_
 intro k hk
 refine rn4 ?_
 refine zD Z (fun h => ?_) (fun h => ?_)
 ·have hk' : k < w := by omega
  refine rn8 ?_
  refine z7 ?_
  refine rn8 ?_
  refine zAi 7 ⟨122, qsC []⟩ Z Z ?_
  repeat (refine z7 ?_)
  refine zh (ι := Nat) (fun j => [(0, .ro (zn m) 0 m.length), (5, .sl 0 0 k), (6, .int .i64 (k : Nat)), (7, .sl 1 0 j), (10, .int .i64 (w : Nat)), (11, .int .i64 (k : Nat)), (14, .ro (zn m) 0 m.length), (15, .int .i64 (m.length : Nat)), (16, .int .i64 (j : Nat))]) (fun j => [some ⟨135, zn ((List.range k).map (zCK m))⟩, some ⟨122, qsC (zCK (m.take j) k)⟩])
   (fun j => j ≤ m.length) (fun j => m.length - j) 0 ⟨⟨rfl, rfl, rfl, rfl, rfl, rfl, rfl, rfl, rfl, trivial⟩, rfl, Nat.zero_le _⟩ ?_
  intro j hj
  refine rn4 ?_
  refine zD Z (fun h2 => ?_) (fun h2 => ?_)
  ·have hj' : j < m.length := by omega
   have hrl := hr _ (zAp [] hj')
   have htk : zCK (m.take (j + 1)) k = zCK (m.take j) k ++ [(m.getD j []).getD k 0] := zAx (fun row : List Rat => row.getD k 0) m [] j hj'
   have hml : (zCK (m.take j) k).length = j := by rw [zFI, List.length_take]; omega
   generalize zCK (m.take j) k = qs at *
   generalize (List.range k).map (zCK m) = rs at *
   have hkr : k < (m.getD j []).length := by omega
   refine rn20 ?_
   refine zA 24 (.agg (zq ((m.getD j []).getD k 0))) Z (AEq.of_eq Z) ?_
   generalize (m.getD j []).getD k 0 = q at *
   repeat (refine zW rfl rfl rfl rfl rfl rfl rfl rfl rfl rfl rfl ?_)
   refine zAG Z Z Z Z Z Z Z Z Z hml Z Z (by show 0 + 1 ≤ 1; omega) Z (by show (j + 1) * 56 ≤ _ ∧ _; omega) ?_ (by rw [hfix]; exact fun h => h) ?_
   ·intro i' j' hi hj'
    exact zA9 0 3 zq zBS qs q _ (zDb _) 1 i' j' hi hj'
   refine zEg ?_
   refine zF ?_
   refine zBH [some ⟨135, zn rs⟩, some ⟨122, qsC (zCK (m.take (j + 1)) k)⟩] ?_ ?_
   ·rw [htk]
    exact ze.eqv ⟨Z, Z, fun i j _ hj => (zFO _ j _ hj).symm⟩ (ze.eqv (zBX 0 3 zq qs q _ (zDb _)) ze.nil)
   refine rn3 ?_
   exact zM ⟨j + 1, by omega, by omega, ⟨Z, Z, Z, Z, Z, Z, Z, Z, Z, trivial⟩, Z⟩
  ·have hj' : j = m.length := by omega
   subst hj'
   rw [List.take_length]
   have hcl : (zCK m k).length = m.length := zFI m k
   have hml : ((List.range k).map (zCK m)).length = k := by simp
   have htk : (List.range (k + 1)).map (zCK m) = (List.range k).map (zCK m) ++ [zCK m k] := by rw [List.range_succ, List.map_append]; rfl
   generalize (List.range k).map (zCK m) = rs at *
   generalize zCK m k = col at *
   refine rn9 ?_
   refine zAW 1 7 m.length [(0, .ro (zn m) 0 m.length), (5, .sl 0 0 k), (10, .int .i64 (w : Nat)), (11, .int .i64 (k : Nat))] Z (zBk _) Z (by show _ ≤ col.length; omega) ⟨Z, Z, Z, Z, trivial⟩ ?_
   refine zAN 7 (.ro (qsC col) 0 col.length) Z (AEq.of_eq (by rw [hcl])) ?_
   refine rn3 ?_
   refine zAG Z Z Z Z Z Z Z Z Z hml Z Z (by show 0 + 1 ≤ 1; omega) Z (by show (k + 1) * 24 ≤ _ ∧ _; omega) ?_ (by rw [hfix]; exact fun h => h) ?_
   ·intro i' j hi hj
    exact zA9 [] 1 zJQ zFO rs col _ (rowR1 _) 0 i' j hi hj
   refine zEg ?_
   refine zF ?_
   refine zBH ([some ⟨135, zn ((List.range (k + 1)).map (zCK m))⟩] ++ [none]) ?_ ?_
   ·rw [htk]
    exact ze.eqv (zBX [] 1 zJQ rs col _ (rowR1 _)) (ze.drop ze.nil)
   refine zEn (H1 := [some ⟨135, zn ((List.range (k + 1)).map (zCK m))⟩]) Z (by rw [hfix]; exact fun h => h) ?_
   refine zBH [some ⟨135, zn ((List.range (k + 1)).map (zCK m))⟩] ?_ ?_
   ·exact ze.eqv ⟨Z, Z, fun i j _ hj => (zFO _ j _ hj).symm⟩ ze.nil
   refine rn3 ?_
   exact zM ⟨k + 1, by omega, by omega, ⟨Z, Z, Z, Z, trivial⟩, Z⟩
 ·have hk' : k = w := by omega
  subst hk'
  refine zEL ?_
  refine zAW 0 5 k [] Z (zHh _) Z (by show _ ≤ (List.map _ _).length; simp) trivial ?_
  refine rn0 ?_
  exact zI hR Z Z
theorem zNI (l : List Rat) (hlen : l.length ≤ 1000000) (hs : ∀ q ∈ l, Sz 100000 q) (hall : l.all zCM = true) : zU Tryz.prog 80 [.ro (qsC l) 0 l.length] (.tup [.ro (.strs (l.map zj)) 0 (l.map zj).length, .int .i64 0]) := by
 have := zO1 l hlen hs hall
 rwa [List.length_map]
theorem len_D {k : Nat} {q : Rat} (h1 : (Lib.decDigits q.num.natAbs).length ≤ k) (h2 : (Lib.decDigits q.den).length ≤ k) : D k q :=
 ⟨Nat.lt_of_lt_of_le (zEx _) (Nat.pow_le_pow_right (by decide) h1), Nat.lt_of_lt_of_le (zEx _) (Nat.pow_le_pow_right (by decide) h2)⟩
theorem zDO {r : List zp} (h : ∀ s ∈ r, zAy s = 0) : ∀ q ∈ r.map zg, D 2000 q := by
 intro q hq
 obtain ⟨s, hs, rfl⟩ := List.mem_map.1 hq
 have hf := (IsQ.self (h s hs)).fit
 unfold zCM at hf
 rw [Bool.and_eq_true, decide_eq_true_eq, decide_eq_true_eq] at hf
 exact len_D hf.1 hf.2
theorem zIw (l : List Rat) (hlen : l.length ≤ 1000000) (hs : ∀ q ∈ l, Sz 100000 q) : ∃ r : AV, zU Tryz.prog 80 [.ro (qsC l) 0 l.length] (.tup [r, .int .i64 (zCY l).2]) ∧ AEq r (.ro (.strs (zCY l).1) 0 (zCY l).1.length) := by
 cases h : l.all zCM
 ·refine ⟨.nil, ?_, ?_⟩
  ·have := zQ3 l hlen hs h
   unfold zCY; rw [h]; exact this
  ·unfold zCY; rw [h]; exact AEq.nil
 ·refine ⟨_, ?_, AEq.rfl'⟩
  have := zNI l hlen hs h
  unfold zCY; rw [h]; exact this
end Go.Proofs.YtnkealfaldjipaaGreatDoor
