import Derived.Shelf.Strconv.Itoa3
import Derived.Shelf.Strconv.ErrVarAll
import Derived.Shelf.Pu.ParseUintPublic10
import Derived.Shelf.Bits.Mul64
import Derived.Shelf.Strings.OnBuilder
import Derived.Test.YtkncmbklkhjmgaaGreatDoorProg
import Derived.Lib.ParseIntB
import Derived.Lib.Join
import Derived.Test.YtkncmbklkhjmgaaGreatDoorY3
set_option linter.unusedVariables false
set_option linter.unusedSimpArgs false
set_option maxRecDepth 100000
set_option maxHeartbeats 4000000
namespace Go.Proofs.YtkncmbklkhjmgaaGreatDoor
open Go.Ax Go.Ax.Bg Go.RowKit
attribute [local irreducible] Ax zBI QOp zP
theorem digit_ok (A U C V : List Int) (j s : Nat) (Hr : zN) (hj : A.length = j) (hs : 2 ≤ s) (hl : U.length = s + 1) (hlv : V.length = s) (hU : Lim U) (hV : Lim V) (htop : 2147483648 ≤ V.getD (s - 1) 0) (hlt : zd U < 4294967296 * zd V)
 (hsz : (A ++ (U ++ C)).length ≤ 1000000000) :
 zP Tryz.prog 229 [.sl 0 j (s + 1), zGK V] (some ⟨223, .ints .u32 (A ++ (U ++ C))⟩ :: Hr) (fun h => h < Hr.length + 1)
  (fun r H => r = .int .u32 (zd U / zd V : Nat) ∧ H = some ⟨223, .ints .u32 (A ++ (zB4 (s + 1) (zd U % zd V) ++ C))⟩ :: Hr) := by
 refine zE (P := Tryz.prog) (fn := Tryz.f229) Z Z (by kernel_rfl) Z (fun c hR hfix => ?_)
 have hsd := hlv
 obtain ⟨u0, h0, b0⟩ := hU.nat s
 obtain ⟨u1, h1, b1⟩ := hU.nat (s - 1)
 obtain ⟨u2, h2, b2⟩ := hU.nat (s - 2)
 obtain ⟨v1, k1, c1⟩ := hV.nat (s - 1)
 obtain ⟨v2, k2, c2⟩ := hV.nat (s - 2)
 have htop' : 2147483648 ≤ v1 := by omega
 have hest := fun g => est (g := g) hs hl hsd hU hV h0 h1 h2 k1 k2 htop' hlt
 have g0 := zGq (C := C) hj (show s < U.length by omega)
 have g1 := zGq (C := C) hj (show s - 1 < U.length by omega)
 have g2 := zGq (C := C) hj (show s - 2 < U.length by omega)
 rw [h0] at g0; rw [h1] at g1; rw [h2] at g2
 have hlen : (A ++ (U ++ C)).length = j + (s + 1) + C.length := by simp [hj, hl]; omega
 have hv0 : 0 < zd V := by
  have := zx V (s - 1)
  rw [show s - 1 + 1 = V.length by omega, List.take_length, k1, Int.toNat_natCast] at this
  have h3 : B ^ (s - 1) * 1 ≤ B ^ (s - 1) * v1 := Nat.mul_le_mul_left _ (by omega)
  have := bpos (s - 1)
  omega
 unfold zGK
 rw [hsd]
 refine rn3 ?_
 refine zDv (by kernel_rfl) (by kernel_rfl) Z ?_
 refine rn7 ?_
 refine zD 20 (.int .u32 (u0 : Nat)) Z (AEq.of_eq (by rw [g0])) ?_
 refine zG (zAS (m := u0) Z Z Z zBV (by omega)) ?_
 refine zG (zKe (m := u0) (s := 32) Z Z (by decide) zBV (zJM b0)) ?_
 refine rn8 ?_
 refine zD 25 (.int .i64 (s - 1 : Nat)) Z (AEq.of_eq (by congr 1; omega)) ?_
 refine rn7 ?_
 refine zD 27 (.int .u32 (u1 : Nat)) Z (AEq.of_eq (by rw [g1])) ?_
 refine zG (zAS (m := u1) Z Z Z zBV (by omega)) ?_
 refine zG (QOp.res (zNm Z Z zBV Z (zJM b0) (by omega)) (by rw [zOx b1])) ?_
 have htb : u0 * 4294967296 + u1 < 18446744073709551616 := by omega
 obtain ⟨top, htp⟩ : ∃ top, u0 * 4294967296 + u1 = top := ⟨_, rfl⟩
 rw [htp] at hest htb ⊢
 refine rn7 ?_
 refine zD 33 (.int .i64 (s - 1 : Nat)) Z (AEq.of_eq (by congr 1; omega)) ?_
 refine rn6 ?_
 refine zD 35 (.int .u32 (v1 : Nat)) Z (AEq.of_eq (by rw [k1])) ?_
 refine zG (zAS (m := v1) Z Z Z zBV (by omega)) ?_
 refine zG (q_uquo Z Z zBV htb (by omega)) ?_
 obtain ⟨gs, hgs, hg1, hg2⟩ : ∃ gs : Nat, (if ((4294967295 : Int) < ((top / v1 : Nat) : Int)) then (4294967295 : Int) else ((top / v1 : Nat) : Int)) = (gs : Int) ∧ gs ≤ 4294967295 ∧ (gs = 4294967295 ∨ gs = top / v1) ∧ gs ≤ top / v1 := by
  generalize top / v1 = z
  by_cases hz : (4294967295 : Int) < (z : Int)
  ·exact ⟨4294967295, by rw [if_pos hz]; rfl, by omega, by omega, by omega⟩
  ·exact ⟨z, by rw [if_neg hz], by omega, by omega, by omega⟩
 obtain ⟨hg2, hg3⟩ := hg2
 have hgm : gs * v1 ≤ top := Nat.le_trans (Nat.mul_le_mul_right _ hg3) (Nat.div_mul_le_self top v1)
 have hb0 := zMW (a := gs) (b := v1) (c := 0) (by omega) c1 (by decide)
 refine zG (q_min Z Z) ?_
 refine zD 38 (.int .u64 (gs : Nat)) Z (AEq.of_eq (by rw [← hgs])) ?_
 refine rn7 ?_
 refine zD 43 (.int .i64 (s - 1 : Nat)) Z (AEq.of_eq (by congr 1; omega)) ?_
 refine rn6 ?_
 refine zD 45 (.int .u32 (v1 : Nat)) Z (AEq.of_eq (by rw [k1])) ?_
 refine zG (zAS (m := v1) Z Z Z zBV (by omega)) ?_
 refine zG (zJJ Z Z zBV hb0.1) ?_
 refine zG (zO8 Z Z zBV htb hgm) ?_
 refine rn1 ?_
 refine ze (ι := Nat × Nat) (fun p => [(0, .sl 0 j (s + 1)), (1, .ro (.ints .u32 V) 0 s), (5, .int .i64 (s : Nat)), (7, .int .u64 (p.1 : Nat)), (8, .int .u64 (p.2 : Nat))]) (fun _ => some ⟨223, .ints .u32 (A ++ (U ++ C))⟩ :: Hr)
  (fun p => p.1 ≤ 4294967295 ∧ p.2 + p.1 * v1 = top ∧ ∀ g', g' ≤ 4294967295 → g' * (v1 * 4294967296 + v2) ≤ top * 4294967296 + u2 → g' ≤ p.1) (fun p => p.1) (gs, top - gs * v1) ⟨⟨rfl, rfl, rfl, rfl, rfl, trivial⟩, rfl, hg1, by simp only; omega, fun g' q1 q2 => ?_⟩ ?_
 ·have := guess_ge (by omega) b2 q2
  rcases hg2 with h | h
  ·show g' ≤ gs; omega
  ·show g' ≤ gs; rw [h]; exact this
 rintro ⟨g, r⟩ ⟨i1, i2, i3⟩
 simp only at *
 have htest := zOm (B := 4294967296) (u2 := u2) (v2 := v2) i2 (by omega) c2
 have hbg := zMW (a := g) (b := v2) (c := 0) (by omega) c2 (by decide)
 apply zAJ (H := some ⟨223, .ints .u32 (A ++ (U ++ C))⟩ :: Hr) [(0, .sl 0 j (s + 1)), (1, .ro (.ints .u32 V) 0 s), (5, .int .i64 (s : Nat)), (7, .int .u64 (g : Nat)), (8, .int .u64 (r : Nat)), (70, .bool (decide (r < 4294967296 ∧ r * 4294967296 + u2 < g * v2)))]
 ·intro fin
  repeat (refine z7 ?_)
  refine zDv (by kernel_rfl) (by kernel_rfl) Z ?_
  repeat (first | refine zG (zJ rfl) ?_ | refine zG (zEa rfl rfl) ?_)
  refine zAh Z Z (fun q0 => ?_) (fun q0 => ?_)
  ·have q0' : r < 4294967296 := by omega
   refine rn8 ?_
   refine zD 55 (.int .i64 (s - 2 : Nat)) Z (AEq.of_eq (by congr 1; omega)) ?_
   refine rn6 ?_
   refine zD 57 (.int .u32 (v2 : Nat)) Z (AEq.of_eq (by rw [k2])) ?_
   refine zG (zAS (m := v2) Z Z Z zBV (by omega)) ?_
   refine zBK Z Z ?_
   refine zG (zJJ Z Z zBV hbg.1) ?_
   refine rn2 ?_
   refine zG (zKe (m := r) (s := 32) Z Z (by decide) zBV (zJM q0')) ?_
   refine rn8 ?_
   refine zD 64 (.int .i64 (s - 2 : Nat)) Z (AEq.of_eq (by congr 1; omega)) ?_
   refine zEO ?_
   refine zD 66 (.int .u32 (u2 : Nat)) Z (AEq.of_eq (by rw [g2])) ?_
   refine zG (zAS (m := u2) Z Z Z zBV (by omega)) ?_
   refine zBK Z Z ?_
   refine zG (QOp.res (zNm Z Z zBV Z (zJM q0') (by omega)) (by rw [zOx b2])) ?_
   refine zHb ?_
   refine fin _ ⟨Z, Z, Z, Z, Z, ?_, trivial⟩
   show some (AV.bool (decide (((r * 4294967296 + u2 : Nat) : Int) < ((g * v2 : Nat) : Int)))) = _
   congr 2
   rw [decide_eq_decide]
   constructor
   ·intro h; exact ⟨q0', by omega⟩
   ·intro h; exact Int.ofNat_lt.2 h.2
  ·refine zHb ?_
   refine fin _ ⟨Z, Z, Z, Z, Z, ?_, trivial⟩
   show some (AV.bool false) = _
   rw [decide_eq_false]
   intro h
   exact q0 (by omega)
 refine zA Z (fun q0 => ?_) (fun q0 => ?_)
 ·have q1 := htest.1 q0
  have hg0 : 0 < g := by
   rcases Nat.eq_zero_or_pos g with z | z
   ·subst z; rw [Nat.zero_mul] at q1; omega
   ·exact z
  obtain ⟨g, rfl⟩ : ∃ m, g = m + 1 := ⟨g - 1, by omega⟩
  rw [Nat.add_mul, Nat.one_mul] at i2
  refine rn1 ?_
  refine zG (zO8 (m := g + 1) (n := 1) Z Z zBV (by omega) (by omega)) ?_
  refine rn7 ?_
  refine zD 74 (.int .i64 (s - 1 : Nat)) Z (AEq.of_eq (by congr 1; omega)) ?_
  refine rn6 ?_
  refine zD 76 (.int .u32 (v1 : Nat)) Z (AEq.of_eq (by rw [k1])) ?_
  refine zG (zAS (m := v1) Z Z Z zBV (by omega)) ?_
  refine zG (zFf Z Z zBV (by omega)) ?_
  refine rn0 ?_
  refine zK ⟨(g, r + v1), ⟨by simp only; omega, by simp only; omega, fun g' z1 z2 => ?_⟩, by simp only; omega, ⟨Z, Z, Z, Z, Z, trivial⟩, Z⟩
  have z3 := i3 g' z1 z2
  show g' ≤ g
  rcases Nat.lt_or_ge g g' with z | z
  ·exfalso
   have : g' = g + 1 := by omega
   subst this
   omega
  ·exact z
 ·have q1 : g * (v1 * 4294967296 + v2) ≤ top * 4294967296 + u2 := by
   rcases Nat.lt_or_ge (top * 4294967296 + u2) (g * (v1 * 4294967296 + v2)) with z | z
   ·exact absurd (htest.2 z) q0
   ·exact z
  obtain ⟨e1, e2⟩ := hest g i1 q1 i3
  clear hest htest i3 q0
  have hmB : zd U % zd V < B ^ (s + 1) := Nat.lt_of_le_of_lt (Nat.mod_le _ _) (by have := zAt hU; rwa [hl] at this)
  have hdone := fun (w b : Nat) (hw : w < B ^ (s + 1)) => zOX (u := zd U) (v := zd V) (g := g) (w := w) (n := s + 1) (b := b) hw (by have := zAt hV; rw [hsd] at this; exact Nat.lt_of_lt_of_le this (Nat.pow_le_pow_right (by decide) (by omega))) (by have := zAt hU; rwa [hl] at this)
  generalize zd U / zd V = q at *
  generalize hme : zd U % zd V = m at *
  refine rn5 ?_
  have hAl : ∀ W : List Int, W.length = s + 1 → ∀ i, i < s + 1 → i + j < (A ++ (W ++ C)).length := fun W hW i hi => by simp [hj, hW]; omega
  refine ze (ι := Nat × List Int × Nat × Nat) (fun p => [(0, .sl 0 j (s + 1)), (1, .ro (.ints .u32 V) 0 s), (5, .int .i64 (s : Nat)), (7, .int .u64 (g : Nat)), (9, .int .u64 (p.2.2.1 : Nat)), (10, .int .i64 (p.2.2.2 : Nat)), (82, .int .i64 (s + 1 : Nat)), (83, .int .i64 (p.1 : Nat))]) (fun p => some ⟨223, .ints .u32 (A ++ (p.2.1 ++ C))⟩ :: Hr)
   (fun p => p.1 ≤ s + 1 ∧ p.2.1.length = s + 1 ∧ Lim p.2.1 ∧ (∀ x, p.1 ≤ x → p.2.1.getD x 0 = U.getD x 0) ∧ p.2.2.1 < 4294967296 ∧ p.2.2.2 ≤ 1 ∧ (p.1 = s + 1 → p.2.2.1 = 0) ∧ zd (p.2.1.take p.1) + g * zd (V.take p.1) = zd (U.take p.1) + B ^ p.1 * (p.2.2.1 + p.2.2.2)) (fun p => s + 1 - p.1) (0, U, 0, 0)
   ⟨⟨rfl, rfl, rfl, rfl, rfl, rfl, rfl, rfl, trivial⟩, rfl, Nat.zero_le _, hl, hU, fun _ _ => rfl, Nat.zero_lt_succ _, Nat.zero_le _, fun _ => rfl, by simp [zd]⟩ ?_
  rintro ⟨i, Uc, cr, br⟩ ⟨w1, w2, w3, w4, w5, w6, w7, w8⟩
  simp only at *
  refine rn4 ?_
  refine zA Z (fun w9 => ?_) (fun w9 => ?_)
  ·have his : i < s + 1 := by omega
   obtain ⟨ui, hui, hub⟩ := hU.nat i
   obtain ⟨vi, hvi, hvb⟩ := hV.nat i
   have hmb := zMW (a := g) (b := vi) (c := cr) (by omega) hvb w5
   have hsl := hAl Uc w2 i his
   have hcur := zGq (C := C) hj (show i < Uc.length by omega)
   rw [w4 i (Nat.le_refl _), hui] at hcur
   have hlm : (cr + g * vi) % 4294967296 < 4294967296 := Nat.mod_lt _ (by decide)
   have hdb : (cr + g * vi) / 4294967296 < 4294967296 := by omega
   obtain ⟨yv, b', y1, y2, y3, y4, y5⟩ := zQQ hub hlm w6
   have hstep := zOY (g := g) (cr := cr) (yv := yv) (b' := b') (show i < Uc.length by omega) w8 hui hvi y1
   have hlast : i + 1 = s + 1 → (cr + g * vi) / 4294967296 = 0 := fun h => by
    have : V.getD i 0 = 0 := by simp [List.getD, List.getElem?_eq_none (show V.length ≤ i by omega)]
    have : vi = 0 := by omega
    subst this
    rw [Nat.mul_zero, Nat.add_zero]
    exact Nat.div_eq_of_lt w5
   refine rn4 ?_
   apply zAJ (H := some ⟨223, .ints .u32 (A ++ (Uc ++ C))⟩ :: Hr) [(0, .sl 0 j (s + 1)), (1, .ro (.ints .u32 V) 0 s), (5, .int .i64 (s : Nat)), (7, .int .u64 (g : Nat)), (9, .int .u64 (cr + g * vi : Nat)), (10, .int .i64 (br : Nat)), (11, .int .i64 (i : Nat)), (82, .int .i64 (s + 1 : Nat)), (83, .int .i64 (i : Nat))]
   ·intro fin
    refine zA Z (fun q0 => ?_) (fun q0 => ?_)
    ·refine rn6 ?_
     refine zD 94 (.int .u32 (vi : Nat)) Z (AEq.of_eq (by rw [hvi])) ?_
     refine zG (zAS (m := vi) Z Z Z zBV (by omega)) ?_
     refine zG (zJJ Z Z zBV hmb.1) ?_
     refine zG (zFf Z Z zBV hmb.2) ?_
     refine zBa ?_
     exact fin _ ⟨Z, Z, Z, Z, Z, Z, Z, Z, Z, trivial⟩
    ·have hv0 : vi = 0 := by
      have : V.getD i 0 = 0 := by simp [List.getD, List.getElem?_eq_none (show V.length ≤ i by omega)]
      omega
     subst hv0
     refine zBa ?_
     exact fin _ ⟨Z, Z, Z, Z, Z, Z, Z, Z, Z, trivial⟩
   refine rn7 ?_
   refine zD 101 (.int .u32 (ui : Nat)) Z (AEq.of_eq (by rw [hcur])) ?_
   refine zG (zFz (m := ui) Z Z Z (by omega)) ?_
   repeat (refine zG (zJ rfl) ?_)
   refine zG (QOp.res (q_uand (n := 4294967295) Z Z zBV Z hmb.2 (by decide)) (by rw [and_low])) ?_
   obtain ⟨lo, hlo⟩ : ∃ lo, (cr + g * vi) % 4294967296 = lo := ⟨_, rfl⟩
   rw [hlo] at hlm y1 y4 y5 ⊢
   refine zG (zFz (m := lo) Z Z Z (by omega)) ?_
   refine rn7 ?_
   refine zG (zGP (s := 32) Z Z Z) ?_
   refine rn4 ?_
   apply zAJ (H := some ⟨223, .ints .u32 (A ++ (Uc ++ C))⟩ :: Hr) [(0, .sl 0 j (s + 1)), (1, .ro (.ints .u32 V) 0 s), (5, .int .i64 (s : Nat)), (7, .int .u64 (g : Nat)), (9, .int .u64 ((cr + g * vi) / 4294967296 : Nat)), (10, .int .i64 (b' : Nat)), (11, .int .i64 (i : Nat)), (12, .int .i64 (yv : Nat)), (82, .int .i64 (s + 1 : Nat)), (83, .int .i64 (i : Nat))]
   ·intro fin
    refine zA Z (fun q0 => ?_) (fun q0 => ?_)
    ·obtain ⟨z1, z2⟩ := y4 q0
     subst z1
     skip
     refine zg Z ?_
     refine zBa ?_
     exact fin _ ⟨Z, Z, Z, Z, Z, Z, Z, by rw [z2]; rfl, Z, Z, trivial⟩
    ·obtain ⟨z1, z2⟩ := y5 q0
     subst z1
     refine zBa ?_
     exact fin _ ⟨Z, Z, Z, Z, Z, Z, Z, by rw [z2]; rfl, Z, Z, trivial⟩
   refine rn0 ?_
   refine zG (zAS (m := yv) Z Z Z zFA y3) ?_
   have hset := zQA (x := (yv : Int)) (C := C) hj (show i < Uc.length by omega)
   refine rn7 ?_
   refine zK ⟨(i + 1, Uc.set i (yv : Int), (cr + g * vi) / 4294967296, b'), ⟨by simp only; omega, by simp [w2], w3.set (by omega), fun x hx => ?_, hdb, y2, hlast, hstep⟩, by simp only; omega, ⟨Z, Z, Z, Z, Z, Z, Z, Z, trivial⟩, ?_⟩
   ·simp only at hx ⊢
    rw [zDl (by omega)]; exact w4 x (by omega)
   ·show some (⟨_, .ints .u32 ((A ++ (Uc ++ C)).set (j + i) (yv : Int))⟩ : AObj) :: Hr = _
    rw [hset]
  ·have hie : i = s + 1 := by omega
   subst hie
   have hcr := w7 rfl
   subst hcr
   rw [List.take_of_length_le (by omega), List.take_of_length_le (by omega), List.take_of_length_le (by omega), Nat.zero_add] at w8
   have hUcb := zAt w3
   rw [w2] at hUcb
   obtain ⟨d0, d1⟩ := hdone (zd Uc) br hUcb w6 w8 e1 e2 hv0
   refine rn5 ?_
   refine zA Z (fun q0 => ?_) (fun q0 => ?_)
   ·obtain ⟨z1, z2⟩ := d0 (by omega)
    subst z1
    have hfx := zHL w3 w2 z2
    refine rn0 ?_
    refine zG (zAS (m := g) Z Z Z zFA (by omega)) ?_
    refine rn2 ?_
    refine zL hR Z ⟨Z, ?_⟩
    rw [hfx]
   ·obtain ⟨z1, z2⟩ := d1 (by omega)
    refine rn3 ?_
    refine ze (ι := Nat × List Int × Nat) (fun p => [(0, .sl 0 j (s + 1)), (1, .ro (.ints .u32 V) 0 s), (5, .int .i64 (s : Nat)), (7, .int .u64 (g : Nat)), (13, .int .u64 (p.2.2 : Nat)), (126, .int .i64 (s + 1 : Nat)), (127, .int .i64 (p.1 : Nat))]) (fun p => some ⟨223, .ints .u32 (A ++ (p.2.1 ++ C))⟩ :: Hr)
     (fun p => p.1 ≤ s + 1 ∧ p.2.1.length = s + 1 ∧ Lim p.2.1 ∧ (∀ x, p.1 ≤ x → p.2.1.getD x 0 = Uc.getD x 0) ∧ p.2.2 < 4294967296 ∧ zd (p.2.1.take p.1) + B ^ p.1 * p.2.2 = zd (Uc.take p.1) + zd (V.take p.1)) (fun p => s + 1 - p.1) (0, Uc, 0)
     ⟨⟨rfl, rfl, rfl, rfl, rfl, rfl, rfl, trivial⟩, rfl, Nat.zero_le _, w2, w3, fun _ _ => rfl, Nat.zero_lt_succ _, by simp [zd]⟩ ?_
    rintro ⟨i, Ud, sm⟩ ⟨x1, x2, x3, x4, x5, x6⟩
    simp only at *
    refine rn4 ?_
    refine zA Z (fun x9 => ?_) (fun x9 => ?_)
    ·have his : i < s + 1 := by omega
     obtain ⟨ui, hui, hub⟩ := w3.nat i
     obtain ⟨vi, hvi, hvb⟩ := hV.nat i
     have hcur := zGq (C := C) hj (show i < Ud.length by omega)
     rw [x4 i (Nat.le_refl _), hui] at hcur
     have hsl := hAl Ud x2 i his
     have hstep := zQO (sm := sm) (show i < Ud.length by omega) x6 hui hvi
     refine rn7 ?_
     refine zD 134 (.int .u32 (ui : Nat)) Z (AEq.of_eq (by rw [hcur])) ?_
     refine zG (zAS (m := ui) Z Z Z zBV (by omega)) ?_
     refine zG (zFf Z Z zBV (by omega)) ?_
     refine rn4 ?_
     apply zAJ (H := some ⟨223, .ints .u32 (A ++ (Ud ++ C))⟩ :: Hr) [(0, .sl 0 j (s + 1)), (1, .ro (.ints .u32 V) 0 s), (5, .int .i64 (s : Nat)), (7, .int .u64 (g : Nat)), (13, .int .u64 (sm + ui + vi : Nat)), (14, .int .i64 (i : Nat)), (126, .int .i64 (s + 1 : Nat)), (127, .int .i64 (i : Nat))]
     ·intro fin
      refine zA Z (fun q1 => ?_) (fun q1 => ?_)
      ·refine rn6 ?_
       refine zD 144 (.int .u32 (vi : Nat)) Z (AEq.of_eq (by rw [hvi])) ?_
       refine zG (zAS (m := vi) Z Z Z zBV (by omega)) ?_
       refine zG (zFf Z Z zBV (by omega)) ?_
       refine zBa ?_
       exact fin _ ⟨Z, Z, Z, Z, Z, Z, Z, Z, trivial⟩
      ·have hv0 : vi = 0 := by
        have : V.getD i 0 = 0 := by simp [List.getD, List.getElem?_eq_none (show V.length ≤ i by omega)]
        omega
       subst hv0
       refine zBa ?_
       exact fin _ ⟨Z, Z, Z, Z, Z, Z, Z, Z, trivial⟩
     refine rn0 ?_
     refine zG (zGO Z Z Z zFA) ?_
     have hset := zQA (x := (((sm + ui + vi) % 4294967296 : Nat) : Int)) (C := C) hj (show i < Ud.length by omega)
     refine rn7 ?_
     refine zG (zGP (s := 32) Z Z Z) ?_
     refine rn5 ?_
     refine zK ⟨(i + 1, Ud.set i (((sm + ui + vi) % 4294967296 : Nat) : Int), (sm + ui + vi) / 4294967296), ⟨by simp only; omega, by simp [x2], x3.set (zD9 _), fun x hx => ?_, by simp only; omega, hstep⟩, by simp only; omega, ⟨Z, Z, Z, Z, Z, Z, Z, trivial⟩, ?_⟩
     ·simp only at hx ⊢
      rw [zDl (by omega)]; exact x4 x (by omega)
     ·show some (⟨_, .ints .u32 ((A ++ (Ud ++ C)).set (j + i) (((sm + ui + vi) % 4294967296 : Nat) : Int))⟩ : AObj) :: Hr = _
      rw [hset]
    ·have hie : i = s + 1 := by omega
     subst hie
     rw [List.take_of_length_le (by omega), List.take_of_length_le (by omega), List.take_of_length_le (by omega), z2] at x6
     have hUdb := zAt x3
     rw [x2] at hUdb
     have hv : zd Ud = m := by
      rcases Nat.lt_trichotomy sm 1 with z | z | z
      ·have : sm = 0 := by omega
       subst this
       omega
      ·subst z; omega
      ·have : B ^ (s + 1) * 2 ≤ B ^ (s + 1) * sm := Nat.mul_le_mul_left _ z
       omega
     have hfx := zHL x3 x2 hv
     refine rn5 ?_
     refine zG (zO8 (m := g) (n := 1) Z Z zBV (by omega) (by omega)) ?_
     refine zG (zAS (m := g - 1) Z Z Z zFA (by omega)) ?_
     refine rn0 ?_
     refine zL hR Z ⟨?_, ?_⟩
     ·rw [show g - 1 = q by omega]; rfl
     ·rw [hfx]
end Go.Proofs.YtkncmbklkhjmgaaGreatDoor
namespace Go.Ax.Bg
theorem zFq : ∀ (a b v : Nat), zB4 (a + b) v = zB4 a v ++ zB4 b (v / B ^ a)
 | 0, b, v => by simp [zB4]
 | a + 1, b, v => by
  rw [show a + 1 + b = a + b + 1 by omega, zB4, zB4, zFq a b, List.cons_append, Nat.pow_succ, Nat.mul_comm (B ^ a), ← Nat.div_div_eq_div_mul]
theorem zGF : ∀ (k v : Nat), zd (zB4 k v) = v % B ^ k
 | 0, v => by simp [zB4, zd, Nat.mod_one]
 | k + 1, v => by
  rw [zB4, zd, Int.toNat_natCast, zGF k, Nat.pow_succ, Nat.mul_comm (B ^ k), Nat.mod_mul]
theorem zOh {k v w : Nat} (h : v % B ^ k = w % B ^ k) : zB4 k v = zB4 k w := by
 have h1 := zHL (zFr k v) (zB5 k v) (zGF k v)
 have h2 := zHL (zFr k w) (zB5 k w) (zGF k w)
 rw [h1, h2, h]
/-- The top limb. -/
theorem zHA {v s : Nat} (hs : 1 ≤ s) (h : (zS v).length = s) : ∃ t low : Nat, (zS v).getD (s - 1) 0 = (t : Int) ∧ t < 4294967296 ∧ 0 < t ∧ v = low + B ^ (s - 1) * t ∧ low < B ^ (s - 1) := by
 obtain ⟨t, ht, hb⟩ := (zAQ v).nat (s - 1)
 refine ⟨t, zd ((zS v).take (s - 1)), ht, hb, ?_, ?_, ?_⟩
 ·rcases zLi (n := v) with q | q
  ·rw [q] at h; simp at h; omega
  ·rw [h, ht] at q; omega
 ·have := zx (zS v) (s - 1)
  rw [show s - 1 + 1 = (zS v).length by omega, List.take_length, z6, ht, Int.toNat_natCast] at this
  exact this
 ·have := zAt ((zAQ v).take (s - 1))
  rwa [List.length_take, Nat.min_eq_left (by omega)] at this
theorem bexp {s : Nat} (hs : 1 ≤ s) : B ^ s = B ^ (s - 1) * 4294967296 := by
 rw [show s = s - 1 + 1 by omega, Nat.pow_succ]; rfl
/-- The divisor, shifted to the top. -/
theorem norm_top {m k s t : Nat} (hs : 1 ≤ s) (h : (zS m).length = s) (ht : (zS m).getD (s - 1) 0 = (t : Int)) (h1 : 2147483648 ≤ t * 2 ^ k) (h2 : t * 2 ^ k < 4294967296) (hk : k ≤ 31) :
 (zS (m * 2 ^ k)).length = s ∧ 2147483648 ≤ (zS (m * 2 ^ k)).getD (s - 1) 0 := by
 obtain ⟨t', low, e, hb, hp, hv, hlow⟩ := zHA hs h
 have : t' = t := by omega
 subst this
 have hP := bpos (s - 1)
 have hpk : 0 < 2 ^ k := Nat.pow_pos (by decide)
 have hd : ∃ q, 4294967296 = q * 2 ^ k := ⟨2 ^ (32 - k), by rw [← Nat.pow_add, show 32 - k + k = 32 by omega]⟩
 obtain ⟨q, hq⟩ := hd
 have h3 : t' + 1 ≤ q := by
  have : t' * 2 ^ k < q * 2 ^ k := by omega
  exact Nat.lt_of_mul_lt_mul_right this
 have h4 : (t' + 1) * 2 ^ k ≤ 4294967296 := by rw [hq]; exact Nat.mul_le_mul_right _ h3
 have hup : m * 2 ^ k < B ^ s := by
  rw [bexp hs]
  have h5 : m < B ^ (s - 1) * (t' + 1) := by rw [Nat.mul_add]; omega
  have h6 : m * 2 ^ k < B ^ (s - 1) * (t' + 1) * 2 ^ k := Nat.mul_lt_mul_of_pos_right h5 hpk
  have h7 : B ^ (s - 1) * ((t' + 1) * 2 ^ k) ≤ B ^ (s - 1) * 4294967296 := Nat.mul_le_mul_left _ h4
  rw [Nat.mul_assoc] at h6
  omega
 have hlo : B ^ (s - 1) * 2147483648 ≤ m * 2 ^ k := by
  have h5 : B ^ (s - 1) * (t' * 2 ^ k) ≤ m * 2 ^ k := by
   rw [← Nat.mul_assoc]; exact Nat.mul_le_mul_right _ (by omega)
  exact Nat.le_trans (Nat.mul_le_mul_left _ h1) h5
 have hlen : (zS (m * 2 ^ k)).length = s := by
  have a := zAc hup
  have b : B ^ (s - 1) ≤ m * 2 ^ k := by
   have : B ^ (s - 1) * 1 ≤ B ^ (s - 1) * 2147483648 := Nat.mul_le_mul_left _ (by decide)
   omega
  have c := zNU b
  omega
 refine ⟨hlen, ?_⟩
 obtain ⟨t2, low2, e2, _, _, hv2, hlow2⟩ := zHA hs hlen
 rw [e2]
 rcases Nat.lt_or_ge t2 2147483648 with z | z
 ·exfalso
  have : B ^ (s - 1) * (t2 + 1) ≤ B ^ (s - 1) * 2147483648 := Nat.mul_le_mul_left _ (by omega)
  rw [Nat.mul_add] at this
  omega
 ·omega
theorem k_more {t k : Nat} (ht : 0 < t) (h : t * 2 ^ k < 4294967296) (hk : k ≤ 31) (h0 : t * 2 ^ k / 2 ^ 31 = 0) : t * 2 ^ (k + 1) < 4294967296 ∧ k + 1 ≤ 31 := by
 have h1 : t * 2 ^ k < 2147483648 := by
  rcases Nat.lt_or_ge (t * 2 ^ k) 2147483648 with q | q
  ·exact q
  ·have := Nat.div_le_div_right (c := 2 ^ 31) q
   rw [h0] at this
   exact absurd this (by decide)
 refine ⟨by rw [Nat.pow_succ, ← Nat.mul_assoc]; omega, ?_⟩
 rcases Nat.lt_or_ge k 31 with q | q
 ·exact q
 ·exfalso
  have : k = 31 := by omega
  subst this
  have : 1 * 2 ^ 31 ≤ t * 2 ^ 31 := Nat.mul_le_mul_right _ ht
  have e : (2 : Nat) ^ 31 = 2147483648 := by decide
  rw [e] at this h1
  omega
theorem k_stop {t k : Nat} (h0 : ¬ t * 2 ^ k / 2 ^ 31 = 0) : 2147483648 ≤ t * 2 ^ k := by
 rcases Nat.lt_or_ge (t * 2 ^ k) 2147483648 with q | q
 ·exact absurd (Nat.div_eq_of_lt (by have e : (2 : Nat) ^ 31 = 2147483648 := by decide
                                     rw [e]; exact q)) h0
 ·exact q
/-- Where the quotient's digits begin. -/
theorem zRA {n ln v s k : Nat} (hn : n < B ^ ln) (hk : k ≤ 31) (hs : 1 ≤ s) (hsl : s ≤ ln) (hv : B ^ (s - 1) * 2147483648 ≤ v) : n * 2 ^ k < v * B ^ (ln + 1 - s) := by
 have hp : 2 ^ k ≤ 2147483648 := Nat.le_trans (Nat.pow_le_pow_right (show 0 < 2 by decide) hk) (by decide)
 have h1 : n * 2 ^ k ≤ n * 2147483648 := Nat.mul_le_mul_left _ hp
 have h2 : B ^ (s - 1) * 2147483648 * B ^ (ln + 1 - s) ≤ v * B ^ (ln + 1 - s) := Nat.mul_le_mul_right _ hv
 have h3 : B ^ (s - 1) * 2147483648 * B ^ (ln + 1 - s) = B ^ ln * 2147483648 := by
  have e : B ^ ln = B ^ (s - 1) * B ^ (ln + 1 - s) := by rw [← Nat.pow_add]; congr 1; omega
  rw [e]; ac_rfl
 omega
theorem top_ge {v s : Nat} (hs : 1 ≤ s) (hl : (zS v).length = s) (h : 2147483648 ≤ (zS v).getD (s - 1) 0) : B ^ (s - 1) * 2147483648 ≤ v := by
 obtain ⟨t, low, e, _, _, hv, _⟩ := zHA hs hl
 have : B ^ (s - 1) * 2147483648 ≤ B ^ (s - 1) * t := Nat.mul_le_mul_left _ (by omega)
 omega
/-- One zBl: the rest. -/
theorem quo_step {W v s j N : Nat} (hv0 : 0 < v) (hv : v < B ^ s) (hW : W < v * B ^ (j + 1)) (hN : j + (s + 1) ≤ N) :
 zB4 N W = zB4 j W ++ (zB4 (s + 1) (W / B ^ j) ++ zB4 (N - (j + (s + 1))) (W / B ^ j / B ^ (s + 1))) ∧ zd (zB4 (s + 1) (W / B ^ j)) = W / B ^ j ∧ W / B ^ j < 4294967296 * v ∧
  ∃ W', zB4 j W ++ (zB4 (s + 1) (W / B ^ j % v) ++ zB4 (N - (j + (s + 1))) (W / B ^ j / B ^ (s + 1))) = zB4 N W' ∧ W' < v * B ^ j ∧ W' + B ^ j * (v * (W / B ^ j / v)) = W := by
 have hP := bpos j
 have h1 : W / B ^ j < 4294967296 * v := by
  refine Nat.div_lt_of_lt_mul ?_
  have : v * B ^ (j + 1) = B ^ j * (4294967296 * v) := by rw [Nat.pow_succ]; unfold B; ac_rfl
  rw [← this]; exact hW
 have h2 : W / B ^ j < B ^ (s + 1) := by
  have : 4294967296 * v ≤ 4294967296 * B ^ s := Nat.mul_le_mul_left _ (by omega)
  rw [Nat.pow_succ, Nat.mul_comm (B ^ s)]
  exact Nat.lt_of_lt_of_le h1 this
 have h3 : W / B ^ j / B ^ (s + 1) = 0 := Nat.div_eq_of_lt h2
 have hr : W / B ^ j % v < v := Nat.mod_lt _ hv0
 have hvs : v < B ^ (s + 1) := Nat.lt_of_lt_of_le hv (Nat.pow_le_pow_right (by decide) (by omega))
 refine ⟨?_, zIY _ _ h2, h1, W % B ^ j + B ^ j * (W / B ^ j % v), ?_, ?_, ?_⟩
 ·rw [← zFq, ← zFq]
  congr 1; omega
 ·have e1 : (W % B ^ j + B ^ j * (W / B ^ j % v)) / B ^ j = W / B ^ j % v := by
   rw [Nat.add_mul_div_left _ _ hP, Nat.div_eq_of_lt (Nat.mod_lt _ hP), Nat.zero_add]
  have e2 : (W % B ^ j + B ^ j * (W / B ^ j % v)) % B ^ j = W % B ^ j := by
   rw [Nat.add_mul_mod_self_left, Nat.mod_mod]
  rw [show N = j + ((s + 1) + (N - (j + (s + 1)))) by omega, zFq j, zFq (s + 1), e1, h3, zOh e2.symm]
  rw [show j + (s + 1 + (N - (j + (s + 1)))) - (j + (s + 1)) = N - (j + (s + 1)) by omega, Nat.div_eq_of_lt (Nat.lt_trans hr hvs)]
 ·have h5 : B ^ j * (W / B ^ j % v + 1) ≤ B ^ j * v := Nat.mul_le_mul_left _ hr
  have h6 := Nat.mod_lt W hP
  rw [Nat.mul_add] at h5
  rw [Nat.mul_comm v]
  omega
 ·have a := Nat.div_add_mod W (B ^ j)
  have b := Nat.div_add_mod (W / B ^ j) v
  have c : B ^ j * (v * (W / B ^ j / v)) + B ^ j * (W / B ^ j % v) = B ^ j * (W / B ^ j) := by rw [← Nat.mul_add, b]
  omega
theorem quo_end {n m k W Q : Nat} (hm : 0 < m) (h : Q * (m * 2 ^ k) + W = n * 2 ^ k) (hW : W < m * 2 ^ k) : Q = n / m ∧ W = n % m * 2 ^ k := by
 have hk : 0 < 2 ^ k := Nat.pow_pos (by decide)
 have h0 : 0 < m * 2 ^ k := Nat.mul_pos hm hk
 have e1 : n * 2 ^ k / (m * 2 ^ k) = n / m := Nat.mul_div_mul_right _ _ hk
 have e2 : n * 2 ^ k % (m * 2 ^ k) = n % m * 2 ^ k := Nat.mul_mod_mul_right ..
 rw [← h] at e1 e2
 rw [Nat.add_comm, Nat.add_mul_div_right _ _ h0, Nat.div_eq_of_lt hW, Nat.zero_add] at e1
 rw [Nat.add_comm, Nat.add_mul_mod_self_right, Nat.mod_eq_of_lt hW] at e2
 exact ⟨e1, e2⟩
/-- A limb shifted back by k bits. -/
theorem zQN {d e k : Nat} (hd : d < 4294967296) (hk : k ≤ 31) : d / 2 ^ k ||| e * 2 ^ (32 - k) % 4294967296 = d / 2 ^ k + e % 2 ^ k * 2 ^ (32 - k) := by
 have hp : 0 < 2 ^ (32 - k) := Nat.pow_pos (by decide)
 have e1 : (4294967296 : Nat) = 2 ^ k * 2 ^ (32 - k) := by rw [← Nat.pow_add, show k + (32 - k) = 32 by omega]
 have e2 : e * 2 ^ (32 - k) % 4294967296 = e % 2 ^ k * 2 ^ (32 - k) := by
  rw [e1]; exact Nat.mul_mod_mul_right ..
 have h1 : d / 2 ^ k < 2 ^ (32 - k) := by
  refine Nat.div_lt_of_lt_mul ?_
  rw [← e1]; exact hd
 rw [e2]
 have := Nat.two_pow_add_eq_or_of_lt h1 (e % 2 ^ k)
 rw [Nat.or_comm, Nat.mul_comm (e % 2 ^ k), ← this, Nat.add_comm]
theorem back_lim {d e k : Nat} (hd : d < 4294967296) (hk : k ≤ 31) : d / 2 ^ k + e % 2 ^ k * 2 ^ (32 - k) < 4294967296 := by
 have e1 : (4294967296 : Nat) = 2 ^ k * 2 ^ (32 - k) := by rw [← Nat.pow_add, show k + (32 - k) = 32 by omega]
 have h1 : d / 2 ^ k < 2 ^ (32 - k) := by
  refine Nat.div_lt_of_lt_mul ?_
  rw [← e1]; exact hd
 have h2 : (e % 2 ^ k + 1) * 2 ^ (32 - k) ≤ 2 ^ k * 2 ^ (32 - k) := Nat.mul_le_mul_right _ (Nat.mod_lt _ (Nat.pow_pos (by decide)))
 rw [Nat.add_mul, ← e1] at h2
 omega
theorem back_val {out r : List Int} {i k d e : Nat} (hk : k ≤ 31) (hl : out.length = i) (hd : r.getD i 0 = (d : Int)) {d0 : Nat} (h : zd out * 2 ^ k + d0 = zd (r.take i) + (d % 2 ^ k) * B ^ i) :
 zd (out ++ [((d / 2 ^ k + e % 2 ^ k * 2 ^ (32 - k) : Nat) : Int)]) * 2 ^ k + d0 = zd (r.take (i + 1)) + (e % 2 ^ k) * B ^ (i + 1) := by
 rw [zD6, hl, Int.toNat_natCast, zx, hd, Int.toNat_natCast, Nat.pow_succ]
 have e1 : (4294967296 : Nat) = 2 ^ (32 - k) * 2 ^ k := by rw [← Nat.pow_add, show 32 - k + k = 32 by omega]
 have e2 := Nat.div_add_mod d (2 ^ k)
 have e3 : B ^ i * (d / 2 ^ k + e % 2 ^ k * 2 ^ (32 - k)) * 2 ^ k = B ^ i * (2 ^ k * (d / 2 ^ k)) + e % 2 ^ k * (B ^ i * B) := by
  rw [show B = 2 ^ (32 - k) * 2 ^ k from e1]
  generalize (2 ^ (32 - k) * 2 ^ k) ^ i = p
  rw [Nat.mul_add, Nat.add_mul]
  congr 1 <;> ac_rfl
 have e4 : B ^ i * (2 ^ k * (d / 2 ^ k)) + (d % 2 ^ k) * B ^ i = B ^ i * d := by
  rw [Nat.mul_comm (d % 2 ^ k), ← Nat.mul_add, e2]
 rw [Nat.add_mul, e3]
 omega
end Go.Ax.Bg
namespace Go.Proofs.YtkncmbklkhjmgaaGreatDoor
open Go.Ax Go.Ax.Bg Go.RowKit
attribute [local irreducible] Ax zBI QOp zP
theorem clone_ok (n : Nat) (h : (zS n).length ≤ 1000000) : zU Tryz.prog 225 [zh n] (zh n) := by
 unfold zh
 generalize zS n = l at *
 refine zP.value (K := fun r H => r = .sl 0 0 l.length ∧ H = [some ⟨223, .ints .u32 l⟩]) (zE (P := Tryz.prog) (fn := Tryz.f225) Z Z (by kernel_rfl) Z (fun c hR hfix => ?_)) (fix := fun _ => False) (fun _ h => h) Z ?_
 ·refine rn0 ?_
  refine zMy Z Z Z (fun b hb => ?_)
  refine rn0 ?_
  refine zEd Z (fun h => ?_) (fun h => ?_)
  ·have := hb h
   have hn : l = [] := List.length_eq_zero_iff.mp this
   subst hn
   refine rn7 ?_
   refine zAo 2 ⟨223, .ints .u32 []⟩ Z Z ?_
   refine rn2 ?_
   exact zL hR Z ⟨Z, Z⟩
  ·refine rn1 ?_
   refine zCi Z Z Z Z Z Z Z Z Z Z ?_
   refine zv [some ⟨223, .ints .u32 []⟩] (zQ.eqv ⟨Z, Z, fun i j hi => absurd hi (Nat.not_lt_zero _)⟩ zQ.nil) ?_
   repeat (refine zG (zJ rfl) ?_)
   refine zr Z Z Z Z Z Z Z Z Z Z Z Z (by show 0 + l.length ≤ l.length; omega) Z (by show (0 + l.length) * 4 ≤ _ ∧ _; omega) (fun i j _ _ => rfl) (by rw [hfix]; exact fun h => h) ?_
   refine rn0 ?_
   refine zL hR Z ⟨?_, ?_⟩
   ·show AV.sl 0 0 (0 + l.length) = _; rw [Nat.zero_add]
   ·show ([some ⟨223, .ints .u32 ([] ++ List.take l.length (List.drop 0 l))⟩] : zN) = _
    simp
 ·rintro r H ⟨rfl, rfl⟩
  exact ⟨rfl, fun o ho => by simp at ho; subst ho; exact Nat.le_of_eq (by simp [Cells.len]), zKf zAs⟩
theorem div_less (n m : Nat) (h : n < m) (hn : (zS n).length ≤ 1000000) (hm : (zS m).length ≤ 1000000) : zU Tryz.prog 163 [zh n, zh m] (.tup [.nil, zh n]) := by
 have hc := zMI n m (by omega) (by omega)
 rw [zIO (Int.ofNat_lt.2 h)] at hc
 have hcl := clone_ok n hn
 refine zP.value0 (zE (P := Tryz.prog) (fn := Tryz.f163) Z Z (by kernel_rfl) Z (fun c hR hfix => ?_)) (fix := fun _ => False) (fun _ h => h) Z Z
 refine rn0 ?_
 refine zB Z Z Z hc ?_
 refine rn5 ?_
 refine zB Z Z Z hcl ?_
 refine rn2 ?_
 exact zL hR Z Z
theorem zPW {n m : Nat} (h : m ≤ n) : ¬ zEF n m < 0 := by
 rcases Nat.lt_or_ge m n with q | q
 ·rw [zIN (Int.ofNat_lt.2 q)]; decide
 ·rw [zPU (by omega)]; decide
theorem div_one (n m : Nat) (h : m ≤ n) (hn : (zS n).length ≤ 1000000) (hm : (zS m).length = 1) : zU Tryz.prog 163 [zh n, zh m] (.tup [zh (n / m), zh (n % m)]) := by
 have hc := zMI n m (by omega) (by omega)
 have hcn := zPW h
 obtain ⟨t, low, ht, htb, htp, hv, hlow⟩ := zHA (Nat.le_refl 1) hm
 have hmt : m = t := by
  simp at hv hlow
  subst hlow
  rw [hv]; simp
 subst hmt
 have hds := zJa (zS n) m (zAQ n) (by omega) ⟨htp, htb⟩
 rw [z6] at hds
 have hr : n % m < 4294967296 := Nat.lt_trans (Nat.mod_lt _ htp) htb
 have hsm := zG5 (n % m) (by omega)
 refine zP.value0 (zE (P := Tryz.prog) (fn := Tryz.f163) Z Z (by kernel_rfl) Z (fun c hR hfix => ?_)) (fix := fun _ => False) (fun _ h => h) Z Z
 refine rn0 ?_
 refine zB Z Z Z hc ?_
 refine rn4 ?_
 refine zA Z (fun q => absurd q hcn) (fun q => ?_)
 unfold zh
 refine rn4 ?_
 rw [hm]
 refine rn6 ?_
 refine zD 31 (.int .u32 (m : Nat)) Z (AEq.of_eq (by congr 1)) ?_
 refine zB Z Z Z hds ?_
 refine rn2 ?_
 refine zG (zAS (m := n % m) Z Z Z zBV (by omega)) ?_
 refine zB Z Z Z hsm ?_
 refine rn2 ?_
 exact zL hR Z Z
theorem div_many (n m : Nat) (h : m ≤ n) (hn : (zS n).length ≤ 1000000) (hm2 : 2 ≤ (zS m).length) : zU Tryz.prog 163 [zh n, zh m] (.tup [zh (n / m), zh (n % m)]) := by
 have hlm : (zS m).length ≤ (zS n).length := zAc (by have := zAt (zAQ n); rw [z6] at this; omega)
 have hc := zMI n m (by omega) (by omega)
 have hcn := zPW h
 have hm0 : 0 < m := by
  rcases Nat.eq_zero_or_pos m with q | q
  ·subst q; rw [zBm] at hm2; simp at hm2
  ·exact q
 have hnB : n < B ^ (zS n).length := by have := zAt (zAQ n); rwa [z6] at this
 obtain ⟨s, hs⟩ : ∃ s, (zS m).length = s := ⟨_, rfl⟩
 obtain ⟨ln, hln⟩ : ∃ ln, (zS n).length = ln := ⟨_, rfl⟩
 rw [hs] at hm2 hlm
 rw [hln] at hn hnB hlm
 obtain ⟨t, low, ht, htb, htp, hv, hlow⟩ := zHA (show 1 ≤ s by omega) hs
 refine zP.value0 (zE (P := Tryz.prog) (fn := Tryz.f163) Z Z (by kernel_rfl) Z (fun c hR hfix => ?_)) (fix := fun _ => False) (fun _ h => h) Z Z
 refine rn0 ?_
 refine zB Z Z Z hc ?_
 refine rn4 ?_
 refine zA Z (fun q => absurd q hcn) (fun q => ?_)
 have en : zh n = .ro (.ints .u32 (zS n)) 0 ln := by unfold zh; rw [hln]
 have em : zh m = .ro (.ints .u32 (zS m)) 0 s := by unfold zh; rw [hs]
 rw [en, em]
 refine rn4 ?_
 refine zA Z (fun q => absurd q (by omega)) (fun q => ?_)
 refine rn1 ?_
 refine ze (ι := Nat) (fun k => [(0, .ro (.ints .u32 (zS n)) 0 ln), (1, .ro (.ints .u32 (zS m)) 0 s), (8, iN k)]) (fun _ => []) (fun k => k ≤ 31 ∧ t * 2 ^ k < 4294967296) (fun k => 32 - k) 0 ⟨⟨Z, Z, Z, trivial⟩, Z, by omega, by rw [Nat.pow_zero, Nat.mul_one]; exact htb⟩ ?_
 rintro k ⟨hk1, hk2⟩
 refine rn7 ?_
 refine zD 42 (iN (s - 1)) Z (AEq.of_eq (by congr 1; omega)) ?_
 refine rn6 ?_
 refine zD 44 (.int .u32 (t : Nat)) Z (AEq.of_eq (by rw [ht])) ?_
 skip
 refine zG (zKe (m := t) (s := k) Z Z (by show k ≤ 32; omega) zFA hk2) ?_
 refine zG (zGP (s := 31) Z Z Z) ?_
 refine rn4 ?_
 refine zA Z (fun q1 => ?_) (fun q1 => ?_)
 ·have hmore := k_more htp hk2 hk1 (by omega)
  refine rn5 ?_
  exact zK ⟨k + 1, ⟨hmore.2, hmore.1⟩, by omega, ⟨Z, Z, Z, trivial⟩, Z⟩
 have hstop := k_stop (t := t) (k := k) (by omega)
 obtain ⟨hnl, hnt⟩ := norm_top (show 1 ≤ s by omega) hs ht hstop hk2 hk1
 have hsn := zN1 (zS n) k (zAQ n) (by omega) (by omega)
 have hsm := zN1 (zS m) k (zAQ m) (by omega) (by omega)
 rw [z6, hln] at hsn
 rw [z6, hs] at hsm
 have hvB : m * 2 ^ k < B ^ s := by have := zAt (zAQ (m * 2 ^ k)); rwa [z6, hnl] at this
 have hvB1 : m * 2 ^ k < B ^ (s + 1) := Nat.lt_of_lt_of_le hvB (Nat.pow_le_pow_right (by decide) (by omega))
 have hnorm := zEA (zB4 (s + 1) (m * 2 ^ k)) (zFr _ _) (by rw [zB5]; omega)
 rw [zIY _ _ hvB1] at hnorm
 have hstart := zRA hnB hk1 (show 1 ≤ s by omega) hlm (top_ge (show 1 ≤ s by omega) hnl hnt)
 have hv0 : 0 < m * 2 ^ k := Nat.mul_pos hm0 (Nat.pow_pos (by decide))
 have ev : zh (m * 2 ^ k) = .ro (.ints .u32 (zS (m * 2 ^ k))) 0 s := by unfold zh; rw [hnl]
 have hdig := fun (A U C : List Int) (j : Nat) (Hr : zN) (hj : A.length = j) (hl : U.length = s + 1) (hU : Lim U) => digit_ok A U C (zS (m * 2 ^ k)) j s Hr hj hm2 hl hnl hU (zAQ _) hnt
 rw [z6] at hdig
 have hend := fun Q W => quo_end (n := n) (m := m) (k := k) (W := W) (Q := Q) hm0
 obtain ⟨v, hve⟩ : ∃ v, m * 2 ^ k = v := ⟨_, rfl⟩
 rw [hve] at hsm hvB hvB1 hnorm hstart hv0 ev hdig hend hnl
 refine rn5 ?_
 have c1 : [AV.ro (.ints .u32 (zS n)) 0 ln, iN k] ++ [] = [zGK (zS n), iN k] := by unfold zGK; rw [hln]; rfl
 have c2 : [AV.ro (.ints .u32 (zS m)) 0 s, iN k] ++ [] = [zGK (zS m), iN k] := by unfold zGK; rw [hs]; rfl
 refine zEx Z Z c1 hsn ?_
 repeat (refine zG (zJ rfl) ?_)
 refine zEx Z Z c2 hsm ?_
 refine zDN 1 56 (s + 1) [(0, .ro (.ints .u32 (zS n)) 0 ln), (8, iN k), (53, .sl 0 0 (ln + 1))] Z zAs Z (by show _ ≤ (zB4 _ _).length; rw [zB5]; omega) ⟨Z, Z, Z, trivial⟩ ?_
 refine zB Z Z (zDa (zB5 _ _)) hnorm ?_
 rw [ev]
 refine rn7 ?_
 refine zC0 Z Z Z Z Z Z Z Z (by show (0 : Int) ≤ _ ∧ _ ≤ _ ∧ (4 : Int) * _ ≤ _ ∧ _; omega) ?_
 obtain ⟨J, hJ⟩ : ∃ J, J + s = ln + 1 := ⟨ln + 1 - s, by omega⟩
 rw [show (((ln + 1 : Nat) : Int) - (s : Nat)).toNat = J by omega]
 rw [show ln + 1 - s = J by omega] at hstart
 refine rn7 ?_
 refine ze (ι := Nat × Nat × List Int) (fun p => [(8, iN k), (9, .sl 0 0 (ln + 1)), (10, .ro (.ints .u32 (zS v)) 0 s), (11, iN s), (12, .sl 2 0 J), (13, .int .i64 ((p.1 : Int) - 1))]) (fun p => [some ⟨223, .ints .u32 (zB4 (ln + 1) p.2.1)⟩, none, some ⟨223, .ints .u32 p.2.2⟩])
  (fun p => p.1 ≤ J ∧ p.2.1 < v * B ^ p.1 ∧ p.2.2.length = J ∧ Lim p.2.2 ∧ (∀ x, x < p.1 → p.2.2.getD x 0 = 0) ∧ zd p.2.2 * v + p.2.1 = n * 2 ^ k) (fun p => p.1) (J, n * 2 ^ k, List.replicate J 0)
  ⟨⟨rfl, rfl, rfl, rfl, rfl, ?_, trivial⟩, rfl, Nat.le_refl _, hstart, by simp, Lim.zeros _, fun x _ => zOF _ _, by simp [zIB]⟩ ?_
 ·show some (AV.int .i64 _) = _
  congr 2
  omega
 rintro ⟨j1, W, Q⟩ ⟨w1, w2, w3, w4, w5, w6⟩
 simp only at *
 refine rn7 ?_
 refine zA Z (fun q2 => ?_) (fun q2 => ?_)
 ·obtain ⟨j, rfl⟩ : ∃ j, j1 = j + 1 := ⟨j1 - 1, by omega⟩
  obtain ⟨p1, p2, p3, W', p4, p5, p6⟩ := quo_step (N := ln + 1) hv0 hvB w2 (show j + (s + 1) ≤ ln + 1 by omega)
  have hd := hdig (zB4 j W) (zB4 (s + 1) (W / B ^ j)) (zB4 (ln + 1 - (j + (s + 1))) (W / B ^ j / B ^ (s + 1))) j [none, some ⟨223, .ints .u32 Q⟩] (zB5 _ _) (zB5 _ _) (zFr _ _) (by rw [p2]; exact p3) (by rw [← p1, zB5]; omega)
  rw [p2, p4, ← p1] at hd
  have hq : W / B ^ j / v < 4294967296 := Nat.div_lt_of_lt_mul (by rw [Nat.mul_comm]; exact p3)
  obtain ⟨dg, hdg⟩ : ∃ dg, W / B ^ j / v = dg := ⟨_, rfl⟩
  rw [hdg] at hd hq p6
  refine rn17 ?_
  refine zD 82 (.sl 0 j (s + 1)) Z (AEq.of_eq (by congr 1 <;> omega)) ?_
  skip
  have c3 : [AV.sl 0 j (s + 1), .ro (.ints .u32 (zS v)) 0 s] ++ [] = [.sl 0 j (s + 1), zGK (zS v)] := by unfold zGK; rw [hnl]; rfl
  refine zCb Z Z c3 hd (fun h hh => hh) (fun h hh => hh) ?_
  rintro r H ⟨rfl, rfl⟩
  refine zD 75 (iN j) Z (AEq.of_eq (by congr 1; omega)) ?_
  refine rn7 ?_
  have hz := w5 j (by omega)
  have hset := zK4 (x := (dg : Int)) (show j < Q.length by omega)
  rw [hz, Int.toNat_natCast] at hset
  have z0 : (0 : Int).toNat = 0 := rfl
  rw [z0, Nat.mul_zero, Nat.add_zero] at hset
  refine zK ⟨(j, W', Q.set j (dg : Int)), ⟨by simp only; omega, p5, by simp [w3], w4.set (by omega), fun x hx => ?_, ?_⟩, by simp only; omega, ⟨Z, Z, Z, Z, Z, ?_, trivial⟩, Z⟩
  ·simp only at hx ⊢
   rw [zDl (by omega)]; exact w5 x (by omega)
  ·simp only
   rw [hset, Nat.add_mul, Nat.mul_assoc, Nat.mul_comm dg v]
   omega
  ·show some (AV.int .i64 _) = _
   congr 2
   omega
 ·have hj0 : j1 = 0 := by omega
  subst hj0
  rw [Nat.pow_zero, Nat.mul_one] at w2
  have he := hend (zd Q) W
  obtain ⟨hq, hW⟩ := he w6 w2
  clear he hend
  have hWB : W < B ^ s := Nat.lt_trans w2 hvB
  have htk : (zB4 (ln + 1) W).take s = zB4 s W := by
   rw [show ln + 1 = s + J by omega, zFq, List.take_left' (zB5 _ _)]
  have hn1 := zEA (zB4 s W) (zFr _ _) (by rw [zB5]; omega)
  rw [zIY _ _ hWB] at hn1
  refine rn5 ?_
  refine zG (zFP Z Z Z Z Z Z Z Z ⟨Z, by omega, by omega⟩) ?_
  refine zD 88 (.sl 0 0 s) Z (AEq.of_eq (by rw [Int.toNat_natCast])) ?_
  refine zDN 0 88 s [(8, iN k), (12, .sl 2 0 J)] Z zAs Z (by show _ ≤ (zB4 _ _).length; rw [zB5]; omega) ⟨Z, Z, trivial⟩ ?_
  refine zD 88 (.ro (.ints .u32 (zB4 s W)) 0 s) Z (AEq.trans AEq.take (AEq.of_eq (by rw [htk]))) ?_
  refine zB Z Z (zDa (zB5 _ _)) hn1 ?_
  have hlW := zAQ W
  have hWv := z6 W
  have hlWl : (zS W).length ≤ s := zAc hWB
  unfold zh
  obtain ⟨r, hr⟩ : ∃ r, zS W = r := ⟨_, rfl⟩
  rw [hr] at hlW hWv hlWl ⊢
  refine rn3 ?_
  refine zC0 Z Z Z Z Z Z Z Z (by show (0 : Int) ≤ _ ∧ _ ≤ _ ∧ (4 : Int) * _ ≤ _ ∧ _; omega) ?_
  refine rn3 ?_
  have hd0 : ∃ d0 : Nat, r.getD 0 0 = (d0 : Int) ∧ d0 < 4294967296 := hlW.nat 0
  obtain ⟨d0, hd0, hd0b⟩ := hd0
  refine ze (ι := Nat × List Int) (fun p => [(8, iN k), (12, .sl 2 0 J), (14, .ro (.ints .u32 r) 0 r.length), (15, .sl 3 0 r.length), (93, .ro (.ints .u32 r) 0 r.length), (94, iN r.length), (95, iN p.1)]) (fun p => [none, none, some ⟨223, .ints .u32 Q⟩, some ⟨223, .ints .u32 p.2⟩])
   (fun p => p.1 ≤ r.length ∧ p.2.length = r.length ∧ Lim p.2 ∧ zd (p.2.take p.1) * 2 ^ k + d0 % 2 ^ k = zd (r.take p.1) + (r.getD p.1 0).toNat % 2 ^ k * B ^ p.1) (fun p => r.length - p.1) (0, List.replicate r.length 0)
   ⟨⟨rfl, rfl, rfl, rfl, rfl, rfl, rfl, trivial⟩, rfl, Nat.zero_le _, by simp, Lim.zeros _, by simp [zd]; rw [show r[0]?.getD 0 = (d0 : Int) from hd0]; simp⟩ ?_
  rintro ⟨i, O⟩ ⟨x1, x2, x3, x4⟩
  simp only at *
  refine rn4 ?_
  refine zA Z (fun x5 => ?_) (fun x5 => ?_)
  ·have hil : i < r.length := by omega
   obtain ⟨d, hd, hdb⟩ := hlW.nat i
   obtain ⟨e, he, heb⟩ := hlW.nat (i + 1)
   have hbl := zQN (e := e) hdb hk1
   have hbm := back_lim (e := e) hdb hk1
   have hdk : d / 2 ^ k < 4294967296 := Nat.lt_of_le_of_lt (Nat.div_le_self _ _) hdb
   rw [hd, Int.toNat_natCast] at x4
   have hstep := back_val (e := e) (out := O.take i) (i := i) hk1 (by simp; omega) hd x4
   refine rn6 ?_
   refine zD 102 (.int .u32 (d : Nat)) Z (AEq.of_eq (by rw [hd])) ?_
   skip
   refine zG (zGP (m := d) (s := k) Z Z (by rw [Nat.ble_eq]; show k ≤ 32; omega)) ?_
   refine rn7 ?_
   apply zAJ (H := [none, none, some ⟨223, .ints .u32 Q⟩, some ⟨223, .ints .u32 (O.set i ((d / 2 ^ k + e % 2 ^ k * 2 ^ (32 - k) : Nat) : Int))⟩]) [(8, iN k), (12, .sl 2 0 J), (14, .ro (.ints .u32 r) 0 r.length), (15, .sl 3 0 r.length), (93, .ro (.ints .u32 r) 0 r.length), (94, iN r.length), (95, iN i)]
   ·intro fin
    have noFin : (i + 1 = r.length ∨ k = 0) → e % 2 ^ k * 2 ^ (32 - k) = 0 := by
     rintro (h | h)
     ·have : r.getD (i + 1) 0 = 0 := by simp [List.getD, List.getElem?_eq_none (show r.length ≤ i + 1 by omega)]
      have : e = 0 := by omega
      subst this; simp
     ·subst h; rw [Nat.pow_zero, Nat.mod_one]; try simp
    refine zAh Z Z (fun y1 => ?_) (fun y1 => ?_)
    ·refine rn6 ?_
     refine zA Z (fun y2 => ?_) (fun y2 => ?_)
     ·skip
      refine zi (by kernel_rfl) ?_
      refine zV 0 Z (by kernel_rfl) (by kernel_rfl) (by kernel_rfl) Z (zJ Z) Z ?_
      refine zV 1 Z (by kernel_rfl) (by kernel_rfl) (by kernel_rfl) Z (zJ Z) Z ?_
      refine zV 2 Z (by kernel_rfl) (by kernel_rfl) (by kernel_rfl) Z (zBQ Z Z Z Z Z (by first | (simp only [Nat.zero_add, Int.toNat_natCast, Int.toNat_zero]; exact Z) | exact Z) (by omega)) Z ?_
      refine zV 4 Z (by kernel_rfl) (by kernel_rfl) (by kernel_rfl) Z (zJ Z) Z ?_
      refine zV 5 Z (by kernel_rfl) (by kernel_rfl) (by kernel_rfl) Z (zJ Z) Z ?_
      refine zV 6 Z (by kernel_rfl) (by kernel_rfl) (by kernel_rfl) Z (zCE Z Z (by omega)) Z ?_
      refine zV 7 Z (by kernel_rfl) (by kernel_rfl) (by kernel_rfl) Z (zAB Z Z Z Z (by first | (simp only [Nat.zero_add, Int.toNat_natCast, Int.toNat_zero]; exact Z) | exact Z) (by omega)) Z ?_
      refine zV 9 Z (by kernel_rfl) (by kernel_rfl) (by kernel_rfl) Z (zJ Z) Z ?_
      refine zV 10 Z (by kernel_rfl) (by kernel_rfl) (by kernel_rfl) Z (zE7 Z Z (by omega)) Z ?_
      apply zDV [(8, iN k), (12, .sl 2 0 J), (14, .ro (.ints .u32 r) 0 r.length), (15, .sl 3 0 r.length), (93, .ro (.ints .u32 r) 0 r.length), (94, iN r.length), (95, iN i), (118, .int .u32 (d / 2 ^ k : Nat)), (126, .int .u32 (e * 2 ^ (32 - k) % 4294967296 : Nat)), (115, .sl 3 0 r.length), (116, iN i)]
      ·intro fin2
       have hsl : (O.set i ((d / 2 ^ k : Nat) : Int)).getD i 0 = ((d / 2 ^ k : Nat) : Int) := by simp [List.getD, show i < O.length by omega]
       have hil2 : i < (O.set i ((d / 2 ^ k : Nat) : Int)).length := by simp; omega
       refine zF (is := [3, 8]) (by kernel_rfl) (by simp) Z ⟨fun o ho => ?_, fun o ho => ?_, trivial⟩
       all_goals (cases ho)
       ·refine rn7 ?_
        refine zF (is := [8]) (by kernel_rfl) (by simp) Z ⟨fun o ho => ?_, trivial⟩
        all_goals (cases ho)
        refine rn6 ?_
        refine zDU 123 (.int .u32 (e : Nat)) Z (AEq.of_eq (by rw [show ((i : Int) + 1).toNat = i + 1 by omega, he])) ?_
        refine zDU 125 (iN (32 - k)) Z (AEq.of_eq (by congr 1; omega)) ?_
        refine zV 11 Z (by kernel_rfl) (by kernel_rfl) (by kernel_rfl) Z (zP2 (m := e) (s := 32 - k) Z Z (by show 32 - k ≤ 32; omega) zFA) Z ?_
        refine fin2 _ ⟨Z, Z, Z, Z, Z, Z, Z, ?_, Z, Z, Z, trivial⟩
        show some (AV.int .u32 ((O.set i ((d / 2 ^ k : Nat) : Int)).getD i 0)) = _
        rw [hsl]
       ·refine rn6 ?_
        refine zDU 123 (.int .u32 (e : Nat)) Z (AEq.of_eq (by rw [show ((i : Int) + 1).toNat = i + 1 by omega, he])) ?_
        refine zDU 125 (iN (32 - k)) Z (AEq.of_eq (by congr 1; omega)) ?_
        refine zV 11 Z (by kernel_rfl) (by kernel_rfl) (by kernel_rfl) Z (zP2 (m := e) (s := 32 - k) Z Z (by show 32 - k ≤ 32; omega) zFA) Z ?_
        refine zF (is := [3]) (by kernel_rfl) (by simp) Z ⟨fun o ho => ?_, trivial⟩
        all_goals (cases ho)
        refine rn7 ?_
        refine fin2 _ ⟨Z, Z, Z, Z, Z, Z, Z, ?_, Z, Z, Z, trivial⟩
        show some (AV.int .u32 ((O.set i ((d / 2 ^ k : Nat) : Int)).getD i 0)) = _
        rw [hsl]
      refine zV 12 Z (by kernel_rfl) (by kernel_rfl) (by kernel_rfl) Z (QOp.res (zNm Z Z zFA Z hdk (Nat.mod_lt _ (by decide))) (by rw [hbl])) Z ?_
      have hil2 : i < (O.set i ((d / 2 ^ k : Nat) : Int)).length := by simp; omega
      refine zV 13 Z (by kernel_rfl) (by kernel_rfl) (by kernel_rfl) Z (zBQ Z Z Z Z Z (by first | (simp only [Nat.zero_add, Int.toNat_natCast, Int.toNat_zero]; exact Z) | exact Z) (by omega)) Z ?_
      refine zF (is := [14]) (by kernel_rfl) (by simp) Z ⟨fun o ho => ?_, trivial⟩
      all_goals (cases ho)
      refine rn7 ?_
      refine zW (by kernel_rfl) ?_
      refine zBa ?_
      refine zAi _ (by show [none, none, _, some (⟨_, .ints .u32 ((O.set i _).set i _)⟩ : AObj)] = _; rw [List.set_set]) ?_
      exact fin _ ⟨Z, Z, Z, Z, Z, Z, Z, trivial⟩
     ·have hz := noFin (.inr (by omega))
      rw [hz, Nat.add_zero] at fin
      refine zBa ?_
      exact fin _ ⟨Z, Z, Z, Z, Z, Z, Z, trivial⟩
    ·have hz := noFin (.inl (by omega))
     rw [hz, Nat.add_zero] at fin
     refine zBa ?_
     exact fin _ ⟨Z, Z, Z, Z, Z, Z, Z, trivial⟩
   refine rn3 ?_
   refine zK ⟨(i + 1, O.set i ((d / 2 ^ k + e % 2 ^ k * 2 ^ (32 - k) : Nat) : Int)), ⟨by simp only; omega, by simp [x2], x3.set (by omega), ?_⟩, by simp only; omega, ⟨Z, Z, Z, Z, Z, Z, Z, trivial⟩, Z⟩
   simp only
   rw [zFh (by omega), he, Int.toNat_natCast]
   exact hstep
  ·have hie : i = r.length := by omega
   subst hie
   have hz : r.getD r.length 0 = 0 := by simp [List.getD]
   have z0 : (0 : Int).toNat = 0 := rfl
   rw [hz, z0, Nat.zero_mod, Nat.zero_mul, Nat.add_zero, List.take_of_length_le (by omega), List.take_length, hWv, hW] at x4
   have hpk : 0 < 2 ^ k := Nat.pow_pos (by decide)
   have hOv : zd O = n % m := by
    have h1 : d0 % 2 ^ k < 2 ^ k := Nat.mod_lt _ hpk
    have h2 : (zd O * 2 ^ k + d0 % 2 ^ k) / 2 ^ k = zd O := by rw [Nat.add_comm, Nat.add_mul_div_right _ _ hpk, Nat.div_eq_of_lt h1, Nat.zero_add]
    rw [x4, Nat.mul_div_cancel _ hpk] at h2
    exact h2.symm
   have nq := zEA Q w4 (by omega)
   have no := zEA O x3 (by omega)
   rw [hq] at nq
   rw [hOv] at no
   refine rn5 ?_
   refine zDN 2 130 J [(15, .sl 3 0 r.length)] Z zAs Z (by show _ ≤ Q.length; omega) ⟨Z, trivial⟩ ?_
   refine zB Z Z (zDa w3) nq ?_
   repeat (refine zG (zJ rfl) ?_)
   refine zDN 3 132 r.length [(131, zh (n / m))] Z zAs Z (by show _ ≤ O.length; omega) ⟨Z, trivial⟩ ?_
   refine zB Z Z (zDa x2) no ?_
   refine rn0 ?_
   exact zL hR Z Z
end Go.Proofs.YtkncmbklkhjmgaaGreatDoor
namespace Go.Ax.Bg
theorem zFd {a b k : Nat} (h : a < b) (hb : (zS b).length ≤ k) : (zS a).length ≤ k := by
 have h1 := zAt (zAQ b)
 rw [z6] at h1
 have := zAc (Nat.lt_trans h h1)
 omega
theorem zFN {a b k : Nat} (h : a ≤ b) (hb : (zS b).length ≤ k) : (zS a).length ≤ k := by
 rcases Nat.lt_or_ge a b with q | q
 ·exact zFd q hb
 ·have : a = b := by omega
  subst this; exact hb
theorem zGt : zS 1 = [1] := by
 rw [zGu (by decide)]
 have : 1 / B = 0 := by decide
 rw [this, zBm]; rfl
theorem zQy {n : Nat} : n = 1 ↔ (zS n).length = 1 ∧ (zS n).getD 0 0 = 1 := by
 constructor
 ·rintro rfl; rw [zGt]; exact ⟨rfl, rfl⟩
 ·rintro ⟨h1, h2⟩
  have h3 := zx (zS n) 0
  rw [List.take_of_length_le (by omega), z6, h2] at h3
  simpa [zd] using h3
/-- A row of which k elements on each side have changed places. -/
def zGb (l : List (List UInt8)) (k : Nat) : List (List UInt8) := (List.range l.length).map fun i => if i < k ∨ l.length - k ≤ i then l.getD (l.length - 1 - i) [] else l.getD i []
theorem zDq (l : List (List UInt8)) (k : Nat) : (zGb l k).length = l.length := by unfold zGb; simp
theorem zHU (l : List (List UInt8)) (k i : Nat) (hi : i < l.length) : (zGb l k).getD i [] = if i < k ∨ l.length - k ≤ i then l.getD (l.length - 1 - i) [] else l.getD i [] := by
 unfold zGb
 simp only [List.getD, List.getElem?_map, List.getElem?_range hi, Option.map_some, Option.getD_some]
theorem zKI {l m : List (List UInt8)} (h : l.length = m.length) (he : ∀ i, i < l.length → l.getD i [] = m.getD i []) : l = m := by
 apply List.ext_getElem h
 intro i h1 h2
 have := he i h1
 rw [zDj [] h1, zDj [] h2] at this
 exact this
theorem zRE (l : List (List UInt8)) : zGb l 0 = l := by
 refine zKI (zDq l 0) (fun i hi => ?_)
 rw [zDq] at hi
 rw [zHU l 0 i hi, if_neg (by omega)]
theorem zRC (l : List (List UInt8)) {k : Nat} (h : l.length ≤ 2 * k + 1) : zGb l k = l.reverse := by
 refine zKI (by rw [zDq, List.length_reverse]) (fun i hi => ?_)
 rw [zDq] at hi
 have hr : l.reverse.getD i [] = l.getD (l.length - 1 - i) [] := by
  simp only [List.getD]
  rw [List.getElem?_reverse hi]
 rw [zHU l k i hi, hr]
 split
 ·rfl
 ·congr 1; omega
theorem zRD (l : List (List UInt8)) {k : Nat} (h : k + 1 + k < l.length) : ((zGb l k).set k ((zGb l k).getD (l.length - 1 - k) [])).set (l.length - 1 - k) ((zGb l k).getD k []) = zGb l (k + 1) := by
 refine zKI (by simp [zDq]) (fun i hi => ?_)
 simp only [List.length_set, zDq] at hi
 rw [zHU l (k + 1) i hi, zHU l k (l.length - 1 - k) (by omega), if_neg (by omega), zHU l k k (by omega), if_neg (by omega)]
 simp only [List.getD]
 by_cases h1 : i = l.length - 1 - k
 ·subst h1
  rw [List.getElem?_set_self (by simp [zDq]; omega), if_pos (by omega)]
  simp only [Option.getD_some]
  congr 2; omega
 ·rw [List.getElem?_set_ne (Ne.symm h1)]
  by_cases h2 : i = k
  ·subst h2
   rw [List.getElem?_set_self (by rw [zDq]; omega), if_pos (by omega)]
   simp only [Option.getD_some]
  ·rw [List.getElem?_set_ne (Ne.symm h2)]
   have := zHU l k i hi
   simp only [List.getD] at this
   rw [this]
   by_cases h3 : i < k ∨ l.length - k ≤ i
   ·rw [if_pos h3, if_pos (by omega)]
   ·rw [if_neg h3, if_neg (by omega)]
end Go.Ax.Bg
namespace Go.Proofs.YtkncmbklkhjmgaaGreatDoor
open Go.Ax Go.Ax.Bg Go.RowKit
attribute [local irreducible] Ax zBI QOp zP
theorem zI7 (n m : Nat) (hm : 0 < m) (hn : (zS n).length ≤ 1000000) (hml : (zS m).length ≤ 1000000) : zU Tryz.prog 163 [zh n, zh m] (.tup [zh (n / m), zh (n % m)]) := by
 rcases Nat.lt_or_ge n m with h | h
 ·rw [Nat.div_eq_of_lt h, Nat.mod_eq_of_lt h]
  exact zU.res (div_less n m h hn hml) (AEq.tup2 AEq.natNil)
 ·have h1 : (zS m).length ≠ 0 := by
   have := zCU.2 (show m ≠ 0 by omega)
   omega
  rcases Nat.lt_or_ge (zS m).length 2 with q | q
  ·exact div_one n m h hn (by omega)
  ·exact div_many n m h hn q
theorem zOl (n m : Nat) (hn : (zS n).length ≤ 1000000) (hm : (zS m).length ≤ 1000000) : zU Tryz.prog 81 [zh n, zh m] (zh (Nat.gcd n m)) := by
 refine zP.value0 (zE (P := Tryz.prog) (fn := Tryz.f81) Z Z (by kernel_rfl) Z (fun c hR hfix => ?_)) (fix := fun _ => False) (fun _ h => h) Z Z
 refine rn1 ?_
 refine ze (ι := Nat × Nat) (fun p => [(0, zh p.1), (1, zh p.2)]) (fun _ => []) (fun p => (zS p.1).length ≤ 1000000 ∧ (zS p.2).length ≤ 1000000 ∧ Nat.gcd p.1 p.2 = Nat.gcd n m) (fun p => p.2) (n, m) ⟨⟨Z, Z, trivial⟩, Z, hn, hm, Z⟩ ?_
 rintro ⟨a, b⟩ ⟨h1, h2, h3⟩
 simp only at *
 have hd := fun h => zI7 a b h h1 h2
 have hpos : 0 < (zS b).length ↔ b ≠ 0 := zCU
 have en : zh b = .ro (.ints .u32 (zS b)) 0 (zS b).length := rfl
 rw [en] at hd ⊢
 refine rn6 ?_
 refine zA Z (fun h4 => ?_) (fun h4 => ?_)
 ·have hb : b ≠ 0 := hpos.1 (by omega)
  refine rn1 ?_
  refine zB Z Z Z (hd (by omega)) ?_
  refine rn5 ?_
  refine zK ⟨(b, a % b), ⟨h2, zFd (Nat.mod_lt a (by omega)) h2, ?_⟩, Nat.mod_lt a (by omega), ⟨Z, Z, trivial⟩, Z⟩
  show Nat.gcd b (a % b) = Nat.gcd n m
  rw [← h3, Nat.gcd_comm a b, Nat.gcd_rec b a, Nat.gcd_comm]
 ·have hb : b = 0 := by
   rcases Nat.eq_zero_or_pos b with q | q
   ·exact q
   ·have := hpos.2 (by omega); omega
  rw [hb, Nat.gcd_zero_right] at h3
  refine rn5 ?_
  refine zL hR Z ?_
  rw [← h3]; rfl
theorem one_ok (n : Nat) : zU Tryz.prog 82 [zh n] (.bool (decide (n = 1))) := by
 refine zP.value0 (zE (P := Tryz.prog) (fn := Tryz.f82) Z Z (by kernel_rfl) Z (fun c hR hfix => ?_)) (fix := fun _ => False) (fun _ h => h) Z Z
 have h1 : n = 1 ↔ (zS n).length = 1 ∧ (zS n).getD 0 0 = 1 := zQy
 unfold zh
 refine rn4 ?_
 refine zAh Z Z (fun h2 => ?_) (fun h2 => ?_)
 ·refine rn6 ?_
  refine zL hR Z ?_
  show AV.bool (decide ((zS n).getD _ 0 = 1)) = _
  congr 1
  rw [decide_eq_decide, h1]
  exact ⟨fun h => ⟨by omega, h⟩, fun h => h.2⟩
 ·refine rn6 ?_
  refine zL hR Z ?_
  show AV.bool false = _
  rw [decide_eq_false]
  intro h
  exact h2 (by have := (h1.1 h).1; omega)
theorem zPA (l : List (List UInt8)) (hl : l.length ≤ 1000000000) :
 zP Tryz.prog 256 [.sl 0 0 l.length] [some ⟨9, .strs l⟩] (fun h => h < 1) (fun _ H => H = [some ⟨9, .strs l.reverse⟩]) := by
 refine zE (P := Tryz.prog) (fn := Tryz.f256) Z Z (by kernel_rfl) Z (fun c hR hfix => ?_)
 refine rn7 ?_
 refine ze (ι := Nat) (fun k => [(0, .sl 0 0 l.length), (2, iN k), (3, .int .i64 ((l.length : Int) - 1 - k))]) (fun k => [some ⟨9, .strs (zGb l k)⟩]) (fun k => 2 * k ≤ l.length + 1) (fun k => l.length + 1 - k) 0 ⟨⟨Z, Z, ?_, trivial⟩, by rw [zRE], by omega⟩ ?_
 ·show some (AV.int .i64 _) = _
  congr 2; omega
 rintro k hk
 have hrl := zDq l k
 refine rn4 ?_
 refine zA Z (fun h1 => ?_) (fun h1 => ?_)
 ·have hk2 : k + 1 + k < l.length := by omega
  have e1 : ((l.length : Int) - 1 - (k : Nat)).toNat = l.length - 1 - k := by omega
  refine rn1 ?_
  refine zi (by kernel_rfl) ?_
  refine zV 0 Z (by kernel_rfl) (by kernel_rfl) (by kernel_rfl) Z (zJ Z) Z ?_
  refine zV 1 Z (by kernel_rfl) (by kernel_rfl) (by kernel_rfl) Z (zJ Z) Z ?_
  refine zV 2 Z (by kernel_rfl) (by kernel_rfl) (by kernel_rfl) Z (zJ Z) Z ?_
  refine zV 3 Z (by kernel_rfl) (by kernel_rfl) (by kernel_rfl) Z (zJ Z) Z ?_
  refine zV 4 Z (by kernel_rfl) (by kernel_rfl) (by kernel_rfl) Z (zJ Z) Z ?_
  refine zV 5 Z (by kernel_rfl) (by kernel_rfl) (by kernel_rfl) Z (zJ Z) Z ?_
  refine zV 6 Z (by kernel_rfl) (by kernel_rfl) (by kernel_rfl) Z (zBQ Z Z Z Z Z (by first | (simp only [Nat.zero_add, Int.toNat_natCast, Int.toNat_zero]; exact Z) | exact Z) (by omega)) Z ?_
  refine zV 8 Z (by kernel_rfl) (by kernel_rfl) (by kernel_rfl) Z (zJ Z) Z ?_
  refine zV 9 Z (by kernel_rfl) (by kernel_rfl) (by kernel_rfl) Z (zJ Z) Z ?_
  refine zV 10 Z (by kernel_rfl) (by kernel_rfl) (by kernel_rfl) Z (zBQ Z Z Z Z Z (by first | (simp only [Nat.zero_add, Int.toNat_natCast, Int.toNat_zero]; exact Z) | exact Z) (by omega)) Z ?_
  refine zDU 20 (.ptr 0 (l.length - 1 - k) 0) Z (AEq.of_eq (by rw [e1])) ?_
  have b1 : l.length - 1 - k < (zGb l k).length := by omega
  have b2 : k < (zGb l k).length := by omega
  apply zDV [(0, .sl 0 0 l.length), (2, iN k), (3, .int .i64 ((l.length : Int) - 1 - k)), (14, .sl 0 0 l.length), (15, iN k), (16, .sl 0 0 l.length), (17, .int .i64 ((l.length : Int) - 1 - k)), (21, .str ((zGb l k).getD (l.length - 1 - k) [])), (25, .str ((zGb l k).getD k []))]
  ·intro fin
   refine zF (is := [7, 11]) (by kernel_rfl) (by simp) Z ⟨fun o ho => ?_, fun o ho => ?_, trivial⟩
   all_goals (cases ho)
   ·refine zEO ?_
    refine zF (is := [11]) (by kernel_rfl) (by simp) Z ⟨fun o ho => ?_, trivial⟩
    all_goals (cases ho)
    refine zEO ?_
    exact fin _ ⟨Z, Z, Z, Z, Z, Z, Z, Z, Z, trivial⟩
   ·refine zEO ?_
    refine zF (is := [7]) (by kernel_rfl) (by simp) Z ⟨fun o ho => ?_, trivial⟩
    all_goals (cases ho)
    refine zEO ?_
    exact fin _ ⟨Z, Z, Z, Z, Z, Z, Z, Z, Z, trivial⟩
  refine zV 12 Z (by kernel_rfl) (by kernel_rfl) (by kernel_rfl) Z (zBQ Z Z Z Z Z (by first | (simp only [Nat.zero_add, Int.toNat_natCast, Int.toNat_zero]; exact Z) | exact Z) (by omega)) Z ?_
  refine zF (is := [13]) (by kernel_rfl) (by simp) Z ⟨fun o ho => ?_, trivial⟩
  all_goals (cases ho)
  refine rn7 ?_
  refine zV 14 Z (by kernel_rfl) (by kernel_rfl) (by kernel_rfl) Z (zBQ Z Z Z Z Z (by first | (simp only [Nat.zero_add, Int.toNat_natCast, Int.toNat_zero]; exact Z) | exact Z) (by omega)) Z ?_
  refine zDU 27 (.ptr 0 (l.length - 1 - k) 0) Z (AEq.of_eq (by rw [e1])) ?_
  have b3 : l.length - 1 - k < ((zGb l k).set k ((zGb l k).getD (l.length - 1 - k) [])).length := by simp; omega
  refine zF (is := [15]) (by kernel_rfl) (by simp) Z ⟨fun o ho => ?_, trivial⟩
  all_goals (cases ho)
  refine rn7 ?_
  refine zW (by kernel_rfl) ?_
  refine rn7 ?_
  refine zK ⟨k + 1, by omega, by omega, ⟨Z, Z, ?_, trivial⟩, ?_⟩
  ·show some (AV.int .i64 _) = _
   congr 2; omega
  ·show ([some ⟨_, .strs (((zGb l k).set k _).set (l.length - 1 - k) _)⟩] : zN) = _
   rw [zRD l hk2]
 ·refine rn5 ?_
  refine ax_end hR Z ?_
  rw [zRC l (by omega)]
end Go.Proofs.YtkncmbklkhjmgaaGreatDoor
namespace Go.Proofs
open Go.Shelf
def Tryz.lays156_ren : Go.Shelf.Ren := ⟨fun | 156 => 257 | 165 => 279 | 166 => 104 | 169 => 107 | 240 => 182 | 241 => 293 | 276 => 237 | 277 => 301 | n => n, fun | 31 => 154 | 9 => 9 | 3 => 3 | 4 => 4 | 0 => 0 | 20 => 20 | 72 => 161 | 76 => 164 | 70 => 158 | 37 => 159 | 75 => 163 | 127 => 250 | 164 => 303 | 5 => 5 | 80 => 167 | n => n, fun | n => n⟩
theorem Tryz.lays156 : Go.Proofs.Lays.n156 Tryz.prog Tryz.lays156_ren := {
 mixed := by kernel_rfl
 f156 := Tryz.func257.trans (congrArg some (by kernel_rfl))
 f165 := Tryz.func279.trans (congrArg some (by kernel_rfl))
 f166 := Tryz.func104.trans (congrArg some (by kernel_rfl))
 f169 := Tryz.func107.trans (congrArg some (by kernel_rfl))
 f240 := Tryz.func182.trans (congrArg some (by kernel_rfl))
 f241 := Tryz.func293.trans (congrArg some (by kernel_rfl))
 f276 := Tryz.func237.trans (congrArg some (by kernel_rfl))
 f277 := Tryz.func301.trans (congrArg some (by kernel_rfl))
 t0 := Tryz.underlying0
 a0 := Tryz.isAgg0
 z0 := Tryz.sizeOf0
 v0 := Tryz.zeroValue0
 t3 := Tryz.underlying3
 a3 := Tryz.isAgg3
 z3 := Tryz.sizeOf3
 v3 := Tryz.zeroValue3
 t4 := Tryz.underlying4
 a4 := Tryz.isAgg4
 z4 := Tryz.sizeOf4
 v4 := Tryz.zeroValue4
 t9 := Tryz.underlying9
 a9 := Tryz.isAgg9
 z9 := Tryz.sizeOf9
 v9 := Tryz.zeroValue9
 t20 := Tryz.underlying20
 a20 := Tryz.isAgg20
 z20 := Tryz.sizeOf20
 v20 := Tryz.zeroValue20
 t31 := Tryz.underlying154
 a31 := Tryz.isAgg154
 z31 := Tryz.sizeOf154
 v31 := Tryz.zeroValue154
 t37 := Tryz.underlying159
 a37 := Tryz.isAgg159
 z37 := Tryz.sizeOf159
 v37 := Tryz.zeroValue159
 t70 := Tryz.underlying158
 a70 := Tryz.isAgg158
 z70 := Tryz.sizeOf158
 v70 := Tryz.zeroValue158
 t72 := Tryz.underlying161
 a72 := Tryz.isAgg161
 z72 := Tryz.sizeOf161
 v72 := Tryz.zeroValue161
 t75 := Tryz.underlying163
 a75 := Tryz.isAgg163
 z75 := Tryz.sizeOf163
 v75 := Tryz.zeroValue163
 t76 := Tryz.underlying164
 a76 := Tryz.isAgg164
 z76 := Tryz.sizeOf164
 v76 := Tryz.zeroValue164
 t127 := Tryz.underlying250
 a127 := Tryz.isAgg250
 z127 := Tryz.sizeOf250
 v127 := Tryz.zeroValue250
 t164 := Tryz.underlying303
 a164 := Tryz.isAgg303
 z164 := Tryz.sizeOf303
 v164 := Tryz.zeroValue303 }
theorem Tryz.Builder_Extra_156 : Builder.Extra Tryz.prog Tryz.lays156_ren := {
 sizeBuilder := by kernel_rfl
 liesBuilder := by kernel_rfl
 t5 := Tryz.underlying5
 a5 := Tryz.isAgg5
 z5 := Tryz.sizeOf5
 v5 := Tryz.zeroValue5
 infoByte := by kernel_rfl
 cellsByte := by kernel_rfl
 sizeByte := by kernel_rfl
 neB5 := by decide }
open Go.RowKit in
/-- No element: the empty string; the world is as it was. (Whatever the slice's address and capacity: a nil slice too.) (LAID: no walk: one application.) -/
theorem Tryz.strings_Join_none (a : Option Addr) (c : Nat) (sep : ByteArray) (w : World) :
 Calls Tryz.prog 257 #[.slice a 0 c, .string sep] w fun e w' => e = .returned (.string ⟨#[]⟩) ∧ w' = w := Any.strings_Join_none Tryz.lays156 Tryz.Builder_Extra_156 a c sep w
open Go.RowKit in
/-- strings.Join: "Join concatenates the elements of its first argument to create a single string. The separator string sep is placed between elements in the resulting string.": HOWEVER MANY ELEMENTS. Below the heap's end the world is as it was. (LAID: no walk: one application.) -/
theorem Tryz.strings_Join (bk o c : Nat) (xs : List ByteArray) (sep : ByteArray) (w : World) (hcells : ∀ (j : Nat) x, xs[j]? = some x → w.cell? ⟨bk, o + j, none⟩ = some (.string x)) (hbk : bk < w.heap.size) (hN : xs.length ≤ 140737488355328) (hcap : xs.length ≤ c) (hlen : (Lib.join (xs.map (·.data.toList)) sep.data.toList).length ≤ 140737488355328) :
 Calls Tryz.prog 257 #[.slice (some ⟨bk, o, none⟩) xs.length c, .string sep] w fun e w' => e = .returned (.string ⟨(Lib.join (xs.map (·.data.toList)) sep.data.toList).toArray⟩) ∧ Below w.heap.size w w' := Any.strings_Join Tryz.lays156 Tryz.Builder_Extra_156 bk o c xs sep w hcells hbk hN hcap hlen
def Tryz.laysM171_ren : Go.Shelf.Ren := ⟨fun | 171 => 183 | 243 => 238 | 246 => 275 | 283 => 289 | 284 => 290 | 285 => 291 | 286 => 292 | 129 => 297 | 317 => 296 | 318 => 298 | 319 => 299 | 320 => 300 | 337 => 302 | 338 => 303 | n => n, fun | 3 => 3 | 9 => 9 | 2 => 2 | 4 => 4 | 171 => 342 | 0 => 0 | 53 => 228 | 37 => 159 | 5 => 5 | 173 => 345 | 212 => 356 | 51 => 223 | 20 => 20 | 213 => 357 | 46 => 292 | 232 => 361 | 233 => 362 | n => n, fun | 17 => 5 | 18 => 6 | 19 => 7 | n => n⟩
theorem Tryz.laysM171 : Go.Proofs.LaysM.n171 Tryz.prog Tryz.laysM171_ren := {
 mixed := by kernel_rfl
 f129 := Tryz.func297.trans (congrArg some (by kernel_rfl))
 f171 := Tryz.func183.trans (congrArg some (by kernel_rfl))
 f243 := Tryz.func238.trans (congrArg some (by kernel_rfl))
 f246 := Tryz.func275.trans (congrArg some (by kernel_rfl))
 f283 := Tryz.func289.trans (congrArg some (by kernel_rfl))
 f284 := Tryz.func290.trans (congrArg some (by kernel_rfl))
 f285 := Tryz.func291.trans (congrArg some (by kernel_rfl))
 f286 := Tryz.func292.trans (congrArg some (by kernel_rfl))
 f317 := Tryz.func296.trans (congrArg some (by kernel_rfl))
 f318 := Tryz.func298.trans (congrArg some (by kernel_rfl))
 f319 := Tryz.func299.trans (congrArg some (by kernel_rfl))
 f320 := Tryz.func300.trans (congrArg some (by kernel_rfl))
 f337 := Tryz.func302.trans (congrArg some (by kernel_rfl))
 f338 := Tryz.func303.trans (congrArg some (by kernel_rfl))
 t0 := Tryz.underlying0
 a0 := Tryz.isAgg0
 z0 := Tryz.sizeOf0
 v0 := Tryz.zeroValue0
 t2 := Tryz.underlying2
 a2 := Tryz.isAgg2
 z2 := Tryz.sizeOf2
 v2 := Tryz.zeroValue2
 t3 := Tryz.underlying3
 a3 := Tryz.isAgg3
 z3 := Tryz.sizeOf3
 v3 := Tryz.zeroValue3
 t4 := Tryz.underlying4
 a4 := Tryz.isAgg4
 z4 := Tryz.sizeOf4
 v4 := Tryz.zeroValue4
 t5 := Tryz.underlying5
 a5 := Tryz.isAgg5
 z5 := Tryz.sizeOf5
 v5 := Tryz.zeroValue5
 t9 := Tryz.underlying9
 a9 := Tryz.isAgg9
 z9 := Tryz.sizeOf9
 v9 := Tryz.zeroValue9
 t20 := Tryz.underlying20
 a20 := Tryz.isAgg20
 z20 := Tryz.sizeOf20
 v20 := Tryz.zeroValue20
 t37 := Tryz.underlying159
 a37 := Tryz.isAgg159
 z37 := Tryz.sizeOf159
 v37 := Tryz.zeroValue159
 t46 := Tryz.underlying292
 a46 := Tryz.isAgg292
 z46 := Tryz.sizeOf292
 v46 := Tryz.zeroValue292
 t51 := Tryz.underlying223
 a51 := Tryz.isAgg223
 z51 := Tryz.sizeOf223
 v51 := Tryz.zeroValue223
 t53 := Tryz.underlying228
 a53 := Tryz.isAgg228
 z53 := Tryz.sizeOf228
 v53 := Tryz.zeroValue228
 t171 := Tryz.underlying342
 a171 := Tryz.isAgg342
 z171 := Tryz.sizeOf342
 v171 := Tryz.zeroValue342
 t173 := Tryz.underlying345
 a173 := Tryz.isAgg345
 z173 := Tryz.sizeOf345
 v173 := Tryz.zeroValue345
 t212 := Tryz.underlying356
 a212 := Tryz.isAgg356
 z212 := Tryz.sizeOf356
 v212 := Tryz.zeroValue356
 t213 := Tryz.underlying357
 a213 := Tryz.isAgg357
 z213 := Tryz.sizeOf357
 t232 := Tryz.underlying361
 a232 := Tryz.isAgg361
 z232 := Tryz.sizeOf361
 v232 := Tryz.zeroValue361
 t233 := Tryz.underlying362
 a233 := Tryz.isAgg362
 z233 := Tryz.sizeOf362
 v233 := Tryz.zeroValue362
 g17 := by kernel_rfl
 g18 := by kernel_rfl
 g19 := by kernel_rfl
 i0 := by kernel_rfl
 i2 := by kernel_rfl
 i3 := by kernel_rfl
 i4 := by kernel_rfl
 i5 := by kernel_rfl
 i9 := by kernel_rfl
 i20 := by kernel_rfl
 i37 := by kernel_rfl
 i46 := by kernel_rfl
 i51 := by kernel_rfl
 i53 := by kernel_rfl
 i171 := by kernel_rfl
 i173 := by kernel_rfl
 i212 := by kernel_rfl
 i232 := by kernel_rfl
 i233 := by kernel_rfl
 m17 := by kernel_rfl
 m18 := by kernel_rfl
 m19 := by kernel_rfl }
open Go.RowKit Go.Sort Go.Lib in
/-- strconv.Itoa: "Itoa is equivalent to FormatInt(int64(i), 10).": i's DECIMAL NUMERAL ('Lib.itoa': a '-' where i is negative, then the digits), FOR EVERY int. The world behind the call: the world before it, new blocks behind the heap (the library's 'var a [24]byte'), draws. (LAID: no walk: one application.) -/
theorem Tryz.strconv_Itoa (n : Int) (h0 : -9223372036854775808 ≤ n) (h1 : n ≤ 9223372036854775807) (w : World) (htab : Lib.TabIs Tryz.prog w "internal/strconv.uint64pow10" .u64 Lib.pow10Tab) :
 Calls Tryz.prog 183 #[.int .i64 n] w fun e w' => e = .returned (.string ⟨(Lib.itoa n).toArray⟩) ∧ ∃ k os, w' = grow (w.drewN k) os := Any.strconv_Itoa Tryz.laysM171 n h0 h1 w htab
def Tryz.laysPu14_ren : Go.Shelf.Ren := ⟨fun | 14 => 161 | 16 => 221 | 17 => 222 | 19 => 266 | 20 => 267 | 21 => 268 | 22 => 269 | 23 => 270 | 24 => 271 | 25 => 235 | 27 => 183 | 26 => 285 | 28 => 238 | 29 => 275 | 30 => 289 | 31 => 290 | 32 => 291 | 33 => 292 | 35 => 297 | 34 => 296 | 36 => 298 | 37 => 299 | 38 => 300 | 39 => 302 | 40 => 303 | n => n, fun | 9 => 9 | 3 => 3 | 22 => 228 | 24 => 163 | 25 => 229 | 4 => 4 | 34 => 321 | 5 => 5 | 36 => 292 | 37 => 159 | 0 => 0 | 39 => 323 | 21 => 21 | 44 => 337 | 47 => 250 | 50 => 354 | 48 => 352 | 2 => 2 | 52 => 342 | 55 => 345 | 59 => 356 | 60 => 223 | 20 => 20 | 61 => 357 | 65 => 361 | 66 => 362 | 67 => 167 | n => n, fun | 0 => 1 | 1 => 2 | 2 => 5 | 3 => 6 | 4 => 7 | n => n⟩
theorem Tryz.laysPu14 : Go.Proofs.LaysPu.n14 Tryz.prog Tryz.laysPu14_ren := {
 mixed := by kernel_rfl
 f14 := Tryz.func161.trans (congrArg some (by kernel_rfl))
 f16 := Tryz.func221.trans (congrArg some (by kernel_rfl))
 f17 := Tryz.func222.trans (congrArg some (by kernel_rfl))
 f19 := Tryz.func266.trans (congrArg some (by kernel_rfl))
 f20 := Tryz.func267.trans (congrArg some (by kernel_rfl))
 f21 := Tryz.func268.trans (congrArg some (by kernel_rfl))
 f22 := Tryz.func269.trans (congrArg some (by kernel_rfl))
 f23 := Tryz.func270.trans (congrArg some (by kernel_rfl))
 f24 := Tryz.func271.trans (congrArg some (by kernel_rfl))
 f25 := Tryz.func235.trans (congrArg some (by kernel_rfl))
 f26 := Tryz.func285.trans (congrArg some (by kernel_rfl))
 f27 := Tryz.func183.trans (congrArg some (by kernel_rfl))
 f28 := Tryz.func238.trans (congrArg some (by kernel_rfl))
 f29 := Tryz.func275.trans (congrArg some (by kernel_rfl))
 f30 := Tryz.func289.trans (congrArg some (by kernel_rfl))
 f31 := Tryz.func290.trans (congrArg some (by kernel_rfl))
 f32 := Tryz.func291.trans (congrArg some (by kernel_rfl))
 f33 := Tryz.func292.trans (congrArg some (by kernel_rfl))
 f34 := Tryz.func296.trans (congrArg some (by kernel_rfl))
 f35 := Tryz.func297.trans (congrArg some (by kernel_rfl))
 f36 := Tryz.func298.trans (congrArg some (by kernel_rfl))
 f37 := Tryz.func299.trans (congrArg some (by kernel_rfl))
 f38 := Tryz.func300.trans (congrArg some (by kernel_rfl))
 f39 := Tryz.func302.trans (congrArg some (by kernel_rfl))
 f40 := Tryz.func303.trans (congrArg some (by kernel_rfl))
 t0 := Tryz.underlying0
 a0 := Tryz.isAgg0
 z0 := Tryz.sizeOf0
 v0 := Tryz.zeroValue0
 i0 := by kernel_rfl
 t2 := Tryz.underlying2
 a2 := Tryz.isAgg2
 z2 := Tryz.sizeOf2
 v2 := Tryz.zeroValue2
 i2 := by kernel_rfl
 t3 := Tryz.underlying3
 a3 := Tryz.isAgg3
 z3 := Tryz.sizeOf3
 v3 := Tryz.zeroValue3
 i3 := by kernel_rfl
 t4 := Tryz.underlying4
 a4 := Tryz.isAgg4
 z4 := Tryz.sizeOf4
 v4 := Tryz.zeroValue4
 i4 := by kernel_rfl
 t5 := Tryz.underlying5
 a5 := Tryz.isAgg5
 z5 := Tryz.sizeOf5
 v5 := Tryz.zeroValue5
 i5 := by kernel_rfl
 t9 := Tryz.underlying9
 a9 := Tryz.isAgg9
 z9 := Tryz.sizeOf9
 v9 := Tryz.zeroValue9
 i9 := by kernel_rfl
 t20 := Tryz.underlying20
 a20 := Tryz.isAgg20
 z20 := Tryz.sizeOf20
 v20 := Tryz.zeroValue20
 i20 := by kernel_rfl
 t21 := Tryz.underlying21
 a21 := Tryz.isAgg21
 z21 := Tryz.sizeOf21
 v21 := Tryz.zeroValue21
 i21 := by kernel_rfl
 t22 := Tryz.underlying228
 a22 := Tryz.isAgg228
 z22 := Tryz.sizeOf228
 v22 := Tryz.zeroValue228
 i22 := by kernel_rfl
 t24 := Tryz.underlying163
 a24 := Tryz.isAgg163
 z24 := Tryz.sizeOf163
 v24 := Tryz.zeroValue163
 i24 := by kernel_rfl
 t25 := Tryz.underlying229
 a25 := Tryz.isAgg229
 z25 := Tryz.sizeOf229
 v25 := Tryz.zeroValue229
 i25 := by kernel_rfl
 t34 := Tryz.underlying321
 a34 := Tryz.isAgg321
 z34 := Tryz.sizeOf321
 v34 := Tryz.zeroValue321
 i34 := by kernel_rfl
 c34 := by kernel_rfl
 t36 := Tryz.underlying292
 a36 := Tryz.isAgg292
 z36 := Tryz.sizeOf292
 v36 := Tryz.zeroValue292
 i36 := by kernel_rfl
 t37 := Tryz.underlying159
 a37 := Tryz.isAgg159
 z37 := Tryz.sizeOf159
 v37 := Tryz.zeroValue159
 i37 := by kernel_rfl
 t39 := Tryz.underlying323
 a39 := Tryz.isAgg323
 z39 := Tryz.sizeOf323
 v39 := Tryz.zeroValue323
 i39 := by kernel_rfl
 t44 := Tryz.underlying337
 a44 := Tryz.isAgg337
 z44 := Tryz.sizeOf337
 v44 := Tryz.zeroValue337
 i44 := by kernel_rfl
 t47 := Tryz.underlying250
 a47 := Tryz.isAgg250
 z47 := Tryz.sizeOf250
 v47 := Tryz.zeroValue250
 i47 := by kernel_rfl
 t48 := Tryz.underlying352
 a48 := Tryz.isAgg352
 z48 := Tryz.sizeOf352
 v48 := Tryz.zeroValue352
 i48 := by kernel_rfl
 t50 := Tryz.underlying354
 a50 := Tryz.isAgg354
 z50 := Tryz.sizeOf354
 v50 := Tryz.zeroValue354
 i50 := by kernel_rfl
 t52 := Tryz.underlying342
 a52 := Tryz.isAgg342
 z52 := Tryz.sizeOf342
 v52 := Tryz.zeroValue342
 i52 := by kernel_rfl
 t55 := Tryz.underlying345
 a55 := Tryz.isAgg345
 z55 := Tryz.sizeOf345
 v55 := Tryz.zeroValue345
 i55 := by kernel_rfl
 t59 := Tryz.underlying356
 a59 := Tryz.isAgg356
 z59 := Tryz.sizeOf356
 v59 := Tryz.zeroValue356
 i59 := by kernel_rfl
 t60 := Tryz.underlying223
 a60 := Tryz.isAgg223
 z60 := Tryz.sizeOf223
 v60 := Tryz.zeroValue223
 i60 := by kernel_rfl
 t61 := Tryz.underlying357
 a61 := Tryz.isAgg357
 z61 := Tryz.sizeOf357
 t65 := Tryz.underlying361
 a65 := Tryz.isAgg361
 z65 := Tryz.sizeOf361
 v65 := Tryz.zeroValue361
 i65 := by kernel_rfl
 t66 := Tryz.underlying362
 a66 := Tryz.isAgg362
 z66 := Tryz.sizeOf362
 v66 := Tryz.zeroValue362
 i66 := by kernel_rfl
 t67 := Tryz.underlying167
 a67 := Tryz.isAgg167
 z67 := Tryz.sizeOf167
 v67 := Tryz.zeroValue167
 i67 := by kernel_rfl
 g0 := by kernel_rfl
 m0 := by kernel_rfl
 g1 := by kernel_rfl
 m1 := by kernel_rfl
 g2 := by kernel_rfl
 m2 := by kernel_rfl
 g3 := by kernel_rfl
 m3 := by kernel_rfl
 g4 := by kernel_rfl
 m4 := by kernel_rfl }
open Go.RowKit in
/-- strconv.ParseUint(s, 10, 32), AT EVERY STRING THAT SPELLS A uint32 ('Lib.parseUintB 32 s.data.toList = .ok u'): u, AND NO ERROR. (LAID: no walk: one application.) -/
theorem Tryz.strconv_ParseUint_10_at32_ok (s : ByteArray) (hmax : s.size ≤ 9223372036854775806) (u : Nat) (h : Lib.parseUintB 32 s.data.toList = .ok u) (w : World) :
 Calls Tryz.prog 161 #[.string s, .int .i64 10, .int .i64 32] w fun e w' => e = .returned (.tuple #[.int .u64 u, .nilIface]) ∧ (w' = w ∨ w' = Lib.bytesWorld w 5 s) := Any.strconv_ParseUint_10_at32_ok Tryz.laysPu14 s hmax u h w
def Tryz.lays212_ren : Go.Shelf.Ren := ⟨fun | 212 => 251 | 263 => 277 | 264 => 278 | n => n, fun | 46 => 292 | 51 => 223 | 146 => 329 | 53 => 228 | 148 => 331 | n => n, fun | n => n⟩
theorem Tryz.lays212 : Go.Proofs.Lays.n212 Tryz.prog Tryz.lays212_ren := {
 mixed := by kernel_rfl
 f212 := Tryz.func251.trans (congrArg some (by kernel_rfl))
 f263 := Tryz.func277.trans (congrArg some (by kernel_rfl))
 f264 := Tryz.func278.trans (congrArg some (by kernel_rfl))
 t46 := Tryz.underlying292
 a46 := Tryz.isAgg292
 z46 := Tryz.sizeOf292
 v46 := Tryz.zeroValue292
 t51 := Tryz.underlying223
 a51 := Tryz.isAgg223
 z51 := Tryz.sizeOf223
 v51 := Tryz.zeroValue223
 t53 := Tryz.underlying228
 a53 := Tryz.isAgg228
 z53 := Tryz.sizeOf228
 v53 := Tryz.zeroValue228
 t146 := Tryz.underlying329
 a146 := Tryz.isAgg329
 z146 := Tryz.sizeOf329
 v146 := Tryz.zeroValue329
 t148 := Tryz.underlying331
 a148 := Tryz.isAgg331
 z148 := Tryz.sizeOf331
 v148 := Tryz.zeroValue331 }
open Go.RowKit Go.Lib in
/-- math/bits.Mul: "Mul returns the full-width product of x and y": on a machine of 64 bits: Mul64's. (LAID: no walk: one application.) -/
theorem Tryz.bits_Mul (x y : Nat) (hx : x < 18446744073709551616) (hy : y < 18446744073709551616) (w : World) :
 Calls Tryz.prog 251 #[.int .u64 x, .int .u64 y] w fun e w' => e = .returned (.tuple #[.int .u64 ((x * y / 18446744073709551616 : Nat) : Int), .int .u64 ((x * y % 18446744073709551616 : Nat) : Int)]) ∧ w' = w := Any.bits_Mul Tryz.lays212 x y hx hy w
end Go.Proofs
namespace Go.Ax.Bg
open Go.Ax.Tb (zBl)
def dg (c : UInt8) : Bool := decide (48 ≤ c.toNat ∧ c.toNat < 58)
theorem dg_iff {c : UInt8} : dg c = true ↔ zBl c := by
 unfold dg zBl
 simp only [decide_eq_true_eq]
 constructor <;> intro h <;> exact ⟨by omega, by omega⟩
def trR (s : List UInt8) : List UInt8 := (s.reverse.dropWhile dg).reverse
def trL (s : List UInt8) : List UInt8 := s.dropWhile dg
theorem zGn {l m : List UInt8} (h : l.all dg = true) : (l ++ m).dropWhile dg = m.dropWhile dg := by
 induction l with
 | nil => rfl
 | cons x r ih =>
  simp only [List.all_cons, Bool.and_eq_true] at h
  rw [List.cons_append, List.dropWhile_cons_of_pos h.1, ih h.2]
theorem trR_of {s : List UInt8} {k : Nat} (hk : k ≤ s.length) (h : (s.drop k).all dg = true) (h2 : k = 0 ∨ dg (s.getD (k - 1) 0) = false) : trR s = s.take k := by
 unfold trR
 conv => lhs; rw [← List.take_append_drop k s]
 rw [List.reverse_append, zGn (by rw [List.all_reverse]; exact h)]
 rcases h2 with h2 | h2
 ·subst h2; rfl
 ·rcases Nat.eq_zero_or_pos k with q | q
  ·subst q; rfl
  ·have e : s.take k = s.take (k - 1) ++ [s.getD (k - 1) 0] := by
    have := zBM s 0 (k - 1) (by omega)
    rwa [show k - 1 + 1 = k by omega] at this
   rw [e, List.reverse_append, List.reverse_singleton, List.singleton_append, List.dropWhile_cons_of_neg (by rw [h2]; decide)]
   simp
theorem trL_of {s : List UInt8} {k : Nat} (h : (s.take k).all dg = true) (h2 : s.length ≤ k ∨ dg (s.getD k 0) = false) : trL s = s.drop k := by
 unfold trL
 conv => lhs; rw [← List.take_append_drop k s]
 rw [zGn h]
 rcases h2 with h2 | h2
 ·rw [List.drop_of_length_le h2]; rfl
 ·rcases Nat.lt_or_ge k s.length with q | q
  ·rw [zCk s 0 k q, List.dropWhile_cons_of_neg (by rw [h2]; decide)]
  ·rw [List.drop_of_length_le q]; rfl
theorem zOd {l : List UInt8} : l.dropWhile dg = [] ↔ l.all dg = true := by
 induction l with
 | nil => simp
 | cons x r ih =>
  cases h : dg x with
  | true => rw [List.dropWhile_cons_of_pos h, ih]; simp [h]
  | false => rw [List.dropWhile_cons_of_neg (by rw [h]; decide)]; simp [h]
theorem dw_head {l : List UInt8} {x : UInt8} {r : List UInt8} (h : l.dropWhile dg = x :: r) : dg x = false := by
 induction l with
 | nil => cases h
 | cons y q ih =>
  cases hy : dg y with
  | true => rw [List.dropWhile_cons_of_pos hy] at h; exact ih h
  | false =>
   rw [List.dropWhile_cons_of_neg (by rw [hy]; decide)] at h
   cases h; exact hy
theorem trR_nil {s : List UInt8} : trL (trR s) = [] ↔ s.all dg = true := by
 unfold trL trR
 rw [zOd, List.all_reverse]
 constructor
 ·intro h
  cases hq : s.reverse.dropWhile dg with
  | nil => rw [zOd, List.all_reverse] at hq; exact hq
  | cons x r =>
   rw [hq] at h
   have := dw_head hq
   simp [this] at h
 ·intro h
  have : s.reverse.dropWhile dg = [] := by rw [zOd, List.all_reverse]; exact h
  rw [this]; rfl
/-- Up to nine digits as a number. -/
theorem parse_go {l : List UInt8} (hd : ∀ c ∈ l, zBl c) : ∀ (a : Nat), zA5 a l ≤ 4294967295 → Lib.parseUintM 4294967295 a l = .ok (zA5 a l) := by
 induction l with
 | nil => intro a _; rfl
 | cons c r ih =>
  intro a h
  have hc := hd c (by simp)
  unfold zBl at hc
  rw [zDX] at h ⊢
  have h1 : a * 10 + (c.toNat - 48) ≤ 4294967295 := by
   refine Nat.le_trans ?_ h
   rw [zGk r]
   have : (a * 10 + (c.toNat - 48)) * 1 ≤ (a * 10 + (c.toNat - 48)) * 10 ^ r.length := Nat.mul_le_mul_left _ (Nat.one_le_pow _ _ (by decide))
   omega
  have i := ih (fun x hx => hd x (by simp [hx])) _ h
  unfold Lib.parseUintM
  rw [if_pos (by omega), if_neg (by omega), if_neg (by omega)]
  exact i
theorem zDn {l : List UInt8} (h0 : l ≠ []) (hd : ∀ c ∈ l, zBl c) (h9 : l.length ≤ 9) : Lib.parseUintB 32 l = .ok (zA5 0 l) ∧ zA5 0 l < 1000000000 := by
 have hlt := zJs hd
 have hp : 10 ^ l.length ≤ 10 ^ 9 := Nat.pow_le_pow_right (by decide) h9
 have e9 : (10 : Nat) ^ 9 = 1000000000 := by decide
 rw [e9] at hp
 unfold Lib.parseUintB
 rw [if_neg h0]
 have e32 : (2 : Nat) ^ 32 - 1 = 4294967295 := by decide
 rw [e32]
 exact ⟨parse_go hd 0 (by omega), by omega⟩
theorem zLc : ∀ (ls : List (List UInt8)), Lib.join ls [] = ls.flatten
 | [] => rfl
 | x :: r => by
  rw [Lib.join_cons, List.flatten_cons]
  congr 1
  unfold Lib.joinTail
  congr 1
  simp
end Go.Ax.Bg
namespace Go.Proofs.YtkncmbklkhjmgaaGreatDoor
open Go.Ax Go.Ax.Bg Go.RowKit
theorem zM0 (w : World) (q : Nat) (os : Array Obj) : Below w.heap.size w (Go.Sort.grow (w.drewN q) os) := by
 refine ⟨Z, Z, Z, ?_, fun k hk => ?_⟩
 ·show w.heap.size ≤ (w.heap ++ os).size
  simp
 ·show (w.heap ++ os)[k]? = w.heap[k]?
  rw [Array.getElem?_append_left hk]
theorem vals1 {w : World} {S : Nat → Prop} {σ : Nat → Option Blk} {a : AV} {vals : Array Value} (hv : VRs w S σ [a] vals) : ∃ x, vals = #[x] ∧ VR w S σ a x := by
 obtain ⟨h1, h2⟩ := hv
 have q := h2 0 (by simp)
 have hl : vals.toList.length = 1 := by simpa using h1
 match hq : vals.toList, hl with
 | [x], _ =>
  have e : vals = #[x] := by rw [← Array.toArray_toList (xs := vals), hq]
  subst e
  exact ⟨x, Z, by simpa using q⟩
theorem vals2 {w : World} {S : Nat → Prop} {σ : Nat → Option Blk} {a b : AV} {vals : Array Value} (hv : VRs w S σ [a, b] vals) : ∃ x y, vals = #[x, y] ∧ VR w S σ a x ∧ VR w S σ b y := by
 obtain ⟨h1, h2⟩ := hv
 have q := h2 0 (by simp)
 have q1 := h2 1 (by simp)
 have hl : vals.toList.length = 2 := by simpa using h1
 match hq : vals.toList, hl with
 | [x, y], _ =>
  have e : vals = #[x, y] := by rw [← Array.toArray_toList (xs := vals), hq]
  subst e
  exact ⟨x, y, Z, by simpa using q, by simpa using q1⟩
theorem vals3 {w : World} {S : Nat → Prop} {σ : Nat → Option Blk} {a b c : AV} {vals : Array Value} (hv : VRs w S σ [a, b, c] vals) : ∃ x y z, vals = #[x, y, z] ∧ VR w S σ a x ∧ VR w S σ b y ∧ VR w S σ c z := by
 obtain ⟨h1, h2⟩ := hv
 have q := h2 0 (by simp)
 have q1 := h2 1 (by simp)
 have q2 := h2 2 (by simp)
 have hl : vals.toList.length = 3 := by simpa using h1
 match hq : vals.toList, hl with
 | [x, y, z], _ =>
  have e : vals = #[x, y, z] := by rw [← Array.toArray_toList (xs := vals), hq]
  subst e
  exact ⟨x, y, z, Z, by simpa using q, by simpa using q1, by simpa using q2⟩
theorem itoa (n : Int) (h : -9223372036854775808 ≤ n ∧ n ≤ 9223372036854775807) : zU Tryz.prog 183 [.int .i64 n] (.str (Lib.itoa n)) := by
 refine zU.of_below ⟨Tryz.f183, Z, by kernel_rfl, Z⟩ Z Z (fun w S vals hG hS hv => ?_)
 obtain ⟨x, rfl, a⟩ := vals1 hv
 have hx : x = .int .i64 n := by cases a; rfl
 subst hx
 have hp : pinG w := hG
 refine (Tryz.strconv_Itoa n h.1 h.2 w hp.2.1).mono ?_
 rintro e w' ⟨rfl, k, os, rfl⟩
 exact ⟨_, Z, zM0 w k os, .str _ _⟩
theorem itoaN (n : Nat) (h : n ≤ 9223372036854775807) : zU Tryz.prog 183 [iN n] (.str (Lib.decDigits n)) := by
 have := itoa n ⟨by omega, by omega⟩
 rwa [Go.Ax.Tb.itoa_nat] at this
theorem mulB (a b : Nat) (ha : a < 18446744073709551616) (hb : b < 18446744073709551616) : zU Tryz.prog 251 [.int .u64 (a : Nat), .int .u64 (b : Nat)] (.tup [.int .u64 (a * b / 18446744073709551616 : Nat), .int .u64 (a * b % 18446744073709551616 : Nat)]) := by
 refine zU.of_below ⟨Tryz.f251, Z, by kernel_rfl, Z⟩ Z Z (fun w S vals hG hS hv => ?_)
 obtain ⟨x, y, rfl, p, q⟩ := vals2 hv
 have hx : x = .int .u64 (a : Nat) := by cases p; rfl
 have hy : y = .int .u64 (b : Nat) := by cases q; rfl
 subst hx hy
 refine (Tryz.bits_Mul a b ha hb w).mono ?_
 rintro e w' ⟨rfl, rfl⟩
 refine ⟨_, Z, Below.refl _ _, .tup _ _ _ Z (fun i hi => ?_)⟩
 match i, hi with
 | 0, _ => exact .int _ _ _
 | 1, _ => exact .int _ _ _
theorem parse32 (s : List UInt8) (u : Nat) (hl : s.length ≤ 1000) (h : Lib.parseUintB 32 s = .ok u) : zU Tryz.prog 161 [.str s, .int .i64 10, .int .i64 32] (.tup [.int .u64 (u : Nat), .nilif]) := by
 refine zU.of_below ⟨Tryz.f161, Z, by kernel_rfl, Z⟩ Z Z (fun w S vals hG hS hv => ?_)
 obtain ⟨x, y, z, rfl, p, q, r⟩ := vals3 hv
 have hx : x = zJl s := by cases p; rfl
 have hy : y = .int .i64 10 := by cases q; rfl
 have hz : z = .int .i64 32 := by cases r; rfl
 subst hx hy hz
 have hd : (⟨s.toArray⟩ : ByteArray).data.toList = s := by simp
 have hsz : (⟨s.toArray⟩ : ByteArray).size = s.length := by simp [ByteArray.size]
 refine (Tryz.strconv_ParseUint_10_at32_ok ⟨s.toArray⟩ (by rw [hsz]; omega) u (by rw [hd]; exact h) w).mono ?_
 rintro e w' ⟨rfl, hw⟩
 refine ⟨_, Z, ?_, .tup _ _ _ Z (fun i hi => ?_)⟩
 ·rcases hw with rfl | rfl
  ·exact Below.refl _ _
  ·exact Lib.bytesWorld_below _ _ _
 ·match i, hi with
  | 0, _ => exact .int _ _ _
  | 1, _ => exact .nilif _
theorem join (ls : List (List UInt8)) (sep : List UInt8) (hN : ls.length ≤ 140737488355328) (hj : (Lib.join ls sep).length ≤ 140737488355328) : zU Tryz.prog 257 [.ro (.strs ls) 0 ls.length, .str sep] (.str (Lib.join ls sep)) := by
 refine zU.of_below ⟨Tryz.f257, Z, by kernel_rfl, Z⟩ Z Z (fun w S vals hG hS hv => ?_)
 obtain ⟨x, y, rfl, a, b⟩ := vals2 hv
 have hy : y = zJl sep := by cases b; rfl
 subst hy
 have hsep : (⟨sep.toArray⟩ : ByteArray).data.toList = sep := by simp
 have hbyte : ∀ l : List UInt8, (⟨l.toArray⟩ : ByteArray).data.toList = l := fun l => by simp
 generalize hn : ls.length = n at a
 cases a with
 | ro0 _ _ _ ad cap =>
  have : ls = [] := List.length_eq_zero_iff.mp hn
  subst this
  refine (Tryz.strings_Join_none ad cap ⟨sep.toArray⟩ w).mono ?_
  rintro e w' ⟨rfl, rfl⟩
  exact ⟨_, Z, Below.refl _ _, .str _ []⟩
 | ro _ _ _ _ bk o cap val hSb hlen hc hvv h1' =>
  subst hn
  have hxs : (ls.map (fun l => (⟨l.toArray⟩ : ByteArray))).length = ls.length := by simp
  have c := Tryz.strings_Join bk o cap (ls.map (fun l => (⟨l.toArray⟩ : ByteArray))) ⟨sep.toArray⟩ w (fun j x hx => ?_) (hS _ hSb) (by simpa using hN) (by simpa using hlen) ?_
  ·rw [hxs] at c
   refine c.mono ?_
   rintro e w' ⟨rfl, hb⟩
   have e2 : ((ls.map (fun l => (⟨l.toArray⟩ : ByteArray))).map (fun x => x.data.toList)) = ls := by rw [List.map_map]; exact (List.map_congr_left (fun x _ => rfl)).trans (List.map_id _)
   rw [e2, hsep]
   exact ⟨_, Z, hb, .str _ _⟩
  ·simp only [List.getElem?_map, Option.map_eq_some_iff] at hx
   obtain ⟨l, hl, rfl⟩ := hx
   have hlt : j < ls.length := (List.getElem?_eq_some_iff.1 hl).1
   have q := hc j 0 hlt (by simp [Cells.sz])
   have v := hvv j 0 hlt (by simp [Cells.sz])
   simp only [Cells.sz, Nat.mul_one, Nat.add_zero] at q
   simp only [Cells.at, Nat.zero_add, List.getD, hl, Option.getD_some] at v
   rw [q]
   generalize val j 0 = z at v
   cases v; rfl
  ·have e2 : ((ls.map (fun l => (⟨l.toArray⟩ : ByteArray))).map (fun x => x.data.toList)) = ls := by rw [List.map_map]; exact (List.map_congr_left (fun x _ => rfl)).trans (List.map_id _)
   rw [e2, hsep]; exact hj
end Go.Proofs.YtkncmbklkhjmgaaGreatDoor
namespace Go.Proofs.YtkncmbklkhjmgaaGreatDoor
open Go.Ax Go.Ax.Bg Go.RowKit
attribute [local irreducible] Ax zBI QOp zP
def zIi (s p : List UInt8) : Bool := decide (p.length ≤ s.length ∧ s.take p.length = p)
theorem zP1 (s p : List UInt8) (hs : s.length ≤ 9223372036854775807) (hp : p.length ≤ 9223372036854775807) : zU Tryz.prog 212 [.str s, .str p] (.bool (zIi s p)) := by
 refine zP.value0 (zE (P := Tryz.prog) (fn := Tryz.f212) Z Z (by kernel_rfl) Z (fun c hR hfix => ?_)) (fix := fun _ => False) (fun _ h => h) Z Z
 refine rn8 ?_
 refine zAh Z Z (fun h0 => ?_) (fun h0 => ?_)
 ·refine zHb ?_
  refine zL hR Z ?_
  show AV.bool (decide ((List.drop _ s).take _ = p)) = _
  unfold zIi
  congr 1
  rw [decide_eq_decide]
  simp only [Int.toNat_zero, List.drop_zero, Int.toNat_natCast, Nat.sub_zero]
  exact ⟨fun h => ⟨by omega, h⟩, fun h => h.2⟩
 ·refine rn6 ?_
  refine zL hR Z ?_
  show AV.bool false = _
  unfold zIi
  rw [decide_eq_false]
  exact fun h => h0 (by omega)
theorem zJy (s p : List UInt8) (hs : s.length ≤ 9223372036854775807) (hp : p.length ≤ 9223372036854775807) : zU Tryz.prog 254 [.str s, .str p] (.bool (zIi s p)) := by
 have hc := zP1 s p hs hp
 refine zP.value0 (zE (P := Tryz.prog) (fn := Tryz.f254) Z Z (by kernel_rfl) Z (fun c hR hfix => ?_)) (fix := fun _ => False) (fun _ h => h) Z Z
 generalize zIi s p = b at *
 refine rn0 ?_
 refine zB Z Z Z hc ?_
 refine rn0 ?_
 exact zL hR Z Z
/-- strings.Repeat("0", n), n small. -/
theorem repeat0 (n : Nat) (hn : n ≤ 60) : zU Tryz.prog 255 [.str [48], iN n] (.str (List.replicate n 48)) := by
 refine zP.value0 (zE (P := Tryz.prog) (fn := Tryz.f255) Z Z (by kernel_rfl) Z (fun c hR hfix => ?_)) (fix := fun _ => False) (fun _ h => h) Z Z
 refine rn4 ?_
 refine zA Z (fun h0 => ?_) (fun h0 => ?_)
 ·have : n = 0 := by omega
  subst this
  refine rn6 ?_
  exact zL hR Z Z
 refine rn4 ?_
 refine zA Z (fun h1 => ?_) (fun h1 => ?_)
 ·have : n = 1 := by omega
  subst this
  refine rn6 ?_
  exact zL hR Z Z
 refine rn6 ?_
 have hm := mulB 1 n (by omega) (by omega)
 rw [Nat.one_mul, Nat.div_eq_of_lt (by omega), Nat.mod_eq_of_lt (by omega)] at hm
 have p1 : zU Tryz.prog 254 [.str (List.replicate 128 32), .str [48]] (.bool false) := zJy _ _ (by decide) (by decide)
 have p2 : zU Tryz.prog 254 [.str (List.replicate 128 45), .str [48]] (.bool false) := zJy _ _ (by decide) (by decide)
 have p3 : zU Tryz.prog 254 [.str (List.replicate 64 48), .str [48]] (.bool true) := zJy _ _ (by decide) (by decide)
 refine zG (zAS (m := 1) Z Z Z zBV (by decide)) ?_
 repeat (refine zG (zJ rfl) ?_)
 refine zG (zAS (m := n) Z Z Z zBV (by omega)) ?_
 refine zB Z Z Z hm ?_
 refine rn6 ?_
 refine zA Z (fun h => absurd h (by omega)) (fun h => ?_)
 refine rn1 ?_
 refine zG (zFz (m := n) Z Z Z (by omega)) ?_
 refine rn12 ?_
 refine zAh Z Z (fun h3 => ?_) (fun h3 => absurd (show (n : Int) ≤ 128 by omega) h3)
 refine rn2 ?_
 refine zB Z Z Z p1 ?_
 refine rn8 ?_
 refine zAh Z Z (fun h4 => ?_) (fun h4 => absurd (show (n : Int) ≤ 128 by omega) h4)
 refine rn2 ?_
 refine zB Z Z Z p2 ?_
 refine rn8 ?_
 refine zAh Z Z (fun h5 => ?_) (fun h5 => absurd (show (n : Int) ≤ 64 by omega) h5)
 refine rn2 ?_
 refine zB Z Z Z p3 ?_
 refine rn5 ?_
 refine zG (zD1 Z Z Z Z Z Z (by show (0 : Int) ≤ 0 ∧ (0 : Int) ≤ (n : Nat) ∧ ((n : Nat) : Int) ≤ ((64 : Nat) : Int); omega)) ?_
 refine rn6 ?_
 refine zL hR Z ?_
 show AV.str ((List.drop 0 (List.replicate 64 48)).take (n - 0)) = _
 rw [List.drop_zero, Nat.sub_zero, List.take_replicate, Nat.min_eq_left (by omega)]
/-- strings.asciiSet: the digits. -/
def zEV (k : Nat) : List AV := (List.range 256).map fun j => AV.bool (decide (48 ≤ j ∧ j < 48 + k))
theorem zCh (k : Nat) : (zEV k).length = 256 := by unfold zEV; simp
theorem zJ2 (k j : Nat) (hj : j < 256) : (zEV k)[j]? = some (AV.bool (decide (48 ≤ j ∧ j < 48 + k))) := by
 unfold zEV
 rw [List.getElem?_map, List.getElem?_range hj]; rfl
theorem setL_set (k : Nat) (hk : k < 10) : (zEV k).set (48 + k) (.bool true) = zEV (k + 1) := by
 apply List.ext_getElem?
 intro i
 rcases Nat.lt_or_ge i 256 with hi | hi
 ·rw [zJ2 (k + 1) i hi]
  by_cases h : i = 48 + k
  ·subst h
   rw [List.getElem?_set_self (by rw [zCh]; exact hi)]
   congr 2
   exact (decide_eq_true (by omega)).symm
  ·rw [List.getElem?_set_ne (Ne.symm h), zJ2 k i hi]
   congr 2
   rw [decide_eq_decide]; omega
 ·rw [List.getElem?_eq_none (by rw [List.length_set, zCh]; exact hi), List.getElem?_eq_none (by rw [zCh]; exact hi)]
def digS : List UInt8 := [48, 49, 50, 51, 52, 53, 54, 55, 56, 57]
theorem zPf (k : Nat) (hk : k < 10) : (digS.getD k 0).toNat = 48 + k := by
 have : k = 0 ∨ k = 1 ∨ k = 2 ∨ k = 3 ∨ k = 4 ∨ k = 5 ∨ k = 6 ∨ k = 7 ∨ k = 8 ∨ k = 9 := by omega
 rcases this with rfl | rfl | rfl | rfl | rfl | rfl | rfl | rfl | rfl | rfl <;> rfl
theorem box_all (l : List AV) : (List.range (Cells.box l).sz).map ((Cells.box l).at 0) = l := by
 apply List.ext_getElem?
 intro i
 rcases Nat.lt_or_ge i l.length with h | h
 ·rw [List.getElem?_map, List.getElem?_range (by exact h)]
  show some (l.getD i .any) = _
  rw [List.getD, List.getElem?_eq_getElem h]; rfl
 ·rw [List.getElem?_eq_none (by simpa [Cells.sz] using h), List.getElem?_eq_none h]
theorem set_ok : zU Tryz.prog 216 [.str digS] (.tup [.agg (zEV 10), .bool true]) := by
 refine zP.value0 (zE (P := Tryz.prog) (fn := Tryz.f216) Z Z (by kernel_rfl) Z (fun c hR hfix => ?_)) (fix := fun _ => False) (fun _ h => h) Z (by kernel_rfl)
 refine rn4 ?_
 refine zAi [some ⟨286, .box (zEV 0)⟩] (by kernel_rfl) ?_
 refine ze (ι := Nat) (fun k => [(0, .str digS), (2, .ptr 0 0 0), (4, iN k)]) (fun k => [some ⟨286, .box (zEV k)⟩]) (fun k => k ≤ 10) (fun k => 10 - k) 0 ⟨⟨Z, Z, Z, trivial⟩, Z, by omega⟩ ?_
 rintro k hk
 have hdl : digS.length = 10 := rfl
 refine rn6 ?_
 refine zA Z (fun h1 => ?_) (fun h1 => ?_)
 ·have hk2 : k < 10 := by omega
  refine rn12 ?_
  refine zA Z (fun h2 => absurd h2 (by rw [Int.toNat_natCast, zPf k hk2]; omega)) (fun h2 => ?_)
  refine rn1 ?_
  refine zD 18 (.int .u8 (48 + k : Nat)) Z (AEq.of_eq (by rw [Int.toNat_natCast, zPf k hk2])) ?_
  refine zG (zIk (m := ((48 + k : Nat) : Int)) (jx := 48 + k) Z Z Z Z (by rw [Int.toNat_natCast, Nat.zero_add]) (by omega)) ?_
  refine zBe Z Z Z Z Z (by rw [show (Cells.box (zEV k)).sz = 256 from zCh k]; exact Nat.ble_eq.symm ▸ (by omega : 48 + k + 1 ≤ 256)) Z Nat.zero_lt_one ?_
  refine rn5 ?_
  refine zK ⟨k + 1, by omega, by omega, ⟨Z, Z, Z, trivial⟩, ?_⟩
  show ([some ⟨_, .box ((zEV k).set (48 + k) (.bool true))⟩] : zN) = _
  rw [setL_set k hk2]
 ·have hke : k = 10 := by omega
  subst hke
  refine rn5 ?_
  refine zG (zHh (ob := ⟨286, .box (zEV 10)⟩) Z Z Z (zCh 10).symm Z Z (box_all _) Nat.zero_lt_one) ?_
  refine zz (c' := .box (zEV 10)) Z Z (by rw [show (Cells.box (zEV 10)).sz = 256 from zCh 10]; rfl) Z (by rw [show (Cells.box (zEV 10)).sz = 256 from zCh 10]; exact zCh 10) Nat.zero_lt_one Z Z (fun i' j' hi' hj' => ?_) ?_
  ·rw [if_pos (Nat.lt_one_iff.1 hi')]; rfl
  refine rn0 ?_
  exact zL hR Z Z
theorem zJZ (ch : UInt8) : zU Tryz.prog 262 [.rp (.box (zEV 10)) 0 0, .int .u8 (ch.toNat : Nat)] (.bool (dg ch)) := by
 have hlt := ch.toNat_lt
 have hat := zJ2 10 ch.toNat (by simpa using hlt)
 refine zP.value0 (zE (P := Tryz.prog) (fn := Tryz.f262) Z Z (by kernel_rfl) Z (fun c hR hfix => ?_)) (fix := fun _ => False) (fun _ h => h) Z Z
 refine rn15 ?_
 refine zG (zNh (m := ((ch.toNat : Nat) : Int)) (jx := ch.toNat) Z Z Z Z (by rw [Int.toNat_natCast, Nat.zero_add]) (by omega)) ?_
 refine zG (zD0 Z Z Z hat) ?_
 refine rn0 ?_
 exact zL hR Z Z
theorem right_ok (s : List UInt8) (hs : s.length ≤ 9223372036854775807) : zU Tryz.prog 218 [.str s, .rp (.box (zEV 10)) 0 0] (.str (trR s)) := by
 refine zP.value0 (zE (P := Tryz.prog) (fn := Tryz.f218) Z Z (by kernel_rfl) Z (fun c hR hfix => ?_)) (fix := fun _ => False) (fun _ h => h) Z Z
 refine rn1 ?_
 refine ze (ι := Nat) (fun k => [(0, .str (s.take k)), (1, .rp (.box (zEV 10)) 0 0)]) (fun _ => []) (fun k => k ≤ s.length ∧ (s.drop k).all dg = true) (fun k => k) s.length ⟨⟨by rw [List.take_length]; rfl, Z, trivial⟩, Z, Nat.le_refl _, by simp⟩ ?_
 rintro k ⟨hk, hd⟩
 have hlen : (s.take k).length = k := by simp; omega
 have hof := trR_of hk hd
 refine rn6 ?_
 refine zA Z (fun h1 => ?_) (fun h1 => ?_)
 ·have hk1 : 0 < k := by omega
  have hg : (s.take k).getD (k - 1) 0 = s.getD (k - 1) 0 := by
   simp only [List.getD, List.getElem?_take, show k - 1 < k by omega, if_true]
  have e1 : ((k : Int) - 1).toNat = k - 1 := by omega
  have hc := zJZ (s.getD (k - 1) 0)
  refine rn19 ?_
  refine zD 13 (.int .u8 ((s.getD (k - 1) 0).toNat : Nat)) Z (AEq.of_eq (by rw [hlen, e1, hg])) ?_
  refine zB Z Z Z hc ?_
  refine rn5 ?_
  refine zEd Z (fun h2 => ?_) (fun h2 => ?_)
  ·have h3 : dg (s.getD (k - 1) 0) = false := by simpa using h2
   refine rn14 ?_
   refine zL hR Z ?_
   rw [hof (.inr h3)]; rfl
  ·have h3 : dg (s.getD (k - 1) 0) = true := by simpa using h2
   refine rn8 ?_
   refine zG (zD1 Z Z Z Z Z Z (by omega)) ?_
   refine rn5 ?_
   refine zK ⟨k - 1, ⟨by omega, ?_⟩, by omega, ⟨?_, Z, trivial⟩, Z⟩
   ·rw [zCk s 0 (k - 1) (by omega), show k - 1 + 1 = k by omega, List.all_cons, h3, hd]; rfl
   ·show some (AV.str ((List.drop 0 (s.take k)).take ((((s.take k).length : Int) - 1).toNat - 0))) = _
    rw [List.drop_zero, hlen, e1, Nat.sub_zero, List.take_take, Nat.min_eq_left (by omega)]
 ·have hk0 : k = 0 := by omega
  subst hk0
  refine rn5 ?_
  refine zL hR Z ?_
  rw [hof (.inl rfl)]; rfl
theorem left_ok (s : List UInt8) (hs : s.length ≤ 9223372036854775807) : zU Tryz.prog 217 [.str s, .rp (.box (zEV 10)) 0 0] (.str (trL s)) := by
 refine zP.value0 (zE (P := Tryz.prog) (fn := Tryz.f217) Z Z (by kernel_rfl) Z (fun c hR hfix => ?_)) (fix := fun _ => False) (fun _ h => h) Z Z
 refine rn1 ?_
 refine ze (ι := Nat) (fun k => [(0, .str (s.drop k)), (1, .rp (.box (zEV 10)) 0 0)]) (fun _ => []) (fun k => k ≤ s.length ∧ (s.take k).all dg = true) (fun k => s.length - k) 0 ⟨⟨by rw [List.drop_zero]; rfl, Z, trivial⟩, Z, Nat.zero_le _, by simp⟩ ?_
 rintro k ⟨hk, hd⟩
 have hlen : (s.drop k).length = s.length - k := by simp
 have hof := trL_of hd
 refine rn6 ?_
 refine zA Z (fun h1 => ?_) (fun h1 => ?_)
 ·have hk1 : k < s.length := by omega
  have hg : (s.drop k).getD 0 0 = s.getD k 0 := by simp [List.getD]
  have hc := zJZ (s.getD k 0)
  refine rn12 ?_
  refine zD 10 (.int .u8 ((s.getD k 0).toNat : Nat)) Z (AEq.of_eq (by rw [Int.toNat_zero, hg])) ?_
  refine zB Z Z Z hc ?_
  refine rn5 ?_
  refine zEd Z (fun h2 => ?_) (fun h2 => ?_)
  ·have h3 : dg (s.getD k 0) = false := by simpa using h2
   refine rn14 ?_
   refine zL hR Z ?_
   rw [hof (.inr h3)]; rfl
  ·have h3 : dg (s.getD k 0) = true := by simpa using h2
   refine rn1 ?_
   refine zG (zD1 Z Z Z Z Z Z (by omega)) ?_
   refine rn5 ?_
   refine zK ⟨k + 1, ⟨by omega, ?_⟩, by omega, ⟨?_, Z, trivial⟩, Z⟩
   ·rw [zBM s 0 k hk1, List.all_append, hd]; simp only [List.all_cons, List.all_nil, h3, Bool.and_true]
   ·show some (AV.str ((List.drop 1 (s.drop k)).take ((s.drop k).length - 1))) = _
    rw [List.drop_drop, List.take_of_length_le (by simp; omega)]
 ·have hk0 : s.length ≤ k := by omega
  refine rn5 ?_
  refine zL hR Z ?_
  rw [hof (.inl hk0)]; rfl
theorem trim_ok (s : List UInt8) (hs : s.length ≤ 9223372036854775807) : zU Tryz.prog 160 [.str s, .str digS] (.str (trL (trR s))) := by
 have h1 := set_ok
 have h2 := right_ok s hs
 have hle : (trR s).length ≤ s.length := by
  unfold trR
  rw [List.length_reverse]
  have := (List.dropWhile_sublist (p := dg) (l := s.reverse)).length_le
  simpa using this
 have h3 := left_ok (trR s) (by omega)
 refine zP.value0 (zE (P := Tryz.prog) (fn := Tryz.f160) Z Z (by kernel_rfl) Z (fun c hR hfix => ?_)) (fix := fun _ => False) (fun _ h => h) Z Z
 have hl := zCh 10
 refine rn6 ?_
 by_cases h0 : s = []
 ·subst h0
  refine rn6 ?_
  exact zL hR Z Z
 rw [show decide (s = _) = false from decide_eq_false h0]
 refine rn6 ?_
 refine zB Z Z Z h1 ?_
 refine rn4 ?_
 refine zz (c' := .box (zEV 10)) Z Z Z Z (zCh 10) Nat.zero_lt_one Z (zCh 10) (fun i' j' hi' hj' => ?_) ?_
 ·rw [if_pos (Nat.lt_one_iff.1 hi')]; rfl
 refine rn5 ?_
 have hrl : ∀ (h : Nat) (o : AObj), ([some ⟨286, .box (zEV 10)⟩] : zN)[h]? = some (some o) → zAb o.c := zKf (fun i j hi hj => by
  show noRef ((zEV 10).getD j .any) = true
  rw [List.getD, zJ2 10 j (by have : j < (zEV 10).length := hj; rwa [zCh] at this)]; rfl)
 refine zO [some ⟨286, .box (zEV 10)⟩] Z ?_
 refine zIH rfl rfl rfl rfl h2 hrl ⟨trivial, fun o ho => by simp at ho; subst ho; exact Nat.zero_lt_one, trivial⟩ rfl rfl rfl ?_
 skip
 refine zIH rfl rfl rfl rfl h3 hrl ⟨trivial, fun o ho => by simp at ho; subst ho; exact Nat.zero_lt_one, trivial⟩ rfl rfl rfl ?_
 refine rn2 ?_
 exact zL hR Z Z
end Go.Proofs.YtkncmbklkhjmgaaGreatDoor
namespace Go.Proofs.YtkncmbklkhjmgaaGreatDoor
open Go.Ax Go.Ax.Bg Go.RowKit
open Go.Ax.Tb (zBl zEH zB3 zCj)
attribute [local irreducible] Ax zBI QOp zP
theorem zPz {i : Nat} (h : i ≤ 9) : 10 ^ i ≤ 1000000000 := by
 have := Nat.pow_le_pow_right (show 0 < 10 by decide) h
 exact Nat.le_trans this (by decide)
theorem zJ0 (S : List UInt8) (hd : ∀ c ∈ S, zBl c) (hl : S.length ≤ 1000000) : zU Tryz.prog 80 [.str S] (zh (zA5 0 S)) := by
 refine zP.value0 (zE (P := Tryz.prog) (fn := Tryz.f80) Z Z (by kernel_rfl) Z (fun c hR hfix => ?_)) (fix := fun _ => False) (fun _ h => h) Z Z
 refine rn0 ?_
 refine zAE 3 (zh 0) Z AEq.natNil ?_
 refine zAF ?_
 refine ze (ι := Nat × List UInt8) (fun p => [(0, .str p.2), (3, zh p.1)]) (fun _ => []) (fun p => p.2.length ≤ S.length ∧ (∀ c ∈ p.2, zBl c) ∧ zA5 p.1 p.2 = zA5 0 S ∧ p.1 < 10 ^ (S.length - p.2.length)) (fun p => p.2.length) (0, S) ⟨⟨Z, Z, trivial⟩, Z, Nat.le_refl _, hd, Z, by simp⟩ ?_
 rintro ⟨v, s⟩ ⟨h1, h2, h3, h4⟩
 simp only at *
 refine rn6 ?_
 refine zA Z (fun h5 => ?_) (fun h5 => ?_)
 ·have hs0 : s ≠ [] := by rintro rfl; simp at h5
  obtain ⟨k, hk, hk1, hk9, hks⟩ : ∃ k : Nat, (if (9 : Int) < (s.length : Nat) then (9 : Int) else (s.length : Nat)) = (k : Int) ∧ 1 ≤ k ∧ k ≤ 9 ∧ k ≤ s.length := by
   have : 0 < s.length := List.length_pos_iff.2 hs0
   by_cases hz : (9 : Int) < (s.length : Nat)
   ·exact ⟨9, by rw [if_pos hz]; rfl, by omega, by omega, by omega⟩
   ·exact ⟨s.length, by rw [if_neg hz], by omega, by omega, Nat.le_refl _⟩
  have ht0 : s.take k ≠ [] := by
   intro e
   have := congrArg List.length e
   rw [List.length_take, Nat.min_eq_left hks] at this
   simp at this; omega
  have htl : (s.take k).length = k := by rw [List.length_take, Nat.min_eq_left hks]
  obtain ⟨hp, hplt⟩ := zDn ht0 (fun c hc => h2 c (List.mem_of_mem_take hc)) (by omega)
  have hp32 := parse32 (s.take k) _ (by omega) hp
  have hdv : zA5 (v * 10 ^ k + zA5 0 (s.take k)) (s.drop k) = zA5 0 S := by
   rw [← h3]
   conv => rhs; rw [← List.take_append_drop k s]
   rw [zGl, zGk (s.take k) v, htl]
  have hxlt := zJs (l := s.take k) (fun c hc => h2 c (List.mem_of_mem_take hc))
  rw [htl] at hxlt
  have hvn : v * 10 ^ k + zA5 0 (s.take k) < 10 ^ (S.length - (s.drop k).length) := by
   rw [List.length_drop, show S.length - (s.length - k) = (S.length - s.length) + k by omega, Nat.pow_add]
   have : (v + 1) * 10 ^ k ≤ 10 ^ (S.length - s.length) * 10 ^ k := Nat.mul_le_mul_right _ h4
   rw [Nat.add_mul] at this
   omega
  obtain ⟨x, hx⟩ : ∃ x, zA5 0 (s.take k) = x := ⟨_, rfl⟩
  rw [hx] at hplt hp32 hdv hvn
  have hvl : (zS v).length ≤ S.length - s.length := zAc (Nat.lt_of_lt_of_le h4 (Nat.pow_le_pow_left (by decide) _))
  have hma := zQv (zS v) (10 ^ k) x (zAQ v) (by omega) (by have := zPz hk9; omega) (by omega)
  rw [z6] at hma
  refine rn12 ?_
  rw [hk]
  refine zD 17 (.str (s.take k)) Z (AEq.of_eq (by
   show AV.str ((List.drop 0 s).take (k - 0)) = _
   rw [List.drop_zero, Nat.sub_zero])) ?_
  refine zB Z Z Z hp32 ?_
  refine rn2 ?_
  refine ze (ι := Nat) (fun i => [(0, .str s), (3, zh v), (4, iN k), (5, .int .u64 (x : Nat)), (7, .int .u32 (10 ^ i : Nat)), (21, iN k), (22, iN i)]) (fun _ => []) (fun i => i ≤ k) (fun i => k - i) 0 ⟨⟨Z, Z, Z, Z, Z, Z, Z, trivial⟩, Z, Nat.zero_le _⟩ ?_
  rintro i hi
  refine rn4 ?_
  refine zA Z (fun h6 => ?_) (fun h6 => ?_)
  ·have hpw := zPz (show i + 1 ≤ 9 by omega)
   rw [Nat.pow_succ] at hpw
   refine rn1 ?_
   refine zG (zJJ (m := 10 ^ i) (n := 10) Z Z zFA (by omega)) ?_
   refine rn5 ?_
   exact zK ⟨i + 1, by omega, by omega, ⟨Z, Z, Z, Z, Z, Z, Z, trivial⟩, Z⟩
  ·have hie : i = k := by omega
   subst hie
   refine rn5 ?_
   refine zG (zAS (m := x) Z Z Z zFA (by omega)) ?_
   refine zB Z Z Z hma ?_
   refine rn12 ?_
   refine zK ⟨(v * 10 ^ i + x, s.drop i), ⟨by simp only [List.length_drop]; omega, fun c hc => h2 c (List.mem_of_mem_drop hc), hdv, hvn⟩, by simp only [List.length_drop]; omega, ⟨?_, Z, trivial⟩, Z⟩
   show some (AV.str ((List.drop i s).take (s.length - i))) = _
   rw [List.take_of_length_le (by simp)]
 ·have hs0 : s = [] := by
   rcases s with _ | ⟨x, r⟩
   ·rfl
   ·exact absurd (by simp) h5
  subst hs0
  refine rn5 ?_
  refine zL hR Z ?_
  rw [← h3]; rfl
theorem zRW : zU Tryz.prog 210 [zh 0] (.str (Lib.decDigits 0)) := by
 refine zP.value0 (zE (P := Tryz.prog) (fn := Tryz.f210) Z Z (by kernel_rfl) Z (fun c hR hfix => ?_)) (fix := fun _ => False) (fun _ h => h) Z Z
 have en : zh 0 = .ro (.ints .u32 []) 0 0 := by unfold zh; rw [zBm]; rfl
 rw [en]
 refine rn5 ?_
 refine zL hR Z ?_
 rw [Lib.decDigits_one (by decide)]; rfl
theorem zDh {n L : Nat} (h : (zS n).length ≤ L) (hL : 1 ≤ L) : (Lib.decDigits n).length ≤ 10 * L := by
 have h1 := zAt (zAQ n)
 rw [z6] at h1
 have h2 : B ^ (zS n).length ≤ B ^ L := Nat.pow_le_pow_right (by decide) h
 have h3 : B ^ L ≤ (10 ^ 10) ^ L := Nat.pow_le_pow_left (by decide) L
 rw [← Nat.pow_mul] at h3
 exact zDC (by omega) (by omega)
theorem zJ5 (n : Nat) (h : (zS n).length ≤ 1000000) : zU Tryz.prog 210 [zh n] (.str (Lib.decDigits n)) := by
 rcases Nat.eq_zero_or_pos n with h0 | h0
 ·subst h0; exact zRW
 have hdl := zDh h (by decide)
 have hn0 : 0 < (zS n).length := zCU.2 (by omega)
 refine zP.value0 (zE (P := Tryz.prog) (fn := Tryz.f210) Z Z (by kernel_rfl) Z (fun c hR hfix => ?_)) (fix := fun _ => False) (fun _ h => h) Z Z
 unfold zh
 refine rn4 ?_
 refine zA Z (fun q => absurd q (by omega)) (fun q => ?_)
 refine rn8 ?_
 refine zAo 3 ⟨9, .strs []⟩ Z Z ?_
 refine zAF ?_
 refine ze (ι := Nat × List (List UInt8)) (fun p => [(0, zh p.1), (3, .sl 0 0 p.2.length)]) (fun p => [some ⟨9, .strs p.2⟩]) (fun p => (zS p.1).length ≤ 1000000 ∧ p.2.length ≤ p.2.reverse.flatten.length ∧ (if p.1 = 0 then Lib.decDigits n = p.2.reverse.flatten else Lib.decDigits n = Lib.decDigits p.1 ++ p.2.reverse.flatten)) (fun p => p.1) (n, [])
  ⟨⟨rfl, rfl, trivial⟩, rfl, h, by simp, by rw [if_neg (by simp only; omega)]; simp⟩ ?_
 rintro ⟨m, ps⟩ ⟨h1, h2, h3⟩
 simp only at *
 have hpos : 0 < (zS m).length ↔ m ≠ 0 := zCU
 have hds := zJa (zS m) 1000000000 (zAQ m) (by omega) (by decide)
 rw [z6] at hds
 have hflen : ps.reverse.flatten.length ≤ 10000000 := by
  have e : ps.reverse.flatten.length ≤ (Lib.decDigits n).length := by
   split at h3
   ·rw [h3]; exact Nat.le_refl _
   ·rw [h3, List.length_append]; omega
  omega
 have en : zh m = .ro (.ints .u32 (zS m)) 0 (zS m).length := rfl
 rw [en]
 refine rn6 ?_
 refine zA Z (fun h4 => ?_) (fun h4 => ?_)
 ·have hm0 : m ≠ 0 := hpos.1 (by omega)
  rw [if_neg hm0] at h3
  have hr : m % 1000000000 < 1000000000 := Nat.mod_lt _ (by decide)
  have hlt : m / 1000000000 < m := Nat.div_lt_self (by omega) (by decide)
  have hit := itoaN (m % 1000000000) (by omega)
  have hpos2 : 0 < (zS (m / 1000000000)).length ↔ m / 1000000000 ≠ 0 := zCU
  have hlen2 := zFd hlt h1
  have hrl : (Lib.decDigits (m % 1000000000)).length ≤ 9 := zDC (by decide) (by have e9 : (10 : Nat) ^ 9 = 1000000000 := by decide
                                                                                rw [e9]; exact hr)
  have hrp := repeat0 (9 - (Lib.decDigits (m % 1000000000)).length) (by omega)
  obtain ⟨t, ht0, htl, htp, htn⟩ : ∃ t : List UInt8, t ≠ [] ∧ t.length ≤ 9 ∧ (m / 1000000000 ≠ 0 → t = List.replicate (9 - (Lib.decDigits (m % 1000000000)).length) 48 ++ Lib.decDigits (m % 1000000000)) ∧ (m / 1000000000 = 0 → t = Lib.decDigits (m % 1000000000)) := by
   by_cases z : m / 1000000000 = 0
   ·exact ⟨_, zCj _, hrl, fun h => absurd z h, fun _ => rfl⟩
   ·refine ⟨_, ?_, ?_, fun _ => rfl, fun h => absurd h z⟩
    ·simp [zCj]
    ·simp; omega
  have hsplit : m / 1000000000 ≠ 0 → Lib.decDigits m = Lib.decDigits (m / 1000000000) ++ t := fun z => by
   have e9 : (10 : Nat) ^ 9 = 1000000000 := by decide
   have hs := zMK (n := m) (k := 9) (by decide) (by rw [e9]; omega)
   rw [e9] at hs
   rw [hs, htp z]; rfl
  have hone : m / 1000000000 = 0 → Lib.decDigits m = t := fun z => by
   rw [htn z]
   congr 1
   have := Nat.div_add_mod m 1000000000
   omega
  have hnew : (if m / 1000000000 = 0 then Lib.decDigits n = (ps ++ [t]).reverse.flatten else Lib.decDigits n = Lib.decDigits (m / 1000000000) ++ (ps ++ [t]).reverse.flatten) := by
   rw [List.reverse_append, List.reverse_singleton, List.singleton_append, List.flatten_cons]
   split
   ·rename_i z; rw [h3, hone z]
   ·rename_i z; rw [h3, hsplit z, List.append_assoc]
  obtain ⟨r, hrr⟩ : ∃ r, m % 1000000000 = r := ⟨_, rfl⟩
  obtain ⟨d, hdd⟩ : ∃ d, m / 1000000000 = d := ⟨_, rfl⟩
  simp only [hrr, hdd] at *
  refine rn1 ?_
  refine zB Z Z Z hds ?_
  refine rn2 ?_
  refine zG (zFz (m := r) Z Z Z (by omega)) ?_
  refine zB Z Z Z hit ?_
  have en2 : zh d = .ro (.ints .u32 (zS d)) 0 (zS d).length := rfl
  rw [en2]
  refine rn6 ?_
  apply zAJ (H := [some ⟨9, .strs ps⟩]) [(0, zh d), (3, .sl 0 0 ps.length), (5, .str t)]
  ·intro fin
   refine zA Z (fun q2 => ?_) (fun q2 => ?_)
   ·have hd0 : d ≠ 0 := hpos2.1 (by omega)
    refine rn8 ?_
    refine zD 25 (iN (9 - (Lib.decDigits r).length)) Z (AEq.of_eq (by congr 1; omega)) ?_
    refine zB Z Z Z hrp ?_
    repeat (refine zG (zJ rfl) ?_)
    refine zG (zE6 Z Z (by simp; omega)) ?_
    refine zBa ?_
    exact fin _ ⟨Z, Z, by rw [htp hd0]; rfl, trivial⟩
   ·have hd0 : d = 0 := by
     rcases Nat.eq_zero_or_pos d with z | z
     ·exact z
     ·exact absurd (by have := hpos2.2 (by omega); omega) q2
    refine zBa ?_
    exact fin _ ⟨Z, Z, by rw [htn hd0]; rfl, trivial⟩
  refine rn3 ?_
  refine zr Z Z Z Z Z Z Z Z Z Z Z Z (Nat.le_refl 1) Z (by show (ps.length + 1) * 16 ≤ _ ∧ _; omega) (fun i j _ _ => rfl) (by rw [hfix]; exact fun h => h) ?_
  refine rn5 ?_
  refine zK ⟨(d, ps ++ [t]), ⟨hlen2, ?_, hnew⟩, hlt, ⟨Z, ?_, trivial⟩, Z⟩
  ·simp only [List.reverse_append, List.reverse_singleton, List.singleton_append, List.flatten_cons, List.length_append, List.length_singleton]
   have := List.length_pos_iff.2 ht0
   omega
  ·show some (AV.sl 0 0 (ps.length + 1)) = _
   simp
 ·have hm0 : m = 0 := by
   rcases Nat.eq_zero_or_pos m with q | q
   ·exact q
   ·exact absurd (by have := hpos.2 (by omega); omega) h4
  rw [if_pos hm0] at h3
  have hrv := zPA ps (by omega)
  have hjl : (Lib.join ps.reverse []).length ≤ 140737488355328 := by rw [zLc]; omega
  have hjn := join ps.reverse [] (by rw [List.length_reverse]; omega) hjl
  rw [zLc, ← h3, List.length_reverse] at hjn
  refine rn5 ?_
  refine zCb (fix := fun h => h < 1) Z Z Z hrv (fun h hh => hh) (fun h hh => hh) ?_
  rintro r H rfl
  refine rn0 ?_
  refine zDN 0 35 ps.length [] Z zMi Z (by show _ ≤ ps.reverse.length; simp) trivial ?_
  refine zB Z Z Z hjn ?_
  refine rn0 ?_
  exact zL hR Z Z
end Go.Proofs.YtkncmbklkhjmgaaGreatDoor
namespace Go.Ax.Idx
def fct : Nat → Int
 | 0 => 1
 | n + 1 => (n + 1) * fct n
/-- The place of the first element with a property, or -1. -/
def idxF {α : Type} (p : α → Bool) : List α → Int
 | [] => -1
 | x :: r => if p x then 0 else if idxF p r < 0 then -1 else idxF p r + 1
theorem idxF_neg {α : Type} (p : α → Bool) (l : List α) (h : idxF p l < 0) : idxF p l = -1 := by
 cases l with
 | nil => rfl
 | cons x r =>
  simp only [idxF] at h ⊢
  by_cases h1 : p x = true
  ·simp [h1] at h
  ·by_cases h2 : idxF p r < 0
   ·simp [h1, h2]
   ·simp only [h1, h2, if_false, Bool.false_eq_true] at h
    omega
theorem idxF_take {α : Type} (p : α → Bool) (l : List α) (k : Nat) (h : (l.take k).any p = false) (hk : k ≤ l.length) : idxF p l = if idxF p (l.drop k) < 0 then -1 else idxF p (l.drop k) + k := by
 induction k generalizing l with
 | zero =>
  simp only [List.drop_zero]
  split
  ·exact idxF_neg p l (by assumption)
  ·omega
 | succ k ih => cases l with
  | nil => simp at hk
  | cons x r =>
   simp only [List.take_succ_cons, List.any_cons, Bool.or_eq_false_iff] at h
   have := ih r h.2 (by simpa using hk)
   simp only [idxF, h.1, List.drop_succ_cons, Bool.false_eq_true, if_false]
   rw [this]
   split <;> split <;> omega
theorem zIb {α : Type} (p : α → Bool) (l : List α) : decide (0 ≤ idxF p l) = l.any p := by
 induction l with
 | nil => rfl
 | cons x r ih =>
  simp only [idxF, List.any_cons]
  by_cases h1 : p x = true
  ·simp [h1]
  ·simp only [Bool.not_eq_true] at h1
   simp only [h1, Bool.false_eq_true, if_false, Bool.false_or]
   rw [← ih]
   by_cases h2 : idxF p r < 0
   ·rw [if_pos h2]; simp; omega
   ·rw [if_neg h2]; congr 1; simp; omega
/-- How often each kind occurs. -/
def cnt (m : List Int) : List Int := (List.range 7).map fun (i : Nat) => ((m.count (i : Int) : Nat) : Int)
theorem getD_set {l : List Int} {i j : Nat} {v : Int} (hi : i < l.length) : (l.set i v).getD j 0 = if j = i then v else l.getD j 0 := by
 by_cases h : j = i
 ·subst h; simp [List.getD, hi]
 ·simp only [List.getD, h, if_false]
  rw [List.getElem?_set_ne (fun e => h e.symm)]
/-- One less of kind i. -/
def less (l : List Int) (i : Nat) : List Int := l.set i (l.getD i 0 - 1)
theorem zCA {l : List Int} {i : Nat} (hi : i < l.length) : (less l i).set i ((less l i).getD i 0 + 1) = l := by
 unfold less
 rw [getD_set hi, if_pos rfl, List.set_set]
 have : l.getD i 0 - 1 + 1 = l[i] := by rw [zDj 0 hi]; omega
 rw [this, List.set_getElem_self]
end Go.Ax.Idx
namespace Go.Ax.Cd
open Go.Ax.Idx
def eqp (v y : Int) : Bool := decide (v = y)
end Go.Ax.Cd
namespace Go.Ax.Cd
open Go.Ax.Idx
end Go.Ax.Cd
namespace Go.Ax.Cd
open Go.Ax.Idx
end Go.Ax.Cd
namespace Go.Proofs.YtkncmbklkhjmgaaGreatDoor
open Go.Ax Go.Ax.Idx Go.Ax.Cd
attribute [local irreducible] Ax zBI QOp zP
theorem indexI (l : List Int) (v : Int) (hlen : l.length ≤ 9223372036854775807) :
 zU Tryz.prog 242 [.ro (.ints .i64 l) 0 l.length, .int .i64 v] (.int .i64 (idxF (eqp v) l)) := by
 refine zP.value0 (zE (P := Tryz.prog) (fn := Tryz.f242) Z Z (by kernel_rfl) Z (fun c hR hfix => ?_)) (fix := fun _ => False) (fun _ h => h) Z Z
 refine rn3 ?_
 refine ze (ι := Nat) (fun k => [(0, .ro (.ints .i64 l) 0 l.length), (1, .int .i64 v), (7, iN l.length), (8, iN k)]) (fun _ => [])
  (fun k => k ≤ l.length ∧ (l.take k).any (eqp v) = false) (fun k => l.length - k) 0 ⟨⟨rfl, rfl, rfl, rfl, trivial⟩, rfl, Nat.zero_le _, rfl⟩ ?_
 intro k ⟨hk, hany⟩
 refine rn4 ?_
 refine zA Z (fun h => ?_) (fun h => ?_)
 ·have hk' : k < l.length := by omega
  have hanys := zC7 (eqp v) l 0 k hk'
  refine rn6 ?_
  refine zA Z (fun h2 => ?_) (fun h2 => ?_)
  ·refine rn6 ?_
   refine zL hR Z ?_
   have := idxF_take (eqp v) l k hany hk
   rw [zCk l 0 k hk'] at this
   have h3 : eqp v (l.getD k 0) = true := by simpa [eqp] using h2
   simp only [idxF, h3, if_true] at this
   rw [this]; simp [zBs]
  ·refine rn5 ?_
   have h3 : eqp v (l.getD k 0) = false := by simpa [eqp] using h2
   refine zK ⟨k + 1, ⟨by omega, by rw [hanys, hany, h3]; rfl⟩, by omega, ⟨Z, Z, Z, Z, trivial⟩, Z⟩
 ·have hk' : k = l.length := by omega
  subst hk'
  refine rn5 ?_
  refine zL hR Z ?_
  have := idxF_take (eqp v) l l.length hany hk
  rw [List.drop_length] at this
  rw [this]; rfl
theorem equalI (a b : List Int) (hlen : a.length ≤ 9223372036854775807) (hlb : b.length ≤ 9223372036854775807) : zU Tryz.prog 56 [.ro (.ints .i64 a) 0 a.length, .ro (.ints .i64 b) 0 b.length] (.bool (decide (a = b))) := by
 refine zP.value0 (zE (P := Tryz.prog) (fn := Tryz.f56) Z Z (by kernel_rfl) Z (fun c hR hfix => ?_)) (fix := fun _ => False) (fun _ h => h) Z Z
 refine rn3 ?_
 refine zA Z (fun h => ?_) (fun h => ?_)
 ·refine rn2 ?_
  refine zL hR Z ?_
  have : ¬ a = b := by rintro rfl; exact h rfl
  simp [zBs, this]
 have hab : a.length = b.length := by omega
 refine rn3 ?_
 refine ze (ι := Nat) (fun k => [(0, .ro (.ints .i64 a) 0 a.length), (1, .ro (.ints .i64 b) 0 b.length), (12, iN a.length), (13, iN k)]) (fun _ => [])
  (fun k => k ≤ a.length ∧ a.take k = b.take k) (fun k => a.length - k) 0 ⟨⟨rfl, rfl, rfl, rfl, trivial⟩, rfl, Nat.zero_le _, rfl⟩ ?_
 intro k ⟨hk, heq⟩
 refine rn4 ?_
 refine zA Z (fun h2 => ?_) (fun h2 => ?_)
 ·have hk' : k < a.length := by omega
  have ha := zBM a 0 k hk'
  have hb := zBM b 0 k (by omega)
  refine rn1 ?_
  refine zDv (by kernel_rfl) (by kernel_rfl) Z ?_
  refine rn6 ?_
  refine zA Z (fun h3 => ?_) (fun h3 => ?_)
  ·refine rn6 ?_
   refine zL hR Z ?_
   have : ¬ a = b := by rintro rfl; exact h3 rfl
   simp [zBs, this]
  ·refine rn5 ?_
   have h4 : a.getD k 0 = b.getD k 0 := by omega
   exact zK ⟨k + 1, ⟨by omega, by rw [ha, hb, heq, h4]⟩, by omega, ⟨Z, Z, Z, Z, trivial⟩, Z⟩
 ·have hk' : k = a.length := by omega
  subst hk'
  rw [List.take_length, hab, List.take_length] at heq
  refine rn5 ?_
  refine zL hR Z ?_
  simp [zBs, heq]
theorem zOo (l : List Int) (g : FuncId) (caps : List AV) (p : Int → Bool) (hc : noRef.noRefs caps = true) (hlen : l.length ≤ 9223372036854775807) (hp : ∀ x ∈ l, zU Tryz.prog g ([.int .i64 x] ++ caps) (.bool (p x))) :
 zU Tryz.prog 156 [.ro (.ints .i64 l) 0 l.length, .fn g caps] (.int .i64 (idxF p l)) := by
 refine zP.value0 (zE (P := Tryz.prog) (fn := Tryz.f156) Z Z (by kernel_rfl) Z (fun c hR hfix => ?_)) (fix := fun _ => False) (fun _ h => h) (by simp [noRef.noRefs, noRef, hc]) Z
 refine rn3 ?_
 refine ze (ι := Nat) (fun k => [(0, .ro (.ints .i64 l) 0 l.length), (1, .fn g caps), (7, iN l.length), (8, iN k)]) (fun _ => [])
  (fun k => k ≤ l.length ∧ (l.take k).any p = false) (fun k => l.length - k) 0 ⟨⟨rfl, rfl, rfl, rfl, trivial⟩, rfl, Nat.zero_le _, rfl⟩ ?_
 intro k ⟨hk, hany⟩
 refine rn4 ?_
 refine zA Z (fun h => ?_) (fun h => ?_)
 ·have hk' : k < l.length := by omega
  have hanys := zC7 p l 0 k hk'
  refine rn6 ?_
  refine zB Z Z Z (hp _ (zAN 0 hk')) ?_
  refine rn0 ?_
  refine zEd Z (fun h2 => ?_) (fun h2 => ?_)
  ·refine rn6 ?_
   refine zL hR Z ?_
   have := idxF_take p l k hany hk
   rw [zCk l 0 k hk'] at this
   simp only [idxF, h2, if_true] at this
   rw [this]; simp [zBs]
  ·refine rn5 ?_
   refine zK ⟨k + 1, ⟨by omega, by rw [hanys, hany, h2]; rfl⟩, by omega, ⟨Z, Z, Z, Z, trivial⟩, Z⟩
 ·have hk' : k = l.length := by omega
  subst hk'
  refine rn5 ?_
  refine zL hR Z ?_
  have := idxF_take p l l.length hany hk
  rw [List.drop_length] at this
  rw [this]; rfl
theorem zQR (l : List Int) (g : FuncId) (caps : List AV) (p : Int → Bool) (hc : noRef.noRefs caps = true) (hlen : l.length ≤ 9223372036854775807) (hp : ∀ x ∈ l, zU Tryz.prog g ([.int .i64 x] ++ caps) (.bool (p x))) :
 zU Tryz.prog 74 [.ro (.ints .i64 l) 0 l.length, .fn g caps] (.bool (l.any p)) := by
 refine zP.value0 (zE (P := Tryz.prog) (fn := Tryz.f74) Z Z (by kernel_rfl) Z (fun c hR hfix => ?_)) (fix := fun _ => False) (fun _ h => h) (by simp [noRef.noRefs, noRef, hc]) Z
 refine rn0 ?_
 refine zB Z Z Z (zOo l g caps p hc hlen hp) ?_
 refine rn8 ?_
 refine zL hR Z ?_
 simp only [zBs, zIb]
def notOk (e : Int) : Bool := decide (e ≠ 0)
theorem fine1 (n : Int) : zU Tryz.prog 75 [.int .i64 n] (.bool (notOk n)) := by
 refine zP.value0 (zE (P := Tryz.prog) (fn := Tryz.f75) Z Z (by kernel_rfl) Z (fun c hR hfix => ?_)) (fix := fun _ => False) (fun _ h => h) Z Z
 refine rn3 ?_
 refine zL hR Z ?_
 simp [zBs, notOk]
theorem fineI (l : List Int) (hlen : l.length ≤ 1000) : zU Tryz.prog 25 [.ro (.ints .i64 l) 0 l.length] (.bool (!(l.any notOk))) := by
 refine zP.value0 (zE (P := Tryz.prog) (fn := Tryz.f25) Z Z (by kernel_rfl) Z (fun c hR hfix => ?_)) (fix := fun _ => False) (fun _ h => h) Z Z
 refine rn0 ?_
 refine zB Z Z Z (zQR l 75 [] notOk Z (by omega) (fun x _ => fine1 x)) ?_
 refine rn5 ?_
 exact zL hR Z Z
end Go.Proofs.YtkncmbklkhjmgaaGreatDoor
namespace Go.Ax.Bg
open Go.Ax.Tb (zBl)
def zFX (s : List UInt8) : Bool := decide (s ≠ []) && s.all dg && (decide (s.getD 0 0 ≠ 48) || decide (s.length = 1))
theorem zDw {s : List UInt8} : zFX s = true ↔ zHd s := by
 unfold zFX zHd
 simp only [Bool.and_eq_true, Bool.or_eq_true, decide_eq_true_eq, List.all_eq_true, dg_iff]
 constructor
 ·rintro ⟨⟨h1, h2⟩, h3⟩; exact ⟨h1, h2, h3⟩
 ·rintro ⟨h1, h2, h3⟩; exact ⟨⟨h1, h2⟩, h3⟩
theorem zJ6 {s : List UInt8} (h : zHd s) {k : Nat} (hl : s.length ≤ k) : (zS (zA5 0 s)).length ≤ k := by
 refine zAc (Nat.lt_of_lt_of_le (zJs h.2.1) ?_)
 exact Nat.le_trans (Nat.pow_le_pow_right (by decide) hl) (Nat.pow_le_pow_left (by decide) k)
/-- Texts that are not too long spell numbers below this one. -/
def powT : Nat → Nat
 | 0 => 1
 | k + 1 => 10 * powT k
theorem zPy : ∀ k, powT k = 10 ^ k
 | 0 => rfl
 | k + 1 => by rw [powT, zPy k, Nat.pow_succ, Nat.mul_comm]
def TB : Nat := powT 2000
theorem TB_eq : TB = 10 ^ 2000 := zPy 2000
theorem TB_len {n : Nat} (h : n < TB) : (Lib.decDigits n).length ≤ 2000 := by
 rw [TB_eq] at h
 revert h
 generalize hk : 2000 = k
 intro h
 exact zDC (by omega) h
theorem lt_big {n k : Nat} (h : n < 10 ^ k) (hk : k ≤ 2000) : n < TB := by
 rw [TB_eq]
 revert hk
 generalize 2000 = j
 intro hk
 exact Nat.lt_of_lt_of_le h (Nat.pow_le_pow_right (by decide) hk)
theorem zGL {m n j k : Nat} (hm : m < 10 ^ j) (hn : n < 10 ^ k) : m * n < 10 ^ (j + k) := by
 rw [Nat.pow_add]; exact Nat.mul_lt_mul'' hm hn
theorem add_big {m n k : Nat} (hm : m < 10 ^ k) (hn : n < 10 ^ k) : m + n < 10 ^ (k + 1) := by
 rw [Nat.pow_succ]; omega
/-- Choices. -/
def ch : Nat → Nat → Nat
 | _, 0 => 1
 | 0, _ + 1 => 0
 | n + 1, k + 1 => ch n k + ch n (k + 1)
end Go.Ax.Bg
namespace Go.Proofs.YtkncmbklkhjmgaaGreatDoor
open Go.Ax Go.Ax.Bg Go.RowKit
open Go.Ax.Tb (zBl zEH zB3 zCj)
attribute [local irreducible] Ax zBI QOp zP
theorem zLR (s : List UInt8) (hs : s.length ≤ 9223372036854775807) : zU Tryz.prog 79 [.str s] (.bool (zFX s)) := by
 have ht := trim_ok s hs
 have hn := trR_nil (s := s)
 have hc : zFX s = (decide (s ≠ []) && s.all dg && (decide (s.getD 0 0 ≠ 48) || decide (s.length = 1))) := rfl
 refine zP.value0 (zE (P := Tryz.prog) (fn := Tryz.f79) Z Z (by kernel_rfl) Z (fun c hR hfix => ?_)) (fix := fun _ => False) (fun _ h => h) Z Z
 generalize trL (trR s) = u at *
 generalize zFX s = b at *
 by_cases h0 : s = []
 ·subst h0
  refine rn16 ?_
  refine zL hR Z ?_
  rw [hc]; rfl
 have hlen : 0 < s.length := List.length_pos_iff.2 h0
 refine rn8 ?_
 refine zAh Z Z (fun h1 => ?_) (fun h1 => absurd h0 h1)
 refine rn2 ?_
 refine zB Z Z Z ht ?_
 refine rn6 ?_
 refine zAh Z Z (fun h2 => ?_) (fun h2 => ?_)
 ·have ha : s.all dg = true := hn.1 h2
  rw [decide_eq_true h0, ha, Bool.true_and, Bool.true_and] at hc
  refine rn19 ?_
  refine zAh Z Z (fun h3 => ?_) (fun h3 => ?_)
  ·have h4 : decide (s.getD 0 0 ≠ 48) = true := decide_eq_true (fun e => h3 (by simp only [Int.toNat_zero]; rw [e]; rfl))
   rw [h4, Bool.true_or] at hc
   refine rn6 ?_
   refine zL hR Z ?_
   rw [hc]; rfl
  ·have h5 : s.getD 0 0 = 48 := by
    simp only [Int.toNat_zero] at h3
    apply UInt8.toNat_inj.1
    have : ((s.getD 0 0).toNat : Int) = 48 := by omega
    show (s.getD 0 0).toNat = 48
    omega
   have h4 : decide (s.getD 0 0 ≠ 48) = false := decide_eq_false (fun e => e h5)
   rw [h4, Bool.false_or] at hc
   refine rn6 ?_
   refine zL hR Z ?_
   rw [hc]
   show AV.bool (decide ((s.length : Int) = 1)) = _
   congr 1
   rw [decide_eq_decide]; omega
 ·have ha : s.all dg = false := by
   cases hq : s.all dg with
   | false => rfl
   | true => exact absurd (hn.2 hq) h2
  rw [ha, Bool.and_false, Bool.false_and] at hc
  refine rn14 ?_
  refine zL hR Z ?_
  rw [hc]; rfl
def zGx (p : List UInt8 × Int) : AV := .tup [.str p.1, .int .i64 p.2]
theorem zId {a b k : Nat} (ha : (zS a).length ≤ k) (hb : (zS b).length ≤ k) : (zS (a * b)).length ≤ k + k := by
 have h1 := zAt (zAQ a)
 have h2 := zAt (zAQ b)
 rw [z6] at h1 h2
 refine zAc ?_
 rw [Nat.pow_add]
 refine Nat.mul_lt_mul'' (Nat.lt_of_lt_of_le h1 (Nat.pow_le_pow_right (by decide) ha)) (Nat.lt_of_lt_of_le h2 (Nat.pow_le_pow_right (by decide) hb))
theorem len_add {a b k : Nat} (ha : (zS a).length ≤ k) (hb : (zS b).length ≤ k) : (zS (a + b)).length ≤ k + 1 := by
 have h1 := zAt (zAQ a)
 have h2 := zAt (zAQ b)
 rw [z6] at h1 h2
 refine zAc ?_
 have h3 : B ^ (zS a).length ≤ B ^ k := Nat.pow_le_pow_right (by decide) ha
 have h4 : B ^ (zS b).length ≤ B ^ k := Nat.pow_le_pow_right (by decide) hb
 rw [Nat.pow_succ]
 have : B ^ k * 2 ≤ B ^ k * B := Nat.mul_le_mul_left _ (by decide)
 omega
end Go.Proofs.YtkncmbklkhjmgaaGreatDoor
namespace Go.Ax.Rt
open Go.Ax.Bg
/-- The quotient of integers, its parts. -/
theorem zKJ (n : Int) (d : Nat) (hd : d ≠ 0) : (Rat.divInt n d).num.natAbs = n.natAbs / Nat.gcd n.natAbs d ∧ (Rat.divInt n d).den = d / Nat.gcd n.natAbs d ∧ ((Rat.divInt n d).num < 0 ↔ n < 0) := by
 have e : Rat.divInt n d = Rat.normalize n d hd := by rw [Rat.divInt_ofNat, ← Rat.normalize_eq_mkRat]
 have hg : 0 < Nat.gcd n.natAbs d := Nat.gcd_pos_of_pos_right _ (by omega)
 have hdv : (Nat.gcd n.natAbs d : Int) ∣ n := by
  rw [Int.ofNat_dvd_left]; exact Nat.gcd_dvd_left _ _
 rw [e, Rat.num_normalize, Rat.den_normalize]
 obtain ⟨q, hq⟩ := hdv
 generalize Nat.gcd n.natAbs d = g at *
 refine ⟨?_, Z, ?_⟩
 ·rw [hq, Int.mul_ediv_cancel_left _ (by omega), Int.natAbs_mul, Int.natAbs_natCast, Nat.mul_div_cancel_left _ hg]
 ·rw [hq, Int.mul_ediv_cancel_left _ (by omega)]
  constructor
  ·intro h; exact Int.mul_neg_of_pos_of_neg (by omega) h
  ·intro h
   rcases Int.lt_or_le q 0 with z | z
   ·exact z
   ·exact absurd h (Int.not_lt.2 (Int.mul_nonneg (by omega) z))
theorem zGG (n d : Int) (hd : d ≠ 0) : (Rat.divInt n d).num.natAbs = n.natAbs / Nat.gcd n.natAbs d.natAbs ∧ (Rat.divInt n d).den = d.natAbs / Nat.gcd n.natAbs d.natAbs ∧ ((Rat.divInt n d).num < 0 ↔ n ≠ 0 ∧ ((n < 0 ∧ ¬ d < 0) ∨ (¬ n < 0 ∧ d < 0))) := by
 rcases Int.lt_or_le d 0 with h | h
 ·obtain ⟨m, rfl⟩ : ∃ m : Nat, d = -(m : Int) := ⟨d.natAbs, by omega⟩
  have e : Rat.divInt n (-(m : Int)) = Rat.divInt (-n) m := Rat.divInt_neg' n m
  obtain ⟨h1, h2, h3⟩ := zKJ (-n) m (by omega)
  rw [e]
  rw [Int.natAbs_neg] at h1 h2
  rw [Int.natAbs_neg, Int.natAbs_natCast]
  exact ⟨h1, h2, h3.trans (by omega)⟩
 ·obtain ⟨m, rfl⟩ : ∃ m : Nat, d = (m : Int) := ⟨d.natAbs, by omega⟩
  obtain ⟨h1, h2, h3⟩ := zKJ n m (by omega)
  rw [Int.natAbs_natCast]
  exact ⟨h1, h2, h3.trans (by omega)⟩
theorem zJ8 (p q : Rat) : Rat.divInt (p.num * q.den + q.num * p.den) ((p.den * q.den : Nat) : Int) = p + q := by
 rw [Rat.add_def', Rat.divInt_ofNat]
theorem zKO (p q : Rat) : Rat.divInt (p.num * q.num) ((p.den * q.den : Nat) : Int) = p * q := by
 rw [Rat.mul_def', Rat.divInt_ofNat]
theorem zNB (p q : Rat) (hq : q ≠ 0) : Rat.divInt (p.num * q.den) (q.num * p.den) = p / q := by
 have hn : q.num ≠ 0 := fun h => hq (Rat.num_eq_zero.1 h)
 have hp : (p.den : Int) ≠ 0 := by have := p.den_nz; omega
 have hqd : (q.den : Int) ≠ 0 := by have := q.den_nz; omega
 have h1 : Rat.divInt (p.num * q.den) (q.num * p.den) * q = p := by
  conv => lhs; rhs; rw [← Rat.num_divInt_den q]
  rw [Rat.divInt_mul_divInt]
  conv => rhs; rw [← Rat.num_divInt_den p]
  rw [Rat.divInt_eq_divInt_iff (Int.mul_ne_zero (Int.mul_ne_zero hn hp) hqd) hp]
  ac_rfl
 rw [← h1, Rat.mul_div_cancel hq]
 rw [h1]
def sgn (x : Int) : Int := if x < 0 then -1 else if x = 0 then 0 else 1
def zCG (p q : Rat) : Int := if p < q then -1 else if p = q then 0 else 1
theorem sgn_cmp (p q : Rat) : sgn (p.num * q.den - q.num * p.den) = zCG p q := by
 unfold sgn zCG
 have h1 : p < q ↔ p.num * q.den - q.num * p.den < 0 := by rw [Rat.lt_iff]; omega
 have h2 : p = q ↔ p.num * q.den - q.num * p.den = 0 := by rw [Rat.eq_iff_mul_eq_mul]; omega
 simp only [h1, h2]
def zEm (b : Bool) (n : Nat) : Int := if b then -(n : Int) else n
theorem zE8 (b : Bool) (n : Nat) : (zEm b n).natAbs = n := by unfold zEm; split <;> omega
theorem zKk (b : Bool) (n : Nat) : decide (zEm b n < 0) = (b && decide (n ≠ 0)) := by
 unfold zEm
 cases b
 ·simp <;> try omega
 ·simp only [if_true, Bool.true_and]
  rw [decide_eq_decide]; omega
theorem zRK (x : Int) : zEm (decide (x < 0)) x.natAbs = x := by
 unfold zEm
 by_cases h : x < 0
 ·simp [h]; omega
 ·simp [h]; omega
end Go.Ax.Rt
namespace Go.Proofs.YtkncmbklkhjmgaaGreatDoor
open Go.Ax Go.Ax.Bg Go.Ax.Rt Go.RowKit
attribute [local irreducible] Ax zBI QOp zP zAl
def zA0 (x : Int) : AV := .agg [.bool (decide (x < 0)), zh x.natAbs]
theorem zFM (b : Bool) (n : Nat) : zU Tryz.prog 153 [.bool b, zh n] (zA0 (zEm b n)) := by
 have hp : 0 < (zS n).length ↔ n ≠ 0 := zCU
 have hr : zA0 (zEm b n) = .agg [.bool (b && decide (n ≠ 0)), zh n] := by unfold zA0; rw [zE8, zKk]
 rw [hr]
 refine zP.value0 (zE (P := Tryz.prog) (fn := Tryz.f153) Z Z (by kernel_rfl) Z (fun c hR hfix => ?_)) (fix := fun _ => False) (fun _ h => h) Z Z
 unfold zh at hR ⊢
 cases b
 ·refine rn14 ?_
  refine sa1 (c' := .box [.bool false, .ro (.ints .u32 (zS n)) 0 (zS n).length]) Z Z Z Z Z Z Z ?_
  refine rn0 ?_
  exact zL hR Z Z
 ·refine rn14 ?_
  have e : decide (0 < ((zS n).length : Int)) = decide (n ≠ 0) := by rw [decide_eq_decide, ← hp]; omega
  refine zz (c' := .box [.bool (decide (n ≠ 0)), .ro (.ints .u32 (zS n)) 0 (zS n).length]) Z Z Z Z Z Nat.zero_lt_one Z Z (fun i' j' hi' hj' => ?_) ?_
  ·rw [if_pos (Nat.lt_one_iff.1 hi'), ← e]; rfl
  refine rn0 ?_
  exact zL hR Z Z
theorem mul_sgn (x y : Int) : zEm (!(decide (x < 0) == decide (y < 0))) (x.natAbs * y.natAbs) = x * y := by
 have h : (x * y).natAbs = x.natAbs * y.natAbs := Int.natAbs_mul x y
 unfold zEm
 rcases Int.lt_trichotomy x 0 with hx | hx | hx <;> rcases Int.lt_trichotomy y 0 with hy | hy | hy
 ·have := Int.mul_pos_of_neg_of_neg hx hy
  simp only [hx, hy]; simp; omega
 ·subst hy; simp
 ·have := Int.mul_neg_of_neg_of_pos hx hy
  simp only [hx, show ¬ y < 0 by omega]; simp; omega
 ·subst hx; simp
 ·subst hx; simp
 ·subst hx; simp
 ·have := Int.mul_neg_of_pos_of_neg hx hy
  simp only [hy, show ¬ x < 0 by omega]; simp; omega
 ·subst hy; simp
 ·have := Int.mul_pos hx hy
  simp only [show ¬ x < 0 by omega, show ¬ y < 0 by omega]; simp; omega
theorem zCS (x y : Int) (hx : (zS x.natAbs).length ≤ 1000000) (hy : (zS y.natAbs).length ≤ 1000000) : zU Tryz.prog 154 [zA0 x, zA0 y] (zA0 (x * y)) := by
 have h1 := zMX x.natAbs y.natAbs (by omega) (by omega)
 have h2 := zFM (!(decide (x < 0) == decide (y < 0))) (x.natAbs * y.natAbs)
 rw [mul_sgn] at h2
 refine zP.value0 (zE (P := Tryz.prog) (fn := Tryz.f154) Z Z (by kernel_rfl) Z (fun c hR hfix => ?_)) (fix := fun _ => False) (fun _ h => h) Z Z
 refine rn6 ?_
 refine zi (by kernel_rfl) ?_
 refine zp (fuel := 1) [0, 1, 2, 3, 4, 5, 6, 7, 8, 9, 10] [(2, .ptr 0 0 0), (3, .ptr 1 0 0), (4, .ptr 2 0 0)] ⟨Z, Z, Z, trivial⟩ (by kernel_rfl) (by decide) Z Z ?_
 refine zM Z Z (zH Z Z Z Z Z Z) ?_
 refine zM Z Z (zX Z Z Z Z Z) ?_
 refine zM Z Z (zH Z Z Z Z Z Z) ?_
 refine zM Z Z (zX Z Z Z Z Z) ?_
 refine zM Z Z (zJI Z Z Z) ?_
 refine zM Z Z (zH Z Z Z Z Z Z) ?_
 refine zM Z Z (zX Z Z Z Z Z) ?_
 refine zM Z Z (zH Z Z Z Z Z Z) ?_
 refine zM Z Z (zX Z Z Z Z Z) ?_
 refine zA6 Z Z Z Z Z h1 ?_
 refine zA6 Z Z Z Z Z h2 ?_
 refine zAA ?_
 refine zF (is := [11]) (by kernel_rfl) (by simp) Z ⟨fun o ho => ?_, trivial⟩
 all_goals (cases ho)
 skip
 unfold zA0 zh
 refine sa1 (c' := .box [.bool (decide (x * y < 0)), .ro (.ints .u32 (zS (x * y).natAbs)) 0 (zS (x * y).natAbs).length]) Z Z Z Z Z Z Z ?_
 refine rn1 ?_
 refine zW (by kernel_rfl) ?_
 refine rn0 ?_
 exact zL hR Z Z
theorem opp_sgn (x : Int) : zEm (!decide (x < 0)) x.natAbs = -x := by
 unfold zEm
 by_cases h : x < 0
 ·simp [h]; omega
 ·simp [h]; omega
theorem zGH (x : Int) : zU Tryz.prog 164 [zA0 x] (zA0 (-x)) := by
 have h2 := zFM (!decide (x < 0)) x.natAbs
 rw [opp_sgn] at h2
 refine zP.value0 (zE (P := Tryz.prog) (fn := Tryz.f164) Z Z (by kernel_rfl) Z (fun c hR hfix => ?_)) (fix := fun _ => False) (fun _ h => h) Z Z
 refine rn6 ?_
 refine zB Z Z Z h2 ?_
 skip
 unfold zA0
 refine sa1 (c' := .box [.bool (decide (-x < 0)), zh (-x).natAbs]) Z Z Z Z Z Z Z ?_
 refine rn0 ?_
 exact zL hR Z Z
theorem zEJ (x : Int) : zU Tryz.prog 157 [zA0 x] (.int .i64 (sgn x)) := by
 have hp : 0 < (zS x.natAbs).length ↔ x.natAbs ≠ 0 := zCU
 unfold sgn
 refine zP.value0 (zE (P := Tryz.prog) (fn := Tryz.f157) Z Z (by kernel_rfl) Z (fun c hR hfix => ?_)) (fix := fun _ => False) (fun _ h => h) Z Z
 unfold zA0 zh
 rcases Int.lt_trichotomy x 0 with h | h | h
 ·have e : decide (x < 0) = true := decide_eq_true h
  rw [e]
  rw [if_pos h] at hR
  refine rn6 ?_
  refine zA Z (fun h0 => absurd h0 (by omega)) (fun h0 => ?_)
  refine rn6 ?_
  exact zL hR Z Z
 ·subst h
  rw [if_neg (by omega), if_pos rfl] at hR
  have e0 : zS (0 : Int).natAbs = [] := zBm
  rw [e0]
  refine rn6 ?_
  exact zL hR Z Z
 ·have e : decide (x < 0) = false := decide_eq_false (by omega)
  rw [e]
  rw [if_neg (by omega), if_neg (by omega)] at hR
  refine rn6 ?_
  refine zA Z (fun h0 => absurd h0 (by omega)) (fun h0 => ?_)
  refine rn5 ?_
  exact zL hR Z Z
theorem add_sgn1 (x y : Int) (h : decide (x < 0) = decide (y < 0)) : zEm (decide (x < 0)) (x.natAbs + y.natAbs) = x + y := by
 unfold zEm
 rw [decide_eq_decide] at h
 by_cases h1 : x < 0
 ·simp [h1]; omega
 ·simp [h1]; omega
theorem add_sgn2 (x y : Int) (h : ¬ decide (x < 0) = decide (y < 0)) (h2 : y.natAbs ≤ x.natAbs) : zEm (decide (x < 0)) (x.natAbs - y.natAbs) = x + y := by
 unfold zEm
 rw [decide_eq_decide] at h
 by_cases h1 : x < 0
 ·simp [h1]; omega
 ·simp [h1]; omega
theorem add_sgn3 (x y : Int) (h : ¬ decide (x < 0) = decide (y < 0)) (h2 : ¬ y.natAbs ≤ x.natAbs) : zEm (decide (y < 0)) (y.natAbs - x.natAbs) = x + y := by
 unfold zEm
 rw [decide_eq_decide] at h
 by_cases h1 : y < 0
 ·simp [h1]; omega
 ·simp [h1]; omega
theorem zPV {x y : Int} : 0 ≤ zEF x y ↔ y ≤ x := by
 unfold zEF
 split
 ·omega
 ·split <;> omega
theorem zMR (x y : Int) (hx : (zS x.natAbs).length ≤ 1000000) (hy : (zS y.natAbs).length ≤ 1000000) : zU Tryz.prog 197 [zA0 x, zA0 y] (zA0 (x + y)) := by
 by_cases h : decide (x < 0) = decide (y < 0)
 ·have h1 := add_ok x.natAbs y.natAbs (by omega) (by omega)
  have h2 := zFM (decide (x < 0)) (x.natAbs + y.natAbs)
  rw [add_sgn1 x y h] at h2
  refine zP.value0 (zE (P := Tryz.prog) (fn := Tryz.f197) Z Z (by kernel_rfl) Z (fun c hR hfix => ?_)) (fix := fun _ => False) (fun _ h => h) Z Z
  unfold zA0 at hR ⊢
  repeat (first | refine zR ?_ | refine zI ?_ | refine z7 ?_ | refine zg rfl ?_ | refine zG (zX rfl rfl rfl rfl rfl) ?_ | refine zG (zH rfl rfl rfl rfl rfl rfl) ?_ | refine zG (zKZ rfl rfl rfl) ?_ | refine zGC rfl rfl ?_ | refine zBC rfl rfl rfl ?_)
  refine zAE 9 (.bool true) Z (AEq.of_eq (by rw [h]; simp)) ?_
  refine rn5 ?_
  refine zi (by kernel_rfl) ?_
  refine zp (fuel := 1) [0, 1, 2, 3, 4, 5, 6, 7] [(2, .ptr 0 0 0), (3, .ptr 1 0 0), (4, .ptr 2 0 0)] ⟨Z, Z, Z, trivial⟩ (by kernel_rfl) (by decide) Z Z ?_
  refine zM Z Z (zH Z Z Z Z Z Z) ?_
  refine zM Z Z (zX Z Z Z Z Z) ?_
  refine zM Z Z (zH Z Z Z Z Z Z) ?_
  refine zM Z Z (zX Z Z Z Z Z) ?_
  refine zM Z Z (zH Z Z Z Z Z Z) ?_
  refine zM Z Z (zX Z Z Z Z Z) ?_
  refine zA6 Z Z Z Z Z h1 ?_
  refine zA6 Z Z Z Z Z h2 ?_
  refine zAA ?_
  refine zF (is := [8]) (by kernel_rfl) (by simp) Z ⟨fun o ho => ?_, trivial⟩
  all_goals (cases ho)
  skip
  unfold zA0
  refine sa1 (c' := .box [.bool (decide (x + y < 0)), zh (x + y).natAbs]) Z Z Z Z Z Z Z ?_
  refine rn1 ?_
  refine zW (by kernel_rfl) ?_
  refine rn2 ?_
  exact zL hR Z Z
 ·have h0 := zMI x.natAbs y.natAbs (by omega) (by omega)
  by_cases hc : y.natAbs ≤ x.natAbs
  ·have h1 := sub_ok x.natAbs y.natAbs hc (by omega)
   have h2 := zFM (decide (x < 0)) (x.natAbs - y.natAbs)
   rw [add_sgn2 x y h hc] at h2
   refine zP.value0 (zE (P := Tryz.prog) (fn := Tryz.f197) Z Z (by kernel_rfl) Z (fun c hR hfix => ?_)) (fix := fun _ => False) (fun _ h => h) Z Z
   unfold zA0 at hR ⊢
   repeat (first | refine zR ?_ | refine zI ?_ | refine z7 ?_ | refine zg rfl ?_ | refine zG (zX rfl rfl rfl rfl rfl) ?_ | refine zG (zH rfl rfl rfl rfl rfl rfl) ?_ | refine zG (zKZ rfl rfl rfl) ?_ | refine zGC rfl rfl ?_ | refine zBC rfl rfl rfl ?_)
   refine zAE 9 (.bool false) Z (AEq.of_eq (by rw [beq_eq_false_iff_ne.2 h])) ?_
   refine rn5 ?_
   refine zB Z Z Z h0 ?_
   refine rn7 ?_
   refine zA Z (fun h5 => ?_) (fun h5 => absurd (zPV.2 (Int.ofNat_le.2 hc)) h5)
   repeat (refine z7 ?_)
   refine zi (by kernel_rfl) ?_
   refine zp (fuel := 1) [0, 1, 2, 3, 4, 5, 6, 7] [(2, .ptr 0 0 0), (3, .ptr 1 0 0), (4, .ptr 2 0 0)] ⟨Z, Z, Z, trivial⟩ (by kernel_rfl) (by decide) Z Z ?_
   refine zM Z Z (zH Z Z Z Z Z Z) ?_
   refine zM Z Z (zX Z Z Z Z Z) ?_
   refine zM Z Z (zH Z Z Z Z Z Z) ?_
   refine zM Z Z (zX Z Z Z Z Z) ?_
   refine zM Z Z (zH Z Z Z Z Z Z) ?_
   refine zM Z Z (zX Z Z Z Z Z) ?_
   refine zA6 Z Z Z Z Z h1 ?_
   refine zA6 Z Z Z Z Z h2 ?_
   refine zAA ?_
   refine zF (is := [8]) (by kernel_rfl) (by simp) Z ⟨fun o ho => ?_, trivial⟩
   all_goals (cases ho)
   skip
   unfold zA0
   refine sa1 (c' := .box [.bool (decide (x + y < 0)), zh (x + y).natAbs]) Z Z Z Z Z Z Z ?_
   refine rn1 ?_
   refine zW (by kernel_rfl) ?_
   refine rn2 ?_
   exact zL hR Z Z
  ·have h1 := sub_ok y.natAbs x.natAbs (by omega) (by omega)
   have h2 := zFM (decide (y < 0)) (y.natAbs - x.natAbs)
   rw [add_sgn3 x y h hc] at h2
   refine zP.value0 (zE (P := Tryz.prog) (fn := Tryz.f197) Z Z (by kernel_rfl) Z (fun c hR hfix => ?_)) (fix := fun _ => False) (fun _ h => h) Z Z
   unfold zA0 at hR ⊢
   repeat (first | refine zR ?_ | refine zI ?_ | refine z7 ?_ | refine zg rfl ?_ | refine zG (zX rfl rfl rfl rfl rfl) ?_ | refine zG (zH rfl rfl rfl rfl rfl rfl) ?_ | refine zG (zKZ rfl rfl rfl) ?_ | refine zGC rfl rfl ?_ | refine zBC rfl rfl rfl ?_)
   refine zAE 9 (.bool false) Z (AEq.of_eq (by rw [beq_eq_false_iff_ne.2 h])) ?_
   refine rn5 ?_
   refine zB Z Z Z h0 ?_
   refine rn7 ?_
   refine zA Z (fun h5 => absurd (Int.ofNat_le.1 (zPV.1 h5)) hc) (fun h5 => ?_)
   refine rn1 ?_
   refine zi (by kernel_rfl) ?_
   refine zp (fuel := 1) [0, 1, 2, 3, 4, 5, 6, 7] [(2, .ptr 0 0 0), (3, .ptr 1 0 0), (4, .ptr 2 0 0)] ⟨Z, Z, Z, trivial⟩ (by kernel_rfl) (by decide) Z Z ?_
   refine zM Z Z (zH Z Z Z Z Z Z) ?_
   refine zM Z Z (zX Z Z Z Z Z) ?_
   refine zM Z Z (zH Z Z Z Z Z Z) ?_
   refine zM Z Z (zX Z Z Z Z Z) ?_
   refine zM Z Z (zH Z Z Z Z Z Z) ?_
   refine zM Z Z (zX Z Z Z Z Z) ?_
   refine zA6 Z Z Z Z Z h1 ?_
   refine zA6 Z Z Z Z Z h2 ?_
   refine zAA ?_
   refine zF (is := [8]) (by kernel_rfl) (by simp) Z ⟨fun o ho => ?_, trivial⟩
   all_goals (cases ho)
   skip
   unfold zA0
   refine sa1 (c' := .box [.bool (decide (x + y < 0)), zh (x + y).natAbs]) Z Z Z Z Z Z Z ?_
   refine rn1 ?_
   refine zW (by kernel_rfl) ?_
   refine rn0 ?_
   exact zL hR Z Z
theorem len_neg {x : Int} {k : Nat} (h : (zS x.natAbs).length ≤ k) : (zS (-x).natAbs).length ≤ k := by rw [Int.natAbs_neg]; exact h
theorem zMU (x y : Int) (hx : (zS x.natAbs).length ≤ 1000000) (hy : (zS y.natAbs).length ≤ 1000000) : zU Tryz.prog 211 [zA0 x, zA0 y] (zA0 (x - y)) := by
 have h1 := zGH y
 have h2 := zMR x (-y) hx (len_neg hy)
 rw [show x + -y = x - y from rfl] at h2
 refine zP.value0 (zE (P := Tryz.prog) (fn := Tryz.f211) Z Z (by kernel_rfl) Z (fun c hR hfix => ?_)) (fix := fun _ => False) (fun _ h => h) Z Z
 refine rn6 ?_
 refine zi (by kernel_rfl) ?_
 refine zp (fuel := 1) [0, 1, 2, 3] [(2, .ptr 0 0 0), (3, .ptr 1 0 0), (4, .ptr 2 0 0)] ⟨Z, Z, Z, trivial⟩ (by kernel_rfl) (by decide) Z Z ?_
 refine zM Z Z (qpp Z Z Z Z Z Z Z) ?_
 refine zM Z Z (qpp Z Z Z Z Z Z Z) ?_
 refine zA6 Z Z Z Z Z h1 ?_
 refine zA6 Z Z Z Z Z h2 ?_
 refine zAA ?_
 refine zF (is := [4]) (by kernel_rfl) (by simp) Z ⟨fun o ho => ?_, trivial⟩
 all_goals (cases ho)
 skip
 unfold zA0
 refine sa1 (c' := .box [.bool (decide (x - y < 0)), zh (x - y).natAbs]) Z Z Z Z Z Z Z ?_
 refine rn1 ?_
 refine zW (by kernel_rfl) ?_
 refine rn0 ?_
 exact zL hR Z Z
theorem zPp (x y : Int) (hx : (zS x.natAbs).length ≤ 1000000) (hy : (zS y.natAbs).length ≤ 1000000) : zU Tryz.prog 155 [zA0 x, zA0 y] (.int .i64 (sgn (x - y))) := by
 have h1 := zMU x y hx hy
 have h2 := zEJ (x - y)
 refine zP.value0 (zE (P := Tryz.prog) (fn := Tryz.f155) Z Z (by kernel_rfl) Z (fun c hR hfix => ?_)) (fix := fun _ => False) (fun _ h => h) Z Z
 refine rn6 ?_
 refine zB Z Z Z h1 ?_
 skip
 refine zB Z Z Z h2 ?_
 refine rn0 ?_
 exact zL hR Z Z
theorem zK7 (n : Int) (h : -9223372036854775808 ≤ n ∧ n < 9223372036854775808) : zU Tryz.prog 167 [.int .i64 n] (zA0 n) := by
 refine zP.value0 (zE (P := Tryz.prog) (fn := Tryz.f167) Z Z (by kernel_rfl) Z (fun c hR hfix => ?_)) (fix := fun _ => False) (fun _ h => h) Z Z
 rcases Int.lt_or_le n 0 with hn | hn
 ·have h1 := zG5 n.natAbs (by omega)
  refine rn4 ?_
  refine zA Z (fun _ => ?_) (fun h0 => absurd hn h0)
  refine rn3 ?_
  refine zG (q_neg Z (by omega)) ?_
  refine zD 7 (.int .i64 ((n.natAbs - 1 : Nat) : Int)) Z (AEq.of_eq (congrArg _ (by omega))) ?_
  refine zG (zAS (m := n.natAbs - 1) Z Z Z zBV (by omega)) ?_
  refine zG (zFf (m := n.natAbs - 1) (n := 1) Z Z zBV (by omega)) ?_
  refine zD 9 (.int .u64 ((n.natAbs : Nat) : Int)) Z (AEq.of_eq (congrArg _ (by omega))) ?_
  skip
  refine zB Z Z Z h1 ?_
  repeat (refine zG (zBG rfl rfl rfl rfl rfl rfl) ?_)
  refine sa1 (c' := .box [.bool true, zh n.natAbs]) Z Z Z Z Z Z Z ?_
  refine rn2 ?_
  refine zL hR Z ?_
  unfold zA0
  rw [show decide (n < 0) = true from decide_eq_true hn]
  rfl
 ·have h1 := zG5 n.natAbs (by omega)
  refine rn4 ?_
  refine zA Z (fun h0 => absurd h0 (by omega)) (fun h0 => ?_)
  refine rn1 ?_
  refine zD 12 (.int .i64 ((n.natAbs : Nat) : Int)) Z (AEq.of_eq (congrArg _ (by omega))) ?_
  refine zG (zAS (m := n.natAbs) Z Z Z zBV (by omega)) ?_
  skip
  refine zB Z Z Z h1 ?_
  repeat (refine zG (zBG rfl rfl rfl rfl rfl rfl) ?_)
  refine sa1 (c' := .box [.bool false, zh n.natAbs]) Z Z Z Z Z Z Z ?_
  refine rn0 ?_
  refine zL hR Z ?_
  unfold zA0
  rw [show decide (n < 0) = false from decide_eq_false (by omega)]
  rfl
def qA (q : Rat) : AV := .agg [.bool (decide (q.num < 0)), zh q.num.natAbs, zh q.den]
theorem zIc (n : Nat) : zA0 (n : Int) = .agg [.bool false, zh n] := by
 unfold zA0
 rw [show decide ((n : Int) < 0) = false from decide_eq_false (by omega), Int.natAbs_natCast]
theorem bne_iff {x y z : Int} (h : z < 0 ↔ x ≠ 0 ∧ ((x < 0 ∧ ¬ y < 0) ∨ (¬ x < 0 ∧ y < 0))) (hz : x = 0 → z = 0) : zEm (!(decide (x < 0) == decide (y < 0))) z.natAbs = z := by
 unfold zEm
 by_cases h1 : x < 0 <;> by_cases h2 : y < 0
 ·simp [h1, h2]; have : ¬ z < 0 := fun q => by have := h.1 q; omega
  omega
 ·simp [h1, h2]; have : z < 0 := h.2 (by omega)
  omega
 ·simp [h1, h2]
  rcases Int.lt_or_le z 0 with q | q
  ·omega
  ·have : x = 0 := by
    rcases Int.lt_trichotomy x 0 with w | w | w
    ·exact absurd w h1
    ·exact w
    ·exact absurd (h.2 ⟨by omega, .inr ⟨h1, h2⟩⟩) (by omega)
   have := hz this
   omega
 ·simp [h1, h2]; have : ¬ z < 0 := fun q => by have := h.1 q; omega
  omega
theorem gcd_len {a b k : Nat} (ha : (zS a).length ≤ k) (hb : (zS b).length ≤ k) : (zS (Nat.gcd a b)).length ≤ k := by
 rcases Nat.eq_zero_or_pos a with h | h
 ·subst h; rw [Nat.gcd_zero_left]; exact hb
 ·exact zFN (Nat.gcd_le_left b h) ha
theorem zHM (n d : Int) (hd : d ≠ 0) (hn : (zS n.natAbs).length ≤ 1000000) (hdl : (zS d.natAbs).length ≤ 1000000) : zU Tryz.prog 166 [zA0 n, zA0 d] (qA (Rat.divInt n d)) := by
 obtain ⟨e1, e2, e3⟩ := zGG n d hd
 have hg := zOl n.natAbs d.natAbs hn hdl
 have hgl := gcd_len hn hdl
 have hgp : 0 < Nat.gcd n.natAbs d.natAbs := Nat.gcd_pos_of_pos_right _ (by omega)
 have h1 := zI7 n.natAbs _ hgp hn hgl
 have h2 := zI7 d.natAbs _ hgp hdl hgl
 have h3 := zFM (!(decide (n < 0) == decide (d < 0))) (Rat.divInt n d).num.natAbs
 rw [bne_iff e3 (fun h0 => by rw [h0, Rat.zero_divInt]; rfl)] at h3
 rw [← e1] at h1
 rw [← e2] at h2
 refine zP.value0 (zE (P := Tryz.prog) (fn := Tryz.f166) Z Z (by kernel_rfl) Z (fun c hR hfix => ?_)) (fix := fun _ => False) (fun _ h => h) Z Z
 refine rn6 ?_
 refine zB Z Z Z hg ?_
 refine rn5 ?_
 refine zB Z Z Z h1 ?_
 refine rn5 ?_
 refine zB Z Z Z h2 ?_
 repeat (first | refine zG (zJ rfl) ?_ | refine zG (zm rfl) ?_ | refine zR ?_ | refine zI ?_ | refine z7 ?_ | refine zg rfl ?_ | refine zG (zX rfl rfl rfl rfl rfl) ?_ | refine zG (zBn rfl rfl) ?_ | refine zG (zH rfl rfl rfl rfl rfl rfl) ?_ | refine zG (zJI rfl rfl rfl) ?_)
 refine zB Z Z Z h3 ?_
 refine rn8 ?_
 refine sa1 (c' := .box [.bool (decide ((Rat.divInt n d).num < 0)), zh (Rat.divInt n d).num.natAbs, zh (Rat.divInt n d).den]) Z Z Z Z Z Z Z ?_
 refine rn0 ?_
 exact zL hR Z Z
def Sz (k : Nat) (q : Rat) : Prop := (zS q.num.natAbs).length ≤ k ∧ (zS q.den).length ≤ k
theorem zDD {x y : Int} {k : Nat} (hx : (zS x.natAbs).length ≤ k) (hy : (zS y.natAbs).length ≤ k) : (zS (x * y).natAbs).length ≤ k + k := by
 rw [Int.natAbs_mul]; exact zId hx hy
theorem zNK {x y : Int} {k : Nat} (hx : (zS x.natAbs).length ≤ k) (hy : (zS y.natAbs).length ≤ k) : (zS (x + y).natAbs).length ≤ k + 1 :=
 zFN (Int.natAbs_add_le x y) (len_add hx hy)
theorem den_ne (q : Rat) : (q.den : Int) ≠ 0 := by have := q.den_nz; omega
theorem zIn (p q : Rat) (hp : Sz 100000 p) (hq : Sz 100000 q) : zU Tryz.prog 148 [qA p, qA q] (qA (p + q)) := by
 have l1 : (zS (q.den : Int).natAbs).length ≤ 100000 := hq.2
 have l2 : (zS (p.den : Int).natAbs).length ≤ 100000 := hp.2
 have h1 := zCS p.num q.den (by have := hp.1; omega) (by omega)
 have h2 := zCS q.num p.den (by have := hq.1; omega) (by omega)
 have m1 := zDD hp.1 l1
 have m2 := zDD hq.1 l2
 have h3 := zMR (p.num * q.den) (q.num * p.den) (by omega) (by omega)
 have h4 := zMX p.den q.den (by have := hp.2; omega) (by have := hq.2; omega)
 have m3 := zNK m1 m2
 have m4 := zId hp.2 hq.2
 have h5 := zHM (p.num * q.den + q.num * p.den) ((p.den * q.den : Nat) : Int) (by have := Nat.mul_ne_zero p.den_nz q.den_nz; omega) (by omega) (by rw [Int.natAbs_natCast]; omega)
 rw [zIc, zJ8] at h5
 rw [zIc] at h1 h2
 refine zP.value0 (zE (P := Tryz.prog) (fn := Tryz.f148) Z Z (by kernel_rfl) Z (fun c hR hfix => ?_)) (fix := fun _ => False) (fun _ h => h) Z Z
 refine rn6 ?_
 refine zi (by kernel_rfl) ?_
 refine zp (fuel := 1) [0, 1, 2, 3, 4, 5, 6, 7, 8, 9, 10, 11, 12, 13, 14, 15, 16, 17, 18, 19] [(2, .ptr 0 0 0), (3, .ptr 1 0 0), (4, .ptr 2 0 0)] ⟨Z, Z, Z, trivial⟩ (by kernel_rfl) (by decide) Z Z ?_
 refine zM Z Z (zH Z Z Z Z Z Z) ?_
 refine zM Z Z (qpp Z Z Z Z Z Z Z) ?_
 refine zM Z Z (zH Z Z Z Z Z Z) ?_
 refine zM Z Z (zX Z Z Z Z Z) ?_
 refine zM Z Z (zBG Z Z Z Z Z Z) ?_
 refine zA6 Z Z Z Z Z h1 ?_
 refine zM Z Z (zH Z Z Z Z Z Z) ?_
 refine zM Z Z (qpp Z Z Z Z Z Z Z) ?_
 refine zM Z Z (zH Z Z Z Z Z Z) ?_
 refine zM Z Z (zX Z Z Z Z Z) ?_
 refine zM Z Z (zBG Z Z Z Z Z Z) ?_
 refine zA6 Z Z Z Z Z h2 ?_
 refine zA6 Z Z Z Z Z h3 ?_
 refine zM Z Z (zH Z Z Z Z Z Z) ?_
 refine zM Z Z (zX Z Z Z Z Z) ?_
 refine zM Z Z (zH Z Z Z Z Z Z) ?_
 refine zM Z Z (zX Z Z Z Z Z) ?_
 refine zA6 Z Z Z Z Z h4 ?_
 refine zM Z Z (zBG Z Z Z Z Z Z) ?_
 refine zA6 Z Z Z Z Z h5 ?_
 refine zAA ?_
 refine zF (is := [20]) (by kernel_rfl) (by simp) Z ⟨fun o ho => ?_, trivial⟩
 all_goals (cases ho)
 skip
 unfold qA
 refine sa1 (c' := .box [.bool (decide ((p + q).num < 0)), zh (p + q).num.natAbs, zh (p + q).den]) Z Z Z Z Z Z Z ?_
 refine rn1 ?_
 refine zW (by kernel_rfl) ?_
 refine rn0 ?_
 exact zL hR Z Z
theorem zMg (p q : Rat) (hp : Sz 100000 p) (hq : Sz 100000 q) : zU Tryz.prog 127 [qA p, qA q] (qA (p * q)) := by
 have h1 := zCS p.num q.num (by have := hp.1; omega) (by have := hq.1; omega)
 have m1 := zDD hp.1 hq.1
 have h4 := zMX p.den q.den (by have := hp.2; omega) (by have := hq.2; omega)
 have m4 := zId hp.2 hq.2
 have h5 := zHM (p.num * q.num) ((p.den * q.den : Nat) : Int) (by have := Nat.mul_ne_zero p.den_nz q.den_nz; omega) (by omega) (by rw [Int.natAbs_natCast]; omega)
 rw [zIc, zKO] at h5
 refine zP.value0 (zE (P := Tryz.prog) (fn := Tryz.f127) Z Z (by kernel_rfl) Z (fun c hR hfix => ?_)) (fix := fun _ => False) (fun _ h => h) Z Z
 refine rn6 ?_
 refine zi (by kernel_rfl) ?_
 refine zp (fuel := 1) [0, 1, 2, 3, 4, 5, 6, 7, 8, 9, 10, 11] [(2, .ptr 0 0 0), (3, .ptr 1 0 0), (4, .ptr 2 0 0)] ⟨Z, Z, Z, trivial⟩ (by kernel_rfl) (by decide) Z Z ?_
 refine zM Z Z (zH Z Z Z Z Z Z) ?_
 refine zM Z Z (qpp Z Z Z Z Z Z Z) ?_
 refine zM Z Z (zH Z Z Z Z Z Z) ?_
 refine zM Z Z (qpp Z Z Z Z Z Z Z) ?_
 refine zA6 Z Z Z Z Z h1 ?_
 refine zM Z Z (zH Z Z Z Z Z Z) ?_
 refine zM Z Z (zX Z Z Z Z Z) ?_
 refine zM Z Z (zH Z Z Z Z Z Z) ?_
 refine zM Z Z (zX Z Z Z Z Z) ?_
 refine zA6 Z Z Z Z Z h4 ?_
 refine zM Z Z (zBG Z Z Z Z Z Z) ?_
 refine zA6 Z Z Z Z Z h5 ?_
 refine zAA ?_
 refine zF (is := [12]) (by kernel_rfl) (by simp) Z ⟨fun o ho => ?_, trivial⟩
 all_goals (cases ho)
 skip
 unfold qA
 refine sa1 (c' := .box [.bool (decide ((p * q).num < 0)), zh (p * q).num.natAbs, zh (p * q).den]) Z Z Z Z Z Z Z ?_
 refine rn1 ?_
 refine zW (by kernel_rfl) ?_
 refine rn0 ?_
 exact zL hR Z Z
theorem zMf (p q : Rat) (hp : Sz 100000 p) (hq : Sz 100000 q) (h0 : q ≠ 0) : zU Tryz.prog 149 [qA p, qA q] (qA (p / q)) := by
 have l1 : (zS (q.den : Int).natAbs).length ≤ 100000 := hq.2
 have l2 : (zS (p.den : Int).natAbs).length ≤ 100000 := hp.2
 have h1 := zCS p.num q.den (by have := hp.1; omega) (by omega)
 have h2 := zCS q.num p.den (by have := hq.1; omega) (by omega)
 have m1 := zDD hp.1 l1
 have m2 := zDD hq.1 l2
 have hn : q.num ≠ 0 := fun h => h0 (Rat.num_eq_zero.1 h)
 have h5 := zHM (p.num * q.den) (q.num * p.den) (Int.mul_ne_zero hn (den_ne p)) (by omega) (by omega)
 rw [zNB p q h0] at h5
 rw [zIc] at h1 h2
 refine zP.value0 (zE (P := Tryz.prog) (fn := Tryz.f149) Z Z (by kernel_rfl) Z (fun c hR hfix => ?_)) (fix := fun _ => False) (fun _ h => h) Z Z
 refine rn6 ?_
 refine zi (by kernel_rfl) ?_
 refine zp (fuel := 1) [0, 1, 2, 3, 4, 5, 6, 7, 8, 9, 10, 11, 12] [(2, .ptr 0 0 0), (3, .ptr 1 0 0), (4, .ptr 2 0 0)] ⟨Z, Z, Z, trivial⟩ (by kernel_rfl) (by decide) Z Z ?_
 refine zM Z Z (zH Z Z Z Z Z Z) ?_
 refine zM Z Z (qpp Z Z Z Z Z Z Z) ?_
 refine zM Z Z (zH Z Z Z Z Z Z) ?_
 refine zM Z Z (zX Z Z Z Z Z) ?_
 refine zM Z Z (zBG Z Z Z Z Z Z) ?_
 refine zA6 Z Z Z Z Z h1 ?_
 refine zM Z Z (zH Z Z Z Z Z Z) ?_
 refine zM Z Z (qpp Z Z Z Z Z Z Z) ?_
 refine zM Z Z (zH Z Z Z Z Z Z) ?_
 refine zM Z Z (zX Z Z Z Z Z) ?_
 refine zM Z Z (zBG Z Z Z Z Z Z) ?_
 refine zA6 Z Z Z Z Z h2 ?_
 refine zA6 Z Z Z Z Z h5 ?_
 refine zAA ?_
 refine zF (is := [13]) (by kernel_rfl) (by simp) Z ⟨fun o ho => ?_, trivial⟩
 all_goals (cases ho)
 skip
 unfold qA
 refine sa1 (c' := .box [.bool (decide ((p / q).num < 0)), zh (p / q).num.natAbs, zh (p / q).den]) Z Z Z Z Z Z Z ?_
 refine rn1 ?_
 refine zW (by kernel_rfl) ?_
 refine rn0 ?_
 exact zL hR Z Z
theorem zFQ (p q : Rat) (hp : Sz 100000 p) (hq : Sz 100000 q) : zU Tryz.prog 71 [qA p, qA q] (.int .i64 (zCG p q)) := by
 have l1 : (zS (q.den : Int).natAbs).length ≤ 100000 := hq.2
 have l2 : (zS (p.den : Int).natAbs).length ≤ 100000 := hp.2
 have h1 := zCS p.num q.den (by have := hp.1; omega) (by omega)
 have h2 := zCS q.num p.den (by have := hq.1; omega) (by omega)
 have m1 := zDD hp.1 l1
 have m2 := zDD hq.1 l2
 have h5 := zPp (p.num * q.den) (q.num * p.den) (by omega) (by omega)
 rw [sgn_cmp p q] at h5
 rw [zIc] at h1 h2
 refine zP.value0 (zE (P := Tryz.prog) (fn := Tryz.f71) Z Z (by kernel_rfl) Z (fun c hR hfix => ?_)) (fix := fun _ => False) (fun _ h => h) Z Z
 refine rn6 ?_
 refine zi (by kernel_rfl) ?_
 refine zp (fuel := 0) [0, 1, 2, 3, 4, 5, 6, 7, 8, 9, 10, 11, 12, 13] [(2, .ptr 0 0 0), (3, .ptr 1 0 0)] ⟨Z, Z, trivial⟩ (by kernel_rfl) (by decide) Z Z ?_
 refine zM Z Z (zH Z Z Z Z Z Z) ?_
 refine zM Z Z (qpp Z Z Z Z Z Z Z) ?_
 refine zM Z Z (zH Z Z Z Z Z Z) ?_
 refine zM Z Z (zX Z Z Z Z Z) ?_
 refine zM Z Z (zBG Z Z Z Z Z Z) ?_
 refine zA6 Z Z Z Z Z h1 ?_
 refine zM Z Z (zH Z Z Z Z Z Z) ?_
 refine zM Z Z (qpp Z Z Z Z Z Z Z) ?_
 refine zM Z Z (zH Z Z Z Z Z Z) ?_
 refine zM Z Z (zX Z Z Z Z Z) ?_
 refine zM Z Z (zBG Z Z Z Z Z Z) ?_
 refine zA6 Z Z Z Z Z h2 ?_
 refine zA6 Z Z Z Z Z h5 ?_
 refine zM Z Z (zm Z) ?_
 refine zAA ?_
 refine zW (by kernel_rfl) ?_
 refine rn0 ?_
 exact zL hR Z Z
theorem zIo (p : Rat) : zU Tryz.prog 76 [qA p] (.int .i64 (sgn p.num)) := by
 have h1 := zEJ p.num
 refine zP.value0 (zE (P := Tryz.prog) (fn := Tryz.f76) Z Z (by kernel_rfl) Z (fun c hR hfix => ?_)) (fix := fun _ => False) (fun _ h => h) Z Z
 refine rn6 ?_
 refine zB Z Z Z h1 ?_
 refine rn0 ?_
 exact zL hR Z Z
theorem qopp_ok (p : Rat) : zU Tryz.prog 85 [qA p] (qA (-p)) := by
 have h1 := zGH p.num
 refine zP.value0 (zE (P := Tryz.prog) (fn := Tryz.f85) Z Z (by kernel_rfl) Z (fun c hR hfix => ?_)) (fix := fun _ => False) (fun _ h => h) Z Z
 refine rn6 ?_
 refine zi (by kernel_rfl) ?_
 refine zp (fuel := 1) [0, 1, 2, 3, 4, 5] [(1, .ptr 0 0 0), (2, .ptr 1 0 0)] ⟨Z, Z, trivial⟩ (by kernel_rfl) (by decide) Z Z ?_
 refine zM Z Z (zH Z Z Z Z Z Z) ?_
 refine zM Z Z (qpp Z Z Z Z Z Z Z) ?_
 refine zA6 Z Z Z Z Z h1 ?_
 refine zM Z Z (zH Z Z Z Z Z Z) ?_
 refine zM Z Z (zX Z Z Z Z Z) ?_
 refine zM Z Z (zBG Z Z Z Z Z Z) ?_
 refine zAA ?_
 refine zF (is := [6]) (by kernel_rfl) (by simp) Z ⟨fun o ho => ?_, trivial⟩
 all_goals (cases ho)
 skip
 refine sa1 (c' := .box [.bool (decide ((-p).num < 0)), zh (-p).num.natAbs, zh (-p).den]) Z Z Z Z Z Z Z ?_
 refine rn1 ?_
 refine zW (by kernel_rfl) ?_
 refine rn0 ?_
 exact zL hR Z Z
theorem sz_neg {k : Nat} {q : Rat} (h : Sz k q) : Sz k (-q) := by
 refine ⟨?_, h.2⟩
 show (zS (-q.num).natAbs).length ≤ k
 rw [Int.natAbs_neg]; exact h.1
theorem zP3 (p q : Rat) (hp : Sz 100000 p) (hq : Sz 100000 q) : zU Tryz.prog 147 [qA p, qA q] (qA (p - q)) := by
 have h1 := qopp_ok q
 have h2 := zIn p (-q) hp (sz_neg hq)
 rw [← Rat.sub_eq_add_neg] at h2
 refine zP.value0 (zE (P := Tryz.prog) (fn := Tryz.f147) Z Z (by kernel_rfl) Z (fun c hR hfix => ?_)) (fix := fun _ => False) (fun _ h => h) Z Z
 refine rn6 ?_
 refine zi (by kernel_rfl) ?_
 refine zp (fuel := 1) [0, 1, 2, 3] [(2, .ptr 0 0 0), (3, .ptr 1 0 0), (4, .ptr 2 0 0)] ⟨Z, Z, Z, trivial⟩ (by kernel_rfl) (by decide) Z Z ?_
 refine zM Z Z (qpp Z Z Z Z Z Z Z) ?_
 refine zM Z Z (qpp Z Z Z Z Z Z Z) ?_
 refine zA6 Z Z Z Z Z h1 ?_
 refine zA6 Z Z Z Z Z h2 ?_
 refine zAA ?_
 refine zF (is := [4]) (by kernel_rfl) (by simp) Z ⟨fun o ho => ?_, trivial⟩
 all_goals (cases ho)
 skip
 unfold qA
 refine sa1 (c' := .box [.bool (decide ((p - q).num < 0)), zh (p - q).num.natAbs, zh (p - q).den]) Z Z Z Z Z Z Z ?_
 refine rn1 ?_
 refine zW (by kernel_rfl) ?_
 refine rn0 ?_
 exact zL hR Z Z
end Go.Proofs.YtkncmbklkhjmgaaGreatDoor
namespace Go.Proofs.YtkncmbklkhjmgaaGreatDoor
open Go.Ax Go.Ax.Bg Go.Ax.Rt Go.RowKit
attribute [local irreducible] Ax zBI QOp zP zAl
open Go.Ax.Tb (zDB zKC)
theorem zNT : zh 1 = .ro (.ints .u32 [1]) 0 1 := by unfold zh; rw [zGt]; rfl
theorem qA_int (z : Int) : qA (z : Rat) = .agg [.bool (decide (z < 0)), zh z.natAbs, zh 1] := rfl
theorem qof_ok (n : Int) (h : -9223372036854775808 ≤ n ∧ n < 9223372036854775808) : zU Tryz.prog 140 [.int .i64 n] (qA (n : Rat)) := by
 have h1 := zK7 n h
 refine zP.value0 (zE (P := Tryz.prog) (fn := Tryz.f140) Z Z (by kernel_rfl) Z (fun c hR hfix => ?_)) (fix := fun _ => False) (fun _ h => h) Z Z
 refine rn4 ?_
 refine zB Z Z Z h1 ?_
 unfold zA0
 refine rn8 ?_
 refine sa1 (c' := .box [.bool (decide (n < 0)), zh n.natAbs, .ro (.ints .u32 [1]) 0 1]) Z Z Z Z Z Z Z ?_
 refine rn0 ?_
 refine zL hR Z ?_
 rw [qA_int, zNT]
 rfl
theorem zOn (s : List UInt8) (b : Int) : zU Tryz.prog 258 [.str s, .int .u8 b] (.int .i64 (Lib.indexByte s b.toNat.toUInt8)) := by
 refine zP.value0 (zE (P := Tryz.prog) (fn := Tryz.f258) Z Z (by kernel_rfl) Z (fun c hR hfix => ?_)) (fix := fun _ => False) (fun _ h => h) Z Z
 refine rn0 ?_
 refine zG (zNi Z Z Z Z (by kernel_rfl) (by kernel_rfl) (by kernel_rfl) (by kernel_rfl)) ?_
 refine rn0 ?_
 exact zL hR Z Z
theorem indexI1 (s : List UInt8) (b : UInt8) : zU Tryz.prog 213 [.str s, .str [b]] (.int .i64 (Lib.indexByte s b)) := by
 refine zP.value0 (zE (P := Tryz.prog) (fn := Tryz.f213) Z Z (by kernel_rfl) Z (fun c hR hfix => ?_)) (fix := fun _ => False) (fun _ h => h) Z Z
 refine rn6 ?_
 refine zA Z (fun h => ?_) (fun h => ?_)
 ·refine rn6 ?_
  refine zL hR Z ?_
  subst h
  simp [zBs, Lib.indexByte]
 refine rn12 ?_
 refine zB Z Z Z (zOn s b.toNat) ?_
 refine rn6 ?_
 refine zL hR Z ?_
 simp [zBs]
theorem zMS (l : List UInt8) (b : UInt8) : Lib.indexByte l b < l.length := by
 induction l with
 | nil => simp [Lib.indexByte]
 | cons c r ih =>
  rw [Lib.indexByte]
  simp only [List.length_cons]
  split
  ·omega
  ·split
   ·omega
   ·omega
theorem cutI (s : List UInt8) (b : UInt8) (h : s.length ≤ 9223372036854775807) : zU Tryz.prog 159 [.str s, .str [b]] (.tup [.str (zDB b s).1, .str (zDB b s).2.1, .bool (zDB b s).2.2]) := by
 have hc := zKC b s
 have hlt := zMS s b
 have hge := Lib.indexByte_ge s b
 have ci := indexI1 s b
 refine zP.value0 (zE (P := Tryz.prog) (fn := Tryz.f159) Z Z (by kernel_rfl) Z (fun c hR hfix => ?_)) (fix := fun _ => False) (fun _ h => h) Z Z
 generalize Lib.indexByte s b = i at *
 refine rn0 ?_
 refine zB Z Z Z ci ?_
 refine rn7 ?_
 refine zA Z (fun h0 => ?_) (fun h0 => ?_)
 ·rw [if_pos h0] at hc
  rw [hc] at hR
  have hb1 : ([b] : List UInt8).length = 1 := rfl
  have hi1 : (i + 1).toNat = i.toNat + 1 := by omega
  repeat (refine z7 ?_)
  refine zDv (by kernel_rfl) (by kernel_rfl) Z ?_
  refine rn16 ?_
  refine zL hR Z ?_
  simp [zBs, hi1]
  exact List.take_of_length_le (by simp)
 ·rw [if_neg h0] at hc
  rw [hc] at hR
  refine rn1 ?_
  exact zL hR Z Z
theorem cutS (s : List UInt8) (b : UInt8) (h : s.length ≤ 9223372036854775807) : zU Tryz.prog 78 [.str s, .str [b]] (.tup [.str (zDB b s).1, .str (zDB b s).2.1, .bool (zDB b s).2.2]) := by
 have ci := cutI s b h
 refine zP.value0 (zE (P := Tryz.prog) (fn := Tryz.f78) Z Z (by kernel_rfl) Z (fun c hR hfix => ?_)) (fix := fun _ => False) (fun _ h => h) Z Z
 generalize zDB b s = q at *
 refine rn0 ?_
 refine zB Z Z Z ci ?_
 refine rn2 ?_
 exact zL hR Z Z
theorem cutP1 (s p : List UInt8) (hs : s.length ≤ 9223372036854775807) (hp : p.length ≤ 9223372036854775807) : zU Tryz.prog 158 [.str s, .str p] (.tup [.str (if zIi s p then s.drop p.length else s), .bool (zIi s p)]) := by
 have h1 := zP1 s p hs hp
 refine zP.value0 (zE (P := Tryz.prog) (fn := Tryz.f158) Z Z (by kernel_rfl) Z (fun c hR hfix => ?_)) (fix := fun _ => False) (fun _ h => h) Z Z
 by_cases h : zIi s p = true
 ·have hle : p.length ≤ s.length := by unfold zIi at h; exact (of_decide_eq_true h).1
  rw [h] at h1 hR
  refine rn0 ?_
  refine zB Z Z Z h1 ?_
  refine rn16 ?_
  refine zL hR Z ?_
  simp only [zBs, Int.toNat_natCast]
  rw [List.take_of_length_le (by simp)]
  rfl
 ·rw [Bool.not_eq_true] at h
  rw [h] at h1 hR
  refine rn0 ?_
  refine zB Z Z Z h1 ?_
  refine rn5 ?_
  exact zL hR Z Z
theorem cutP (s p : List UInt8) (hs : s.length ≤ 9223372036854775807) (hp : p.length ≤ 9223372036854775807) : zU Tryz.prog 77 [.str s, .str p] (.tup [.str (if zIi s p then s.drop p.length else s), .bool (zIi s p)]) := by
 have h1 := cutP1 s p hs hp
 refine zP.value0 (zE (P := Tryz.prog) (fn := Tryz.f77) Z Z (by kernel_rfl) Z (fun c hR hfix => ?_)) (fix := fun _ => False) (fun _ h => h) Z Z
 generalize zIi s p = b at *
 refine rn0 ?_
 refine zB Z Z Z h1 ?_
 refine rn2 ?_
 exact zL hR Z Z
end Go.Proofs.YtkncmbklkhjmgaaGreatDoor
namespace Go.Ax.Rt
open Go.Ax.Bg
open Go.Ax.Tb (zBl zB3 zCj zDB zPc zPb zEk)
def zDc : List UInt8 → Bool
 | c :: _ => decide (c = 45)
 | [] => false
def zEX (s : List UInt8) : List UInt8 := if zDc s then s.drop 1 else s
def zET (s : List UInt8) : List UInt8 := (zDB 47 (zEX s)).1
def zES (s : List UInt8) : List UInt8 := (zDB 47 (zEX s)).2.1
def zGa (s : List UInt8) : Bool := (zDB 47 (zEX s)).2.2
/-- rat.Check -/
def zCe (s : List UInt8) : Int :=
 if zFX (zET s) = false ∨ (zGa s = true ∧ zFX (zES s) = false) ∨ (zDc s = true ∧ zET s = [48]) then 5
 else if 2000 < (zET s).length ∨ 2000 < (zES s).length then 2
 else if zGa s = true ∧ (zES s = [48] ∨ zES s = [49] ∨ Nat.gcd (zA5 0 (zET s)) (zA5 0 (zES s)) ≠ 1) then 3 else 0
def zKE (s : List UInt8) : Nat := if zGa s then zA5 0 (zES s) else 1
def zt (s : List UInt8) : Rat := Rat.divInt (zEm (zDc s) (zA5 0 (zET s))) (zKE s : Nat)
def zn (q : Rat) : List UInt8 := (if q.num < 0 then [45] else []) ++ (Lib.decDigits q.num.natAbs ++ (if q.den = 1 then [] else 47 :: Lib.decDigits q.den))
def zBx (q : Rat) : Bool := decide ((Lib.decDigits q.num.natAbs).length ≤ 2000) && decide ((Lib.decDigits q.den).length ≤ 2000)
def outF (q : Rat) : List UInt8 × Int := if zBx q then (zn q, 0) else ([], 2)
theorem zLP (b : UInt8) : ∀ l : List UInt8, l = (zDB b l).1 ++ (if (zDB b l).2.2 then b :: (zDB b l).2.1 else [])
 | [] => rfl
 | c :: r => by
  rw [zDB]
  split
  ·rename_i h; subst h; simp
  ·have := zLP b r
   simp only [List.cons_append, List.cons.injEq, true_and]
   exact this
structure Parts (s : List UInt8) (q : Rat) : Prop where
 num : q.num = zEm (zDc s) (zA5 0 (zET s))
 den : q.den = zKE s
 cn : zHd (zET s)
 cd : zGa s = true → zHd (zES s) ∧ zA5 0 (zES s) ≠ 0 ∧ zA5 0 (zES s) ≠ 1
 ln : (zET s).length ≤ 2000
 ld : (zES s).length ≤ 2000
 ng : zDc s = true → zA5 0 (zET s) ≠ 0
theorem zMa {s : List UInt8} {n : Nat} (hc : zHd s) (hn : n < 10) (h : zA5 0 s = n) : s = [UInt8.ofNat (48 + n)] := by
 rw [← zFl hc, h, Lib.decDigits_one hn]
theorem zHH {s : List UInt8} (h : zGa s = false) : zKE s = 1 := by unfold zKE; rw [h]; rfl
theorem zFo {s : List UInt8} (h : zGa s = true) : zKE s = zA5 0 (zES s) := by unfold zKE; rw [h]; rfl
theorem zF2 {s : List UInt8} (h : zCe s = 0) : Parts s (zt s) := by
 unfold zCe at h
 split at h
 ·omega
 split at h
 ·omega
 split at h
 ·omega
 rename_i h1 h2 h3
 simp only [not_or, not_and, Bool.not_eq_false] at h1 h2 h3
 obtain ⟨a1, a2, a3⟩ := h1
 have cn := zDw.1 a1
 have cd : zGa s = true → zHd (zES s) ∧ zA5 0 (zES s) ≠ 0 ∧ zA5 0 (zES s) ≠ 1 := fun hd => by
  have c := zDw.1 (a2 hd)
  exact ⟨c, fun e => (h3 hd).1 (zMa c (by decide) e), fun e => (h3 hd).2.1 (zMa c (by decide) e)⟩
 have hd0 : zKE s ≠ 0 := by
  cases e : zGa s
  ·rw [zHH e]; decide
  ·rw [zFo e]; exact (cd e).2.1
 have hg : Nat.gcd (zA5 0 (zET s)) (zKE s) = 1 := by
  cases e : zGa s
  ·rw [zHH e]; exact Nat.gcd_one_right _
  ·rw [zFo e]; exact Classical.not_not.1 (h3 e).2.2
 obtain ⟨e1, e2, e3⟩ := zKJ (zEm (zDc s) (zA5 0 (zET s))) (zKE s) hd0
 rw [zE8, hg, Nat.div_one] at e1
 rw [zE8, hg, Nat.div_one] at e2
 refine ⟨?_, e2, cn, cd, by omega, by omega, fun hn e => a3 hn (zMa cn (by decide) e)⟩
 show (Rat.divInt _ _).num = _
 have := zE8 (zDc s) (zA5 0 (zET s))
 omega
theorem neg_body {s : List UInt8} : s = (if zDc s then [45] else []) ++ zEX s := by
 unfold zEX
 cases s with
 | nil => rfl
 | cons c r =>
  unfold zDc
  by_cases h : c = 45
  ·subst h; rfl
  ·simp [h]
theorem Parts.text {s : List UInt8} {q : Rat} (h : Parts s q) : zn q = s := by
 conv => rhs; rw [neg_body (s := s), zLP 47 (zEX s)]
 change zn q = _ ++ (zET s ++ if zGa s then 47 :: zES s else [])
 unfold zn
 rw [h.num, h.den, zE8, zFl h.cn]
 congr 1
 ·have := zKk (zDc s) (zA5 0 (zET s))
  cases e : zDc s
  ·rw [e] at this; simp at this
   rw [if_neg (by simpa [e] using this)]; rfl
  ·rw [e] at this
   have hn := h.ng e
   simp [hn] at this
   rw [if_pos this]; rfl
 ·congr 1
  cases e : zGa s
  ·rw [zHH e]; rfl
  ·obtain ⟨c, c0, c1⟩ := h.cd e
   rw [zFo e, if_neg c1, zFl c]; rfl
theorem zNX (q : Rat) : zDc (zn q) = decide (q.num < 0) ∧ zEX (zn q) = Lib.decDigits q.num.natAbs ++ (if q.den = 1 then [] else 47 :: Lib.decDigits q.den) := by
 have hne := zCj q.num.natAbs
 have h45 := zEk q.num.natAbs 45 (by decide)
 unfold zEX zn
 by_cases h : q.num < 0
 ·simp [h, zDc]
 ·have : zDc (Lib.decDigits q.num.natAbs ++ (if q.den = 1 then [] else 47 :: Lib.decDigits q.den)) = false := by
   cases e : Lib.decDigits q.num.natAbs with
   | nil => exact absurd e hne
   | cons c r =>
    rw [e] at h45
    have : c ≠ 45 := fun e => h45 (by simp [e])
    simp [zDc, this]
  simp [h, this]
theorem zKD (q : Rat) : zDB 47 (zEX (zn q)) = (Lib.decDigits q.num.natAbs, (if q.den = 1 then [] else Lib.decDigits q.den), decide (q.den ≠ 1)) := by
 rw [(zNX q).2]
 by_cases h : q.den = 1
 ·rw [if_pos h, if_pos h, List.append_nil, zPc (zEk _ 47 (by decide))]
  simp [h]
 ·rw [if_neg h, if_neg h, zPb (zEk _ 47 (by decide))]
  simp [h]
theorem rat_of {q : Rat} (h : zBx q = true) : zCe (zn q) = 0 ∧ zt (zn q) = q := by
 have e1 : zET (zn q) = Lib.decDigits q.num.natAbs := by unfold zET; rw [zKD]
 have e2 : zES (zn q) = if q.den = 1 then [] else Lib.decDigits q.den := by unfold zES; rw [zKD]
 have e3 : zGa (zn q) = decide (q.den ≠ 1) := by unfold zGa; rw [zKD]
 have e4 := (zNX q).1
 unfold zBx at h
 rw [Bool.and_eq_true, decide_eq_true_eq, decide_eq_true_eq] at h
 constructor
 ·unfold zCe
  rw [e1, e2, e3, e4, zBf, zDw.2 (zEf _)]
  have g1 : ¬ (true = false ∨ (decide (q.den ≠ 1) = true ∧ zFX (if q.den = 1 then [] else Lib.decDigits q.den) = false) ∨ (decide (q.num < 0) = true ∧ Lib.decDigits q.num.natAbs = [48])) := by
   rintro (g | ⟨g1, g2⟩ | ⟨g1, g2⟩)
   ·cases g
   ·rw [decide_eq_true_eq] at g1
    rw [if_neg g1, zDw.2 (zEf _)] at g2
    cases g2
   ·rw [decide_eq_true_eq] at g1
    have : q.num.natAbs = 0 := zFZ (by rw [g2, Lib.decDigits_one (by decide)]; rfl)
    omega
  have g2 : ¬ (2000 < (Lib.decDigits q.num.natAbs).length ∨ 2000 < (if q.den = 1 then [] else Lib.decDigits q.den : List UInt8).length) := by
   rintro (g | g)
   ·omega
   ·split at g
    ·simp at g
    ·omega
  have g3 : ¬ (decide (q.den ≠ 1) = true ∧ ((if q.den = 1 then [] else Lib.decDigits q.den) = [48] ∨ (if q.den = 1 then [] else Lib.decDigits q.den) = [49] ∨ Nat.gcd q.num.natAbs (zA5 0 (if q.den = 1 then [] else Lib.decDigits q.den)) ≠ 1)) := by
   rintro ⟨g, g3⟩
   rw [decide_eq_true_eq] at g
   rw [if_neg g] at g3
   rw [zBf] at g3
   rcases g3 with g3 | g3 | g3
   ·have : q.den = 0 := zFZ (by rw [g3, Lib.decDigits_one (by decide)]; rfl)
    exact q.den_nz this
   ·exact g (zFZ (by rw [g3, Lib.decDigits_one (by decide)]; rfl))
   ·exact g3 q.reduced
  rw [if_neg g1, if_neg g2, if_neg g3]
 ·unfold zt
  have e5 : zKE (zn q) = q.den := by
   unfold zKE
   rw [e3, e2]
   by_cases g : q.den = 1
   ·simp [g]
   ·simp [g, zBf]
  rw [e1, e4, e5, zBf, zRK]
  exact Rat.num_divInt_den q
/-- rat.CheckAll -/
def zDO : List (List UInt8) → Int
 | [] => 0
 | s :: r => if zCe s = 0 then zDO r else zCe s
theorem zB2 : ∀ {l : List (List UInt8)}, zDO l = 0 → ∀ s ∈ l, zCe s = 0
 | [], _, s, h => by simp at h
 | a :: r, h, s, hs => by
  rw [zDO] at h
  split at h
  ·rename_i h1
   rcases List.mem_cons.1 hs with e | e
   ·rw [e]; exact h1
   ·exact zB2 h s e
  ·contradiction
theorem zJp : ∀ {l : List (List UInt8)}, (∀ s ∈ l, zCe s = 0) → zDO l = 0
 | [], _ => rfl
 | a :: r, h => by
  rw [zDO, if_pos (h a (by simp))]
  exact zJp (fun s hs => h s (by simp [hs]))
/-- Sums, products and so on of two texts. -/
def zJn (F : Rat → Rat → Rat) (a b : List UInt8) : List UInt8 × Int := if zDO [a, b] = 0 then outF (F (zt a) (zt b)) else ([], zDO [a, b])
def divR (a b : List UInt8) : List UInt8 × Int := if zDO [a, b] = 0 then (if b = [48] then ([], 18) else outF (zt a / zt b)) else ([], zDO [a, b])
def cmpR (a b : List UInt8) : Int × Int := if zDO [a, b] = 0 then (zCG (zt a) (zt b), 0) else (0, zDO [a, b])
def signR (a : List UInt8) : Int × Int := if zCe a = 0 then (sgn (zt a).num, 0) else (0, zCe a)
def zEB (l : List Rat) : List (List UInt8) × Int := if l.all zBx then (l.map zn, 0) else ([], 2)
def zG7 : Rat → List Rat → Rat × Int
 | acc, [] => (acc, 0)
 | acc, q :: r => if zBx (acc + q) then zG7 (acc + q) r else (acc + q, 2)
def zG8 (l : List (List UInt8)) : Rat × Int := if 256 < l.length then (0, 2) else if zDO l = 0 then zG7 0 (l.map zt) else (0, zDO l)
def posE (l : List (List UInt8)) : Int := if (zG8 l).2 = 0 ∧ l.any zDc = true then 4 else (zG8 l).2
def zEL (l : List (List UInt8)) : Int := if posE l = 0 then (if zCG (zG8 l).1 1 = 0 then 0 else 3) else posE l
def bestK (x : List Rat) : Nat → Nat
 | 0 => 0
 | k + 1 => if 0 < zCG (x.getD k 0) (x.getD (bestK x k) 0) then k else bestK x k
def bestR (l : List (List UInt8)) : Int × Int := if 256 < l.length then (0, 2) else if l = [] then (0, 8) else if zDO l = 0 then ((bestK (l.map zt) l.length : Nat), 0) else (0, zDO l)
theorem zPk {q : Rat} (h : zBx q = true) : (zS q.num.natAbs).length ≤ 2000 ∧ (zS q.den).length ≤ 2000 := by
 unfold zBx at h
 rw [Bool.and_eq_true, decide_eq_true_eq, decide_eq_true_eq] at h
 have key : ∀ (n m : Nat), (Lib.decDigits n).length ≤ m → (zS n).length ≤ m := fun n m hl => by
  refine zAc (Nat.lt_of_lt_of_le (zEo n) ?_)
  exact Nat.le_trans (Nat.pow_le_pow_right (by decide) hl) (Nat.pow_le_pow_left (by decide) m)
 exact ⟨key _ _ h.1, key _ _ h.2⟩
end Go.Ax.Rt
namespace Go.Proofs.YtkncmbklkhjmgaaGreatDoor
open Go.Ax Go.Ax.Bg Go.Ax.Rt Go.RowKit
attribute [local irreducible] Ax zBI QOp zP zAl
open Go.Ax.Tb (zDB zKC zM7)
theorem zP0 (s : List UInt8) : zIi s [45] = zDc s := by
 unfold zIi zDc
 cases s with
 | nil => rfl
 | cons c r => simp
theorem zM2 (s : List UInt8) : (zEX s).length ≤ s.length := by
 unfold zEX; split
 ·simp
 ·exact Nat.le_refl _
theorem zQ2 (s : List UInt8) : (zET s).length ≤ s.length ∧ (zES s).length ≤ s.length := by
 have h := zM7 47 (zEX s)
 have h2 := zM2 s
 unfold zET zES
 omega
theorem cutNeg (s : List UInt8) (hs : s.length ≤ 9223372036854775807) : zU Tryz.prog 77 [.str s, .str [45]] (.tup [.str (zEX s), .bool (zDc s)]) := by
 have h := cutP s [45] hs (by decide)
 rw [zP0] at h
 exact h
theorem cutBar (s : List UInt8) (hs : s.length ≤ 9223372036854775807) : zU Tryz.prog 78 [.str (zEX s), .str [47]] (.tup [.str (zET s), .str (zES s), .bool (zGa s)]) :=
 cutS (zEX s) 47 (Nat.le_trans (zM2 s) hs)
theorem zDn (s : List UInt8) (hs : s.length ≤ 9223372036854775807) (h : zCe s = 0) : zU Tryz.prog 70 [.str s] (qA (zt s)) := by
 have hp := zF2 h
 have h1 := cutNeg s (by omega)
 have h2 := cutBar s hs
 have h3 := zJ0 (zET s) hp.cn.2.1 (by have := hp.ln; omega)
 have h4 := zFM (zDc s) (zA5 0 (zET s))
 rw [← hp.num] at h4
 unfold qA
 rw [hp.den]
 cases e : zGa s
 ·rw [e] at h2
  rw [zHH e, zNT]
  refine zP.value0 (zE (P := Tryz.prog) (fn := Tryz.f70) Z Z (by kernel_rfl) Z (fun c hR hfix => ?_)) (fix := fun _ => False) (fun _ h => h) Z Z
  refine rn4 ?_
  refine zB Z Z Z h1 ?_
  refine rn2 ?_
  refine zB Z Z Z h2 ?_
  refine rn2 ?_
  refine zB Z Z Z h3 ?_
  skip
  refine zB Z Z Z h4 ?_
  unfold zA0
  refine rn8 ?_
  refine sa1 (c' := .box [.bool (decide ((zt s).num < 0)), zh (zt s).num.natAbs, .ro (.ints .u32 [1]) 0 1]) Z Z Z Z Z Z Z ?_
  refine rn6 ?_
  refine sa1 (c' := .box [.bool (decide ((zt s).num < 0)), zh (zt s).num.natAbs, .ro (.ints .u32 [1]) 0 1]) Z Z Z Z Z Z Z ?_
  refine rn0 ?_
  exact zL hR Z Z
 ·rw [e] at h2
  rw [zFo e]
  have h5 := zJ0 (zES s) (hp.cd e).1.2.1 (by have := hp.ld; omega)
  refine zP.value0 (zE (P := Tryz.prog) (fn := Tryz.f70) Z Z (by kernel_rfl) Z (fun c hR hfix => ?_)) (fix := fun _ => False) (fun _ h => h) Z Z
  refine rn4 ?_
  refine zB Z Z Z h1 ?_
  refine rn2 ?_
  refine zB Z Z Z h2 ?_
  refine rn2 ?_
  refine zB Z Z Z h3 ?_
  skip
  refine zB Z Z Z h4 ?_
  unfold zA0
  refine rn8 ?_
  refine sa1 (c' := .box [.bool (decide ((zt s).num < 0)), zh (zt s).num.natAbs, .ro (.ints .u32 [1]) 0 1]) Z Z Z Z Z Z Z ?_
  refine rn5 ?_
  refine zB Z Z Z h5 ?_
  refine rn9 ?_
  refine sa1 (c' := .box [.bool (decide ((zt s).num < 0)), zh (zt s).num.natAbs, zh (zA5 0 (zES s))]) Z Z Z Z Z Z Z ?_
  refine rn0 ?_
  exact zL hR Z Z
theorem qtext_ok (q : Rat) (hq : Sz 100000 q) : zU Tryz.prog 152 [qA q] (.str (zn q)) := by
 have h1 := zJ5 q.num.natAbs (by have := hq.1; omega)
 have h2 := one_ok q.den
 have h3 := zJ5 q.den (by have := hq.2; omega)
 unfold zn
 have l1 := zDh hq.1 (by decide)
 have l2 := zDh hq.2 (by decide)
 refine zP.value0 (zE (P := Tryz.prog) (fn := Tryz.f152) Z Z (by kernel_rfl) Z (fun c hR hfix => ?_)) (fix := fun _ => False) (fun _ h => h) Z Z
 by_cases hn : q.num < 0 <;> by_cases hd : q.den = 1
 ·rw [if_pos hn, if_pos hd] at hR
  rw [decide_eq_true hd] at h2
  unfold qA
  rw [decide_eq_true hn]
  refine rn6 ?_
  refine zB Z Z Z h1 ?_
  refine rn5 ?_
  refine zG (zE6 Z Z (by show ([45] : List UInt8).length + _ ≤ _; simp only [List.length_cons, List.length_nil, List.length_append]; omega)) ?_
  refine rn5 ?_
  refine zB Z Z Z h2 ?_
  refine rn5 ?_
  refine zL hR Z ?_
  simp [zBs]
 ·rw [if_pos hn, if_neg hd] at hR
  rw [decide_eq_false hd] at h2
  unfold qA
  rw [decide_eq_true hn]
  refine rn6 ?_
  refine zB Z Z Z h1 ?_
  refine rn5 ?_
  refine zG (zE6 Z Z (by show ([45] : List UInt8).length + _ ≤ _; simp only [List.length_cons, List.length_nil, List.length_append]; omega)) ?_
  refine rn5 ?_
  refine zB Z Z Z h2 ?_
  refine rn5 ?_
  refine zB Z Z Z h3 ?_
  skip
  refine zG (zE6 Z Z (by show ([47] : List UInt8).length + _ ≤ _; simp only [List.length_cons, List.length_nil, List.length_append]; omega)) ?_
  refine zG (zE6 (b := 47 :: Lib.decDigits q.den) Z Z (by simp only [List.length_cons, List.length_nil, List.length_append]; omega)) ?_
  refine rn0 ?_
  refine zL hR Z ?_
  simp [zBs]
 ·rw [if_neg hn, if_pos hd] at hR
  rw [decide_eq_true hd] at h2
  unfold qA
  rw [decide_eq_false hn]
  refine rn6 ?_
  refine zB Z Z Z h1 ?_
  refine rn5 ?_
  refine zB Z Z Z h2 ?_
  refine rn5 ?_
  refine zL hR Z ?_
  simp [zBs]
 ·rw [if_neg hn, if_neg hd] at hR
  rw [decide_eq_false hd] at h2
  unfold qA
  rw [decide_eq_false hn]
  refine rn6 ?_
  refine zB Z Z Z h1 ?_
  refine rn5 ?_
  refine zB Z Z Z h2 ?_
  refine rn5 ?_
  refine zB Z Z Z h3 ?_
  skip
  refine zG (zE6 Z Z (by show ([47] : List UInt8).length + _ ≤ _; simp only [List.length_cons, List.length_nil, List.length_append]; omega)) ?_
  refine zG (zE6 (b := 47 :: Lib.decDigits q.den) Z Z (by simp only [List.length_cons, List.length_nil, List.length_append]; omega)) ?_
  refine rn0 ?_
  refine zL hR Z ?_
  simp [zBs]
end Go.Proofs.YtkncmbklkhjmgaaGreatDoor
namespace Go.Proofs.YtkncmbklkhjmgaaGreatDoor
open Go.Ax Go.Ax.Bg Go.Ax.Rt Go.RowKit
attribute [local irreducible] Ax zBI QOp zP zAl
theorem zPT {n k m : Nat} (h : k < (zS n).length) (hm : m ≤ 9 * k) : m < (Lib.decDigits n).length := by
 rcases Nat.lt_or_ge m (Lib.decDigits n).length with q | q
 ·exact q
 exfalso
 have h1 := zEo n
 have h2 : 10 ^ (Lib.decDigits n).length ≤ 10 ^ (9 * k) := Nat.pow_le_pow_right (by decide) (by omega)
 have h3 : 10 ^ (9 * k) ≤ B ^ k := by rw [Nat.pow_mul]; exact Nat.pow_le_pow_left (by decide) k
 have h4 : ¬ n < B ^ k := fun h5 => by have := zAc h5; omega
 omega
theorem zMP (q : Rat) (hq : Sz 100000 q) : zU Tryz.prog 151 [qA q, .int .i64 2000] (.bool (zBx q)) := by
 have h1 := zJ5 q.num.natAbs (by have := hq.1; omega)
 have h3 := zJ5 q.den (by have := hq.2; omega)
 have l1 := zDh hq.1 (by decide)
 have l2 := zDh hq.2 (by decide)
 have g1 := hq.1
 have g2 := hq.2
 have b1 := @zPT q.num.natAbs 224 2000
 have b2 := @zPT q.den 224 2000
 unfold zBx
 refine zP.value0 (zE (P := Tryz.prog) (fn := Tryz.f151) Z Z (by kernel_rfl) Z (fun c hR hfix => ?_)) (fix := fun _ => False) (fun _ h => h) Z Z
 unfold qA
 unfold zh at h1 h3 ⊢
 refine rn15 ?_
 refine zA Z (fun h0 => ?_) (fun h0 => ?_)
 ·refine rn2 ?_
  refine zL hR Z ?_
  have h5 : 224 < (zS q.num.natAbs).length ∨ 224 < (zS q.den).length := by
   split at h0 <;> omega
  have h6 : ¬ ((Lib.decDigits q.num.natAbs).length ≤ 2000 ∧ (Lib.decDigits q.den).length ≤ 2000) := by
   rcases h5 with h5 | h5
   ·have := b1 h5 (by decide); omega
   ·have := b2 h5 (by decide); omega
  rw [← Bool.decide_and, decide_eq_false h6]
  rfl
 ·refine rn5 ?_
  refine zB Z Z Z h1 ?_
  refine rn8 ?_
  refine zAh Z Z (fun h5 => ?_) (fun h5 => ?_)
  ·refine rn5 ?_
   refine zB Z Z Z h3 ?_
   refine rn8 ?_
   refine zL hR Z ?_
   rw [show decide ((Lib.decDigits q.num.natAbs).length ≤ 2000) = true from decide_eq_true (by omega), Bool.true_and]
   show AV.bool _ = AV.bool _
   rw [show decide (((Lib.decDigits q.den).length : Int) ≤ 2000) = decide ((Lib.decDigits q.den).length ≤ 2000) from by rw [decide_eq_decide]; omega]
  ·refine rn6 ?_
   refine zL hR Z ?_
   rw [show decide ((Lib.decDigits q.num.natAbs).length ≤ 2000) = false from decide_eq_false (by omega), Bool.false_and]
   rfl
theorem zMc (q : Rat) (hq : Sz 100000 q) (h : zBx q = true) : zU Tryz.prog 69 [qA q] (.tup [.str (zn q), .int .i64 0]) := by
 have h1 := zMP q hq
 have h2 := qtext_ok q hq
 rw [h] at h1
 refine zP.value0 (zE (P := Tryz.prog) (fn := Tryz.f69) Z Z (by kernel_rfl) Z (fun c hR hfix => ?_)) (fix := fun _ => False) (fun _ h => h) Z Z
 refine rn6 ?_
 refine zB Z Z Z h1 ?_
 refine rn6 ?_
 refine zB Z Z Z h2 ?_
 refine rn0 ?_
 exact zL hR Z Z
theorem out_no (q : Rat) (hq : Sz 100000 q) (h : zBx q = false) : zU Tryz.prog 69 [qA q] (.tup [.str [], .int .i64 2]) := by
 have h1 := zMP q hq
 rw [h] at h1
 refine zP.value0 (zE (P := Tryz.prog) (fn := Tryz.f69) Z Z (by kernel_rfl) Z (fun c hR hfix => ?_)) (fix := fun _ => False) (fun _ h => h) Z Z
 refine rn6 ?_
 refine zB Z Z Z h1 ?_
 refine rn5 ?_
 exact zL hR Z Z
theorem out_ok (q : Rat) (hq : Sz 100000 q) : zU Tryz.prog 69 [qA q] (zGx (outF q)) := by
 unfold outF
 cases h : zBx q
 ·exact out_no q hq h
 ·exact zMc q hq h
theorem zJK (s : List UInt8) (hs : s.length ≤ 9223372036854775807) : zU Tryz.prog 27 [.str s] (.int .i64 (zCe s)) := by
 have h1 := cutNeg s (by omega)
 have h2 := cutBar s hs
 obtain ⟨ln, ld⟩ := zQ2 s
 have h3 := zLR (zET s) (by omega)
 have h4 := zLR (zES s) (by omega)
 have cn := @zDw (zET s)
 have cd := @zDw (zES s)
 unfold zCe
 generalize zET s = n at *
 generalize zES s = d at *
 generalize zGa s = ok at *
 generalize zDc s = ng at *
 generalize zEX s = b at *
 generalize zFX n = p at *
 generalize zFX d = q at *
 refine zP.value0 (zE (P := Tryz.prog) (fn := Tryz.f27) Z Z (by kernel_rfl) Z (fun c hR hfix => ?_)) (fix := fun _ => False) (fun _ h => h) Z Z
 refine rn0 ?_
 refine zB Z Z Z h1 ?_
 refine rn2 ?_
 refine zB Z Z Z h2 ?_
 refine zBa ?_
 by_cases hsyn : p = false ∨ (ok = true ∧ q = false) ∨ (ng = true ∧ n = [48])
 ·rw [if_pos hsyn] at hR
  cases p
  ·refine rn0 ?_
   refine zB Z Z Z h3 ?_
   refine rn16 ?_
   exact zL hR Z Z
  ·cases ok
   ·obtain ⟨hng, hn⟩ : ng = true ∧ n = [48] := by simpa using hsyn
    subst hng
    subst hn
    refine rn0 ?_
    refine zB Z Z Z h3 ?_
    refine rn6 ?_
    exact zL hR Z Z
   ·cases q
    ·refine rn0 ?_
     refine zB Z Z Z h3 ?_
     refine rn5 ?_
     refine zB Z Z Z h4 ?_
     refine rn16 ?_
     exact zL hR Z Z
    ·obtain ⟨hng, hn⟩ : ng = true ∧ n = [48] := by simpa using hsyn
     subst hng
     subst hn
     refine rn0 ?_
     refine zB Z Z Z h3 ?_
     refine rn5 ?_
     refine zB Z Z Z h4 ?_
     refine rn6 ?_
     exact zL hR Z Z
 rw [if_neg hsyn] at hR
 apply zAJ (H := []) [(5, .str n), (6, .str d), (7, .bool ok)]
 ·intro fin
  cases p
  ·exact absurd (.inl Z) hsyn
  cases ok
  ·cases ng
   ·refine rn0 ?_
    refine zB Z Z Z h3 ?_
    refine zBa ?_
    exact fin _ ⟨Z, Z, Z, trivial⟩
   ·refine rn0 ?_
    refine zB Z Z Z h3 ?_
    refine zBa ?_
    refine zA Z (fun h0 => absurd (.inr (.inr ⟨Z, h0⟩)) hsyn) (fun h0 => ?_)
    refine zBa ?_
    exact fin _ ⟨Z, Z, Z, trivial⟩
  ·cases q
   ·exact absurd (.inr (.inl ⟨Z, Z⟩)) hsyn
   cases ng
   ·refine rn0 ?_
    refine zB Z Z Z h3 ?_
    refine rn5 ?_
    refine zB Z Z Z h4 ?_
    refine zBa ?_
    exact fin _ ⟨Z, Z, Z, trivial⟩
   ·refine rn0 ?_
    refine zB Z Z Z h3 ?_
    refine rn5 ?_
    refine zB Z Z Z h4 ?_
    refine zBa ?_
    refine zA Z (fun h0 => absurd (.inr (.inr ⟨Z, h0⟩)) hsyn) (fun h0 => ?_)
    refine zBa ?_
    exact fin _ ⟨Z, Z, Z, trivial⟩
 by_cases hl : 2000 < n.length ∨ 2000 < d.length
 ·rw [if_pos hl] at hR
  refine rn6 ?_
  refine zAh Z Z (fun h5 => ?_) (fun h5 => ?_)
  ·refine rn6 ?_
   exact zL hR Z Z
  ·refine rn6 ?_
   refine zA Z (fun h0 => ?_) (fun h0 => absurd hl (by omega))
   refine rn2 ?_
   exact zL hR Z Z
 rw [if_neg hl] at hR
 refine rn6 ?_
 refine zAh Z Z (fun h5 => absurd hl (by omega)) (fun h5 => ?_)
 refine rn6 ?_
 refine zA Z (fun h0 => absurd hl (by omega)) (fun h0 => ?_)
 cases ok
 ·rw [if_neg (fun h => Bool.false_ne_true h.1)] at hR
  refine rn14 ?_
  exact zL hR Z Z
 have hp : p = true := by cases p; exact absurd (.inl rfl) hsyn; rfl
 have hq : q = true := by cases q; exact absurd (.inr (.inl ⟨rfl, rfl⟩)) hsyn; rfl
 have c1 := cn.1 hp
 have c2 := cd.1 hq
 have h6 := zJ0 n c1.2.1 (by omega)
 have h7 := zJ0 d c2.2.1 (by omega)
 have v1 : (zS (zA5 0 n)).length ≤ 2000 := zJ6 c1 (by omega)
 have v2 : (zS (zA5 0 d)).length ≤ 2000 := zJ6 c2 (by omega)
 have h8 := zOl (zA5 0 n) (zA5 0 d) (by omega) (by omega)
 have h9 := one_ok (Nat.gcd (zA5 0 n) (zA5 0 d))
 refine rn6 ?_
 refine zAh Z Z (fun h10 => ?_) (fun h10 => ?_)
 ·rw [if_pos ⟨rfl, .inl h10⟩] at hR
  refine rn6 ?_
  exact zL hR Z Z
 ·refine rn6 ?_
  refine zAh Z Z (fun h11 => ?_) (fun h11 => ?_)
  ·rw [if_pos ⟨rfl, .inr (.inl h11)⟩] at hR
   refine rn6 ?_
   exact zL hR Z Z
  ·by_cases hg : Nat.gcd (zA5 0 n) (zA5 0 d) = 1
   ·rw [decide_eq_true hg] at h9
    rw [if_neg (fun h => by rcases h.2 with e | e | e; exact h10 e; exact h11 e; exact e hg)] at hR
    refine rn2 ?_
    refine zB Z Z Z h6 ?_
    refine rn2 ?_
    refine zB Z Z Z h7 ?_
    repeat (refine zBK rfl rfl ?_)
    refine zB Z Z Z h8 ?_
    repeat (refine zBK rfl rfl ?_)
    refine zB Z Z Z h9 ?_
    refine rn5 ?_
    exact zL hR Z Z
   ·rw [decide_eq_false hg] at h9
    rw [if_pos ⟨rfl, .inr (.inr hg)⟩] at hR
    refine rn2 ?_
    refine zB Z Z Z h6 ?_
    refine rn2 ?_
    refine zB Z Z Z h7 ?_
    repeat (refine zBK rfl rfl ?_)
    refine zB Z Z Z h8 ?_
    repeat (refine zBK rfl rfl ?_)
    refine zB Z Z Z h9 ?_
    refine rn5 ?_
    exact zL hR Z Z
theorem zEp {α : Type} {l : List α} {d : α} {k : Nat} (h : k < l.length) : l.drop k = l.getD k d :: l.drop (k + 1) := by
 rw [List.drop_eq_getElem_cons h]; simp [List.getD, h]
theorem zFG (l : List (List UInt8)) (hlen : l.length ≤ 9223372036854775807) (hs : ∀ s ∈ l, s.length ≤ 9223372036854775807) : zU Tryz.prog 73 [.ro (.strs l) 0 l.length] (.int .i64 (zDO l)) := by
 refine zP.value0 (zE (P := Tryz.prog) (fn := Tryz.f73) Z Z (by kernel_rfl) Z (fun c hR hfix => ?_)) (fix := fun _ => False) (fun _ h => h) Z Z
 refine rn3 ?_
 refine ze (ι := Nat) (fun k => [(0, .ro (.strs l) 0 l.length), (6, .ro (.strs l) 0 l.length), (7, iN l.length), (8, iN k)]) (fun _ => [])
  (fun k => k ≤ l.length ∧ zDO l = zDO (l.drop k)) (fun k => l.length - k) 0 ⟨⟨rfl, rfl, rfl, rfl, trivial⟩, rfl, Nat.zero_le _, by rw [List.drop_zero]⟩ ?_
 intro k ⟨hk, hE⟩
 refine rn4 ?_
 refine zA Z (fun h => ?_) (fun h => ?_)
 ·have hk' : k < l.length := by omega
  have hd := zEp (d := []) hk'
  have hc := zJK (l.getD k []) (hs _ (zAN [] hk'))
  rw [hd, zDO] at hE
  refine rn9 ?_
  refine zB Z Z Z hc ?_
  refine rn3 ?_
  refine zA Z (fun h2 => ?_) (fun h2 => ?_)
  ·rw [if_neg h2] at hE
   refine rn6 ?_
   refine zL hR Z ?_
   rw [hE]; rfl
  ·rw [if_pos (Classical.not_not.1 h2)] at hE
   refine rn5 ?_
   refine zK ⟨k + 1, ⟨by omega, hE⟩, by omega, ⟨Z, Z, Z, Z, trivial⟩, Z⟩
 ·have hk' : k = l.length := by omega
  subst hk'
  rw [List.drop_length] at hE
  refine rn5 ?_
  refine zL hR Z ?_
  rw [hE]; rfl
theorem sz_v {s : List UInt8} (h : zCe s = 0) : Sz 2000 (zt s) := by
 have hp := zF2 h
 refine ⟨?_, ?_⟩
 ·rw [hp.num, zE8]; exact zJ6 hp.cn hp.ln
 ·rw [hp.den]
  cases e : zGa s
  ·rw [zHH e, zGt]; decide
  ·rw [zFo e]; exact zJ6 (hp.cd e).1 hp.ld
theorem Sz.mono {j k : Nat} {q : Rat} (h : Sz j q) (hk : j ≤ k) : Sz k q := ⟨Nat.le_trans h.1 hk, Nat.le_trans h.2 hk⟩
theorem zQF {n d : Int} {k : Nat} (hd : d ≠ 0) (h1 : (zS n.natAbs).length ≤ k) (h2 : (zS d.natAbs).length ≤ k) : Sz k (Rat.divInt n d) := by
 obtain ⟨e1, e2, _⟩ := zGG n d hd
 refine ⟨?_, ?_⟩
 ·rw [e1]; exact zFN (Nat.div_le_self _ _) h1
 ·rw [e2]; exact zFN (Nat.div_le_self _ _) h2
theorem zPG {p q : Rat} {k : Nat} (hp : Sz k p) (hq : Sz k q) : Sz (k + k + 1) (p + q) := by
 have l1 : (zS (q.den : Int).natAbs).length ≤ k := hq.2
 have l2 : (zS (p.den : Int).natAbs).length ≤ k := hp.2
 rw [← zJ8]
 refine zQF (by have := Nat.mul_ne_zero p.den_nz q.den_nz; omega) (zNK (zDD hp.1 l1) (zDD hq.1 l2)) ?_
 rw [Int.natAbs_natCast]
 have := zId hp.2 hq.2
 omega
theorem sz_mul {p q : Rat} {k : Nat} (hp : Sz k p) (hq : Sz k q) : Sz (k + k + 1) (p * q) := by
 rw [← zKO]
 refine zQF (by have := Nat.mul_ne_zero p.den_nz q.den_nz; omega) (by have := zDD hp.1 hq.1; omega) ?_
 rw [Int.natAbs_natCast]
 have := zId hp.2 hq.2
 omega
theorem zP8 (a b : List UInt8) (ha : a.length ≤ 9223372036854775807) (hb : b.length ≤ 9223372036854775807) (g : FuncId) (F : Rat → Rat → Rat) (hF : zDO [a, b] = 0 → zU Tryz.prog g [qA (zt a), qA (zt b)] (qA (F (zt a) (zt b))) ∧ Sz 100000 (F (zt a) (zt b))) : zU Tryz.prog 126 [.str a, .str b, .fn g []] (zGx (zJn F a b)) := by
 have h1 := zFG [a, b] (by show 2 ≤ _; decide) (by intro s hs; simp at hs; rcases hs with rfl | rfl <;> assumption)
 unfold zJn
 by_cases hE : zDO [a, b] = 0
 ·obtain ⟨h2, hz⟩ := hF hE
  rw [if_pos hE]
  rw [hE] at h1
  have ea := zB2 hE a (by simp)
  have eb := zB2 hE b (by simp)
  have h3 := zDn a ha ea
  have h4 := zDn b hb eb
  have h5 := out_ok _ hz
  refine zP.value0 (zE (P := Tryz.prog) (fn := Tryz.f126) Z Z (by kernel_rfl) Z (fun c hR hfix => ?_)) (fix := fun _ => False) (fun _ h => h) Z Z
  generalize outF (F (zt a) (zt b)) = r at *
  unfold zGx at *
  refine rn3 ?_
  refine zB Z Z Z h1 ?_
  refine rn4 ?_
  refine zB Z Z Z h3 ?_
  repeat (refine zG (zJ rfl) ?_)
  refine zB Z Z Z h4 ?_
  skip
  refine zB Z Z Z h2 ?_
  skip
  refine zB Z Z Z h5 ?_
  refine rn2 ?_
  exact zL hR Z Z
 ·rw [if_neg hE]
  generalize zDO [a, b] = e at *
  refine zP.value0 (zE (P := Tryz.prog) (fn := Tryz.f126) Z Z (by kernel_rfl) Z (fun c hR hfix => ?_)) (fix := fun _ => False) (fun _ h => h) Z Z
  refine rn3 ?_
  refine zB Z Z Z h1 ?_
  refine rn3 ?_
  refine zA Z (fun h2 => ?_) (fun h2 => absurd hE h2)
  refine rn2 ?_
  exact zL hR Z Z
theorem radd_ok (a b : List UInt8) (ha : a.length ≤ 9223372036854775807) (hb : b.length ≤ 9223372036854775807) : zU Tryz.prog 83 [.str a, .str b] (zGx (zJn (fun x y => x + y) a b)) := by
 have h1 := zP8 a b ha hb 148 (fun x y => x + y) (fun hE => by
  have za := sz_v (zB2 hE a (by simp))
  have zb := sz_v (zB2 hE b (by simp))
  exact ⟨zIn _ _ (za.mono (by decide)) (zb.mono (by decide)), (zPG za zb).mono (by decide)⟩)
 refine zP.value0 (zE (P := Tryz.prog) (fn := Tryz.f83) Z Z (by kernel_rfl) Z (fun c hR hfix => ?_)) (fix := fun _ => False) (fun _ h => h) Z Z
 generalize zJn (fun x y => x + y) a b = r at *
 unfold zGx at *
 refine rn0 ?_
 refine zB Z Z Z h1 ?_
 refine rn2 ?_
 exact zL hR Z Z
theorem rmul_ok (a b : List UInt8) (ha : a.length ≤ 9223372036854775807) (hb : b.length ≤ 9223372036854775807) : zU Tryz.prog 43 [.str a, .str b] (zGx (zJn (fun x y => x * y) a b)) := by
 have h1 := zP8 a b ha hb 127 (fun x y => x * y) (fun hE => by
  have za := sz_v (zB2 hE a (by simp))
  have zb := sz_v (zB2 hE b (by simp))
  exact ⟨zMg _ _ (za.mono (by decide)) (zb.mono (by decide)), (sz_mul za zb).mono (by decide)⟩)
 refine zP.value0 (zE (P := Tryz.prog) (fn := Tryz.f43) Z Z (by kernel_rfl) Z (fun c hR hfix => ?_)) (fix := fun _ => False) (fun _ h => h) Z Z
 generalize zJn (fun x y => x * y) a b = r at *
 unfold zGx at *
 refine rn0 ?_
 refine zB Z Z Z h1 ?_
 refine rn2 ?_
 exact zL hR Z Z
theorem rcmp_ok (a b : List UInt8) (ha : a.length ≤ 9223372036854775807) (hb : b.length ≤ 9223372036854775807) : zU Tryz.prog 21 [.str a, .str b] (.tup [.int .i64 (cmpR a b).1, .int .i64 (cmpR a b).2]) := by
 have h1 := zFG [a, b] (by show 2 ≤ _; decide) (by intro s hs; simp at hs; rcases hs with rfl | rfl <;> assumption)
 unfold cmpR
 by_cases hE : zDO [a, b] = 0
 ·rw [if_pos hE]
  rw [hE] at h1
  have ea := zB2 hE a (by simp)
  have eb := zB2 hE b (by simp)
  have h3 := zDn a ha ea
  have h4 := zDn b hb eb
  have h5 := zFQ _ _ ((sz_v ea).mono (by decide)) ((sz_v eb).mono (by decide))
  refine zP.value0 (zE (P := Tryz.prog) (fn := Tryz.f21) Z Z (by kernel_rfl) Z (fun c hR hfix => ?_)) (fix := fun _ => False) (fun _ h => h) Z Z
  refine rn3 ?_
  refine zB Z Z Z h1 ?_
  refine rn4 ?_
  refine zB Z Z Z h3 ?_
  repeat (refine zG (zJ rfl) ?_)
  refine zB Z Z Z h4 ?_
  skip
  refine zB Z Z Z h5 ?_
  refine rn0 ?_
  exact zL hR Z Z
 ·rw [if_neg hE]
  generalize zDO [a, b] = e at *
  refine zP.value0 (zE (P := Tryz.prog) (fn := Tryz.f21) Z Z (by kernel_rfl) Z (fun c hR hfix => ?_)) (fix := fun _ => False) (fun _ h => h) Z Z
  refine rn3 ?_
  refine zB Z Z Z h1 ?_
  refine rn3 ?_
  refine zA Z (fun h2 => ?_) (fun h2 => absurd hE h2)
  refine rn2 ?_
  exact zL hR Z Z
theorem rsign_ok (a : List UInt8) (ha : a.length ≤ 9223372036854775807) : zU Tryz.prog 26 [.str a] (.tup [.int .i64 (signR a).1, .int .i64 (signR a).2]) := by
 have h1 := zJK a ha
 unfold signR
 by_cases hE : zCe a = 0
 ·rw [if_pos hE]
  have h3 := zDn a ha hE
  rw [hE] at h1
  have h5 := zIo (zt a)
  refine zP.value0 (zE (P := Tryz.prog) (fn := Tryz.f26) Z Z (by kernel_rfl) Z (fun c hR hfix => ?_)) (fix := fun _ => False) (fun _ h => h) Z Z
  refine rn0 ?_
  refine zB Z Z Z h1 ?_
  refine rn4 ?_
  refine zB Z Z Z h3 ?_
  skip
  refine zB Z Z Z h5 ?_
  refine rn0 ?_
  exact zL hR Z Z
 ·rw [if_neg hE]
  generalize zCe a = e at *
  refine zP.value0 (zE (P := Tryz.prog) (fn := Tryz.f26) Z Z (by kernel_rfl) Z (fun c hR hfix => ?_)) (fix := fun _ => False) (fun _ h => h) Z Z
  refine rn0 ?_
  refine zB Z Z Z h1 ?_
  refine rn3 ?_
  refine zA Z (fun h2 => ?_) (fun h2 => absurd hE h2)
  refine rn2 ?_
  exact zL hR Z Z
section
variable {α : Type}
theorem zNq (d : α) (n : Nat) (e : α → List AV) (ls : List α) (s : α) (cx : Cells) (h0 : ∀ j, j < n → cx.at 0 j = (e s).getD j .any) (i j : Nat) (hi : i < ls.length + 1) (hj : j < n) :
 (bif Nat.blt i ls.length then (rowE d n e ls).at i j else cx.at (0 + (i - ls.length)) j) = (rowE d n e (ls ++ [s])).at i j := by
 rcases Nat.lt_or_ge i ls.length with h | h
 ·have e1 : Nat.blt i ls.length = true := by rw [Nat.blt_eq]; exact h
  rw [e1]
  simp only [rowE, Cells.at, cond_true, List.getD, List.getElem?_append_left h]
 ·have hie : i = ls.length := by omega
  have e1 : Nat.blt i ls.length = false := by rw [← Bool.not_eq_true, Nat.blt_eq]; omega
  subst hie
  rw [e1]
  simp only [cond_false, Nat.sub_self, Nat.zero_add]
  rw [h0 j hj]
  simp [rowE, Cells.at, List.getD]
theorem zAX (d : α) (n : Nat) (e : α → List AV) (ls : List α) (s : α) (cx : Cells) (h0 : ∀ j, j < n → cx.at 0 j = (e s).getD j .any) :
 CEq (.fn (ls.length + 1) n (fun i j => bif Nat.blt i ls.length then (rowE d n e ls).at i j else cx.at (0 + (i - ls.length)) j)) (rowE d n e (ls ++ [s])) := by
 refine ⟨by simp [rowE, Cells.len], Z, fun i j hi hj => ?_⟩
 exact (zNq d n e ls s cx h0 i j hi hj).symm
theorem zAM (d : α) (n : Nat) (e : α → List AV) (hn : ∀ a j h, j < n → ((e a).getD j .any).forget h = (e a).getD j .any) (ls : List α) (s : α) (cx : Cells) (h0 : ∀ j, j < n → cx.at 0 j = (e s).getD j .any) (h i j : Nat) (hi : i < ls.length + 1) (hj : j < n) :
 (bif Nat.blt i ls.length then (rowE d n e ls).at i j else cx.at (0 + (i - ls.length)) j).forget h = (bif Nat.blt i ls.length then (rowE d n e ls).at i j else cx.at (0 + (i - ls.length)) j) := by
 rw [zNq d n e ls s cx h0 i j hi hj]; exact hn _ _ _ hj
theorem zCl {β : Type} (f : α → β) (l : List α) (d : α) (k : Nat) (hk : k < l.length) : (l.take (k + 1)).map f = (l.take k).map f ++ [f (l.getD k d)] := by
 rw [List.take_succ_eq_append_getElem hk, List.map_append]; simp [List.getD, hk]
end
def zT (q : Rat) : List AV := [.bool (decide (q.num < 0)), zh q.num.natAbs, zh q.den]
abbrev qsC (l : List Rat) : Cells := rowE 0 3 zT l
theorem zAe (q : Rat) (j h : Nat) (hj : j < 3) : ((zT q).getD j .any).forget h = (zT q).getD j .any := by
 match j, hj with
 | 0, _ => rfl
 | 1, _ => rfl
 | 2, _ => rfl
theorem zAw (l : List Rat) : zAb (qsC l) := by
 intro i j _ hj
 show noRef ((zT (l.getD i 0)).getD j .any) = true
 have hj : j < 3 := hj
 match j, hj with
 | 0, _ => rfl
 | 1, _ => rfl
 | 2, _ => rfl
theorem zCg (q : Rat) (j : Nat) (hj : j < 3) : (zBp 1 3 [.bool (decide (q.num < 0)), zh q.num.natAbs, zh q.den]).at 0 j = (zT q).getD j .any := by
 match j, hj with
 | 0, _ => rfl
 | 1, _ => rfl
 | 2, _ => rfl
theorem in_ok (l : List (List UInt8)) (hlen : l.length ≤ 1000000) (hs : ∀ s ∈ l, s.length ≤ 9223372036854775807 ∧ zCe s = 0) : zU Tryz.prog 67 [.ro (.strs l) 0 l.length] (.ro (qsC (l.map zt)) 0 l.length) := by
 refine zP.value0 (zE (P := Tryz.prog) (fn := Tryz.f67) Z Z (by kernel_rfl) Z (fun c hR hfix => ?_)) (fix := fun _ => False) (fun _ h => h) Z Z
 refine rn8 ?_
 refine zAo 3 ⟨104, qsC []⟩ Z Z ?_
 repeat (refine zAF ?_)
 refine ze (ι := Nat) (fun k => [(0, .ro (.strs l) 0 l.length), (3, .sl 0 0 k), (6, .ro (.strs l) 0 l.length), (7, iN l.length), (8, iN k)]) (fun k => [some ⟨104, qsC ((l.take k).map zt)⟩])
  (fun k => k ≤ l.length) (fun k => l.length - k) 0 ⟨⟨rfl, rfl, rfl, rfl, rfl, trivial⟩, rfl, Nat.zero_le _⟩ ?_
 intro k hk
 refine rn4 ?_
 refine zA Z (fun h => ?_) (fun h => ?_)
 ·have hk' : k < l.length := by omega
  obtain ⟨b1, b2⟩ := hs _ (zAN [] hk')
  have hc := zDn (l.getD k []) b1 b2
  have htk := zCl zt l [] k hk'
  have hml : ((l.take k).map zt).length = k := by rw [List.length_map, List.length_take]; omega
  generalize (l.take k).map zt = qs at *
  refine rn9 ?_
  refine zB Z Z Z hc ?_
  unfold qA
  repeat (refine zf rfl rfl rfl rfl rfl rfl rfl rfl rfl rfl rfl ?_)
  refine zr Z Z Z Z Z Z Z Z Z hml Z Z (by show 0 + 1 ≤ 1; omega) Z (by show (k + 1) * 56 ≤ _ ∧ _; omega) ?_ (by rw [hfix]; exact fun h => h) ?_
  ·intro i' j hi hj
   exact zAM 0 3 zT zAe qs (zt (l.getD k [])) _ (zCg _) 0 i' j hi hj
  refine zEO ?_
  refine zI ?_
  refine zBi [some ⟨104, qsC ((l.take (k + 1)).map zt)⟩] ?_ ?_
  ·rw [htk]
   exact zQ.eqv (zAX 0 3 zT qs (zt (l.getD k [])) _ (zCg _)) zQ.nil
  refine rn3 ?_
  exact zK ⟨k + 1, by omega, by omega, ⟨Z, Z, Z, Z, Z, trivial⟩, Z⟩
 ·have hk' : k = l.length := by omega
  subst hk'
  rw [List.take_length]
  refine zHb ?_
  refine zAd 0 3 l.length [] Z (zAw _) Z (by show _ ≤ (l.map zt).length; rw [List.length_map]; exact Nat.le_refl _) trivial ?_
  refine rn0 ?_
  exact zL hR Z Z
end Go.Proofs.YtkncmbklkhjmgaaGreatDoor
namespace Go.Proofs.YtkncmbklkhjmgaaGreatDoor
open Go.Ax Go.Ax.Bg Go.Ax.Rt Go.RowKit
attribute [local irreducible] Ax zBI QOp zP zAl
open Go.Ax.Idx Go.Ax.Cd
theorem zOq (l : List (List UInt8)) (g : FuncId) (caps : List AV) (p : List UInt8 → Bool) (hc : noRef.noRefs caps = true) (hlen : l.length ≤ 9223372036854775807) (hp : ∀ x ∈ l, zU Tryz.prog g ([.str x] ++ caps) (.bool (p x))) :
 zU Tryz.prog 189 [.ro (.strs l) 0 l.length, .fn g caps] (.int .i64 (idxF p l)) := by
 refine zP.value0 (zE (P := Tryz.prog) (fn := Tryz.f189) Z Z (by kernel_rfl) Z (fun c hR hfix => ?_)) (fix := fun _ => False) (fun _ h => h) (by simp [noRef.noRefs, noRef, hc]) Z
 refine rn3 ?_
 refine ze (ι := Nat) (fun k => [(0, .ro (.strs l) 0 l.length), (1, .fn g caps), (7, iN l.length), (8, iN k)]) (fun _ => [])
  (fun k => k ≤ l.length ∧ (l.take k).any p = false) (fun k => l.length - k) 0 ⟨⟨rfl, rfl, rfl, rfl, trivial⟩, rfl, Nat.zero_le _, rfl⟩ ?_
 intro k ⟨hk, hany⟩
 refine rn4 ?_
 refine zA Z (fun h => ?_) (fun h => ?_)
 ·have hk' : k < l.length := by omega
  have hanys := zC7 p l [] k hk'
  refine rn9 ?_
  refine zB Z Z Z (hp _ (zAN [] hk')) ?_
  refine rn0 ?_
  refine zEd Z (fun h2 => ?_) (fun h2 => ?_)
  ·refine rn6 ?_
   refine zL hR Z ?_
   have := idxF_take p l k hany hk
   rw [zCk l [] k hk'] at this
   simp only [idxF, h2, if_true] at this
   rw [this]; simp [zBs]
  ·refine rn5 ?_
   refine zK ⟨k + 1, ⟨by omega, by rw [hanys, hany, h2]; rfl⟩, by omega, ⟨Z, Z, Z, Z, trivial⟩, Z⟩
 ·have hk' : k = l.length := by omega
  subst hk'
  refine rn5 ?_
  refine zL hR Z ?_
  have := idxF_take p l l.length hany hk
  rw [List.drop_length] at this
  rw [this]; rfl
theorem zQT (l : List (List UInt8)) (g : FuncId) (caps : List AV) (p : List UInt8 → Bool) (hc : noRef.noRefs caps = true) (hlen : l.length ≤ 9223372036854775807) (hp : ∀ x ∈ l, zU Tryz.prog g ([.str x] ++ caps) (.bool (p x))) :
 zU Tryz.prog 116 [.ro (.strs l) 0 l.length, .fn g caps] (.bool (l.any p)) := by
 refine zP.value0 (zE (P := Tryz.prog) (fn := Tryz.f116) Z Z (by kernel_rfl) Z (fun c hR hfix => ?_)) (fix := fun _ => False) (fun _ h => h) (by simp [noRef.noRefs, noRef, hc]) Z
 refine rn0 ?_
 refine zB Z Z Z (zOq l g caps p hc hlen hp) ?_
 refine rn8 ?_
 refine zL hR Z ?_
 simp only [zBs, zIb]
theorem ratNeg1 (s : List UInt8) (hs : s.length ≤ 9223372036854775807) : zU Tryz.prog 253 [.str s] (.bool (zDc s)) := by
 have h1 := zJy s [45] hs (by decide)
 rw [zP0] at h1
 refine zP.value0 (zE (P := Tryz.prog) (fn := Tryz.f253) Z Z (by kernel_rfl) Z (fun c hR hfix => ?_)) (fix := fun _ => False) (fun _ h => h) Z Z
 refine rn0 ?_
 refine zB Z Z Z h1 ?_
 refine rn0 ?_
 exact zL hR Z Z
theorem zOy (l : List Rat) (hlen : l.length ≤ 1000000) (hs : ∀ q ∈ l, Sz 100000 q) (hall : l.all zBx = true) : zU Tryz.prog 63 [.ro (qsC l) 0 l.length] (.tup [.ro (.strs (l.map zn)) 0 l.length, .int .i64 0]) := by
 refine zP.value0 (zE (P := Tryz.prog) (fn := Tryz.f63) Z Z (by kernel_rfl) Z (fun c hR hfix => ?_)) (fix := fun _ => False) (fun _ h => h) Z Z
 refine rn8 ?_
 refine zAo 4 ⟨26, .strs []⟩ Z Z ?_
 repeat (refine zAF ?_)
 refine ze (ι := Nat) (fun k => [(0, .ro (qsC l) 0 l.length), (4, .sl 0 0 k), (9, .ro (qsC l) 0 l.length), (10, iN l.length), (11, iN k)]) (fun k => [some ⟨26, .strs ((l.take k).map zn)⟩])
  (fun k => k ≤ l.length ∧ (l.drop k).all zBx = true) (fun k => l.length - k) 0 ⟨⟨rfl, rfl, rfl, rfl, rfl, trivial⟩, rfl, Nat.zero_le _, hall⟩ ?_
 rintro k ⟨hk, hA⟩
 refine rn4 ?_
 refine zA Z (fun h => ?_) (fun h => ?_)
 ·have hk' : k < l.length := by omega
  have hz := hs _ (zAN 0 hk')
  have hd := zEp (d := (0 : Rat)) hk'
  rw [hd, List.all_cons] at hA
  have htk := zCl zn l 0 k hk'
  have hml : ((l.take k).map zn).length = k := by rw [List.length_map, List.length_take]; omega
  generalize hX : (l.take k).map zn = ts at *
  refine rn6 ?_
  refine zD 14 (.agg (zT (l.getD k 0))) Z (AEq.of_eq Z) ?_
  generalize l.getD k 0 = q at *
  refine sa1 (c' := .box (zT q)) Z Z Z Z Z Z Z ?_
  rw [Bool.and_eq_true] at hA
  have hc := zMc q hz hA.1
  refine rn6 ?_
  refine zB Z Z Z hc ?_
  refine rn4 ?_
  refine zr Z Z Z Z Z Z Z Z Z hml Z Z (by show 0 + 1 ≤ 1; omega) Z (by show (k + 1) * 16 ≤ _ ∧ _; omega) (fun i j _ _ => rfl) (by rw [hfix]; exact fun h => h) ?_
  refine zEO ?_
  refine zI ?_
  refine zBi ([some ⟨26, .strs ((l.take (k + 1)).map zn)⟩] ++ [none]) ?_ ?_
  ·rw [htk]
   exact zQ.eqv (CEq.refl _) (zQ.drop zQ.nil)
  refine zEe (H1 := [some ⟨26, .strs ((l.take (k + 1)).map zn)⟩]) Z (by rw [hfix]; exact fun h => h) ?_
  refine rn3 ?_
  exact zK ⟨k + 1, ⟨by omega, hA.2⟩, by omega, ⟨Z, Z, Z, Z, Z, trivial⟩, Z⟩
 ·have hk' : k = l.length := by omega
  subst hk'
  rw [List.take_length]
  refine zHb ?_
  refine zAd 0 4 l.length [] Z (fun _ _ _ _ => rfl) Z (by show _ ≤ (l.map zn).length; rw [List.length_map]; exact Nat.le_refl _) trivial ?_
  refine rn0 ?_
  exact zL hR Z Z
theorem zQz (l : List Rat) (hlen : l.length ≤ 1000000) (hs : ∀ q ∈ l, Sz 100000 q) (hall : l.all zBx = false) : zU Tryz.prog 63 [.ro (qsC l) 0 l.length] (.tup [.nil, .int .i64 2]) := by
 refine zP.value0 (zE (P := Tryz.prog) (fn := Tryz.f63) Z Z (by kernel_rfl) Z (fun c hR hfix => ?_)) (fix := fun _ => False) (fun _ h => h) Z Z
 refine rn8 ?_
 refine zAo 4 ⟨26, .strs []⟩ Z Z ?_
 repeat (refine zAF ?_)
 refine ze (ι := Nat) (fun k => [(0, .ro (qsC l) 0 l.length), (4, .sl 0 0 k), (9, .ro (qsC l) 0 l.length), (10, iN l.length), (11, iN k)]) (fun k => [some ⟨26, .strs ((l.take k).map zn)⟩])
  (fun k => k ≤ l.length ∧ (l.drop k).all zBx = false) (fun k => l.length - k) 0 ⟨⟨rfl, rfl, rfl, rfl, rfl, trivial⟩, rfl, Nat.zero_le _, hall⟩ ?_
 rintro k ⟨hk, hA⟩
 refine rn4 ?_
 refine zA Z (fun h => ?_) (fun h => ?_)
 ·have hk' : k < l.length := by omega
  have hz := hs _ (zAN 0 hk')
  have hd := zEp (d := (0 : Rat)) hk'
  rw [hd, List.all_cons] at hA
  have htk := zCl zn l 0 k hk'
  have hml : ((l.take k).map zn).length = k := by rw [List.length_map, List.length_take]; omega
  generalize hX : (l.take k).map zn = ts at *
  refine rn6 ?_
  refine zD 14 (.agg (zT (l.getD k 0))) Z (AEq.of_eq Z) ?_
  generalize l.getD k 0 = q at *
  refine sa1 (c' := .box (zT q)) Z Z Z Z Z Z Z ?_
  cases hf : zBx q
  ·have hc := out_no q hz hf
   refine rn6 ?_
   refine zB Z Z Z hc ?_
   refine rn6 ?_
   exact zL hR Z Z
  ·have hc := zMc q hz hf
   rw [hf, Bool.true_and] at hA
   refine rn6 ?_
   refine zB Z Z Z hc ?_
   refine rn4 ?_
   refine zr Z Z Z Z Z Z Z Z Z hml Z Z (by show 0 + 1 ≤ 1; omega) Z (by show (k + 1) * 16 ≤ _ ∧ _; omega) (fun i j _ _ => rfl) (by rw [hfix]; exact fun h => h) ?_
   refine zEO ?_
   refine zI ?_
   refine zBi ([some ⟨26, .strs ((l.take (k + 1)).map zn)⟩] ++ [none]) ?_ ?_
   ·rw [htk]
    exact zQ.eqv (CEq.refl _) (zQ.drop zQ.nil)
   refine zEe (H1 := [some ⟨26, .strs ((l.take (k + 1)).map zn)⟩]) Z (by rw [hfix]; exact fun h => h) ?_
   refine rn3 ?_
   exact zK ⟨k + 1, ⟨by omega, hA⟩, by omega, ⟨Z, Z, Z, Z, Z, trivial⟩, Z⟩
 ·have hk' : k = l.length := by omega
  subst hk'
  rw [List.drop_length] at hA
  exact absurd hA (by decide)
end Go.Proofs.YtkncmbklkhjmgaaGreatDoor
namespace Go.Proofs.YtkncmbklkhjmgaaGreatDoor
open Go.Ax Go.Ax.Bg Go.Ax.Rt Go.RowKit
attribute [local irreducible] Ax zBI QOp zP zAl
theorem zHQ : zU Tryz.prog 140 [.int .i64 0] (qA 0) := qof_ok 0 (by decide)
theorem zCK : zU Tryz.prog 140 [.int .i64 1] (qA 1) := qof_ok 1 (by decide)
theorem sz_zero : Sz 2000 0 := by
 refine ⟨?_, ?_⟩
 ·show (zS 0).length ≤ 2000; rw [zBm]; decide
 ·show (zS 1).length ≤ 2000; rw [zGt]; decide
theorem sum_ok (l : List (List UInt8)) (hlen : l.length ≤ 9223372036854775807) (hs : ∀ s ∈ l, s.length ≤ 9223372036854775807) : zU Tryz.prog 252 [.ro (.strs l) 0 l.length] (.tup [qA (zG8 l).1, .int .i64 (zG8 l).2]) := by
 unfold zG8
 have h1 := zFG l hlen hs
 by_cases hl : 256 < l.length
 ·rw [if_pos hl]
  refine zP.value0 (zE (P := Tryz.prog) (fn := Tryz.f252) Z Z (by kernel_rfl) Z (fun c hR hfix => ?_)) (fix := fun _ => False) (fun _ h => h) Z Z
  refine rn4 ?_
  refine zB Z Z Z zHQ ?_
  repeat (refine zBC rfl rfl rfl ?_)
  refine sa1 (c' := .box (zT 0)) Z Z Z Z Z Z Z ?_
  refine rn6 ?_
  refine zA Z (fun h0 => ?_) (fun h0 => absurd hl (by omega))
  refine rn6 ?_
  refine sa1 (c' := .box (zT 0)) Z Z Z Z Z Z Z ?_
  refine rn2 ?_
  exact zL hR Z Z
 rw [if_neg hl]
 by_cases hE : zDO l = 0
 ·rw [if_pos hE]
  rw [hE] at h1
  have h2 := in_ok l (by omega) (fun s hm => ⟨hs s hm, zB2 hE s hm⟩)
  have hz : ∀ q ∈ l.map zt, Sz 2000 q := fun q hq => by
   obtain ⟨s, h3, rfl⟩ := List.mem_map.1 hq
   exact sz_v (zB2 hE s h3)
  have hml : (l.map zt).length = l.length := List.length_map _
  generalize l.map zt = qs at *
  refine zP.value0 (zE (P := Tryz.prog) (fn := Tryz.f252) Z Z (by kernel_rfl) Z (fun c hR hfix => ?_)) (fix := fun _ => False) (fun _ h => h) Z Z
  refine rn4 ?_
  refine zB Z Z Z zHQ ?_
  repeat (refine zBC rfl rfl rfl ?_)
  refine sa1 (c' := .box (zT 0)) Z Z Z Z Z Z Z ?_
  refine rn6 ?_
  refine zA Z (fun h0 => absurd hl (by omega)) (fun h0 => ?_)
  refine rn1 ?_
  refine zB Z Z Z h1 ?_
  refine rn4 ?_
  refine zB Z Z Z h2 ?_
  refine rn3 ?_
  refine ze (ι := Nat × Rat) (fun p => [(2, .ptr 0 0 0), (4, .ptr 1 0 0), (20, .ro (qsC qs) 0 l.length), (21, iN l.length), (22, iN p.1)]) (fun p => [some ⟨104, .box [.bool false, .nil, .nil]⟩, some ⟨104, .box (zT p.2)⟩])
   (fun p => p.1 ≤ l.length ∧ zG7 0 qs = zG7 p.2 (qs.drop p.1) ∧ Sz 2000 p.2) (fun p => l.length - p.1) (0, 0) ⟨⟨rfl, rfl, rfl, rfl, rfl, trivial⟩, rfl, Nat.zero_le _, rfl, sz_zero⟩ ?_
  rintro ⟨k, acc⟩ ⟨hk, hS, hA⟩
  simp only at *
  refine rn4 ?_
  refine zA Z (fun h => ?_) (fun h => ?_)
  ·have hk' : k < qs.length := by omega
   have hq := hz _ (zAN 0 hk')
   have hd := zEp (d := (0 : Rat)) hk'
   rw [hd, zG7] at hS
   refine rn6 ?_
   refine zD 25 (.agg (zT (qs.getD k 0))) Z (AEq.of_eq Z) ?_
   generalize qs.getD k 0 = q at *
   have hc := zIn acc q (hA.mono (by decide)) (hq.mono (by decide))
   have hf := zMP (acc + q) ((zPG hA hq).mono (by decide))
   refine sa1 (c' := .box (zT q)) Z Z Z Z Z Z Z ?_
   refine rn6 ?_
   refine zB Z Z Z hc ?_
   skip
   refine sa1 (c' := .box (zT (acc + q))) Z Z Z Z Z Z Z ?_
   refine rn6 ?_
   refine zB Z Z Z hf ?_
   cases hb : zBx (acc + q)
   ·rw [hb, if_neg Bool.false_ne_true] at hS
    rw [hS] at hR
    refine rn6 ?_
    refine sa1 (c' := .box (zT (acc + q))) Z Z Z Z Z Z Z ?_
    refine rn6 ?_
    exact zL hR Z Z
   ·rw [hb, if_pos rfl] at hS
    refine zEO ?_
    refine zI ?_
    refine zBi ([some ⟨104, .box [.bool false, .nil, .nil]⟩, some ⟨104, .box (zT (acc + q))⟩] ++ [none]) ?_ ?_
    ·exact zQ.eqv (CEq.refl _) (zQ.eqv (CEq.refl _) (zQ.drop zQ.nil))
    refine zEe (H1 := [some ⟨104, .box [.bool false, .nil, .nil]⟩, some ⟨104, .box (zT (acc + q))⟩]) Z (by rw [hfix]; exact fun h => h) ?_
    refine rn5 ?_
    exact zK ⟨(k + 1, acc + q), ⟨by simp only; omega, hS, zPk hb⟩, by simp only; omega, ⟨Z, Z, Z, Z, Z, trivial⟩, Z⟩
  ·have hk' : k = l.length := by omega
   subst hk'
   rw [← hml, List.drop_length, zG7] at hS
   rw [hS] at hR
   refine rn6 ?_
   refine sa1 (c' := .box (zT acc)) Z Z Z Z Z Z Z ?_
   refine rn0 ?_
   exact zL hR Z Z
 ·rw [if_neg hE]
  generalize zDO l = e at *
  refine zP.value0 (zE (P := Tryz.prog) (fn := Tryz.f252) Z Z (by kernel_rfl) Z (fun c hR hfix => ?_)) (fix := fun _ => False) (fun _ h => h) Z Z
  refine rn4 ?_
  refine zB Z Z Z zHQ ?_
  repeat (refine zBC rfl rfl rfl ?_)
  refine sa1 (c' := .box (zT 0)) Z Z Z Z Z Z Z ?_
  refine rn6 ?_
  refine zA Z (fun h0 => absurd hl (by omega)) (fun h0 => ?_)
  refine rn1 ?_
  refine zB Z Z Z h1 ?_
  refine rn3 ?_
  refine zA Z (fun h2 => ?_) (fun h2 => absurd hE h2)
  refine rn6 ?_
  refine sa1 (c' := .box (zT 0)) Z Z Z Z Z Z Z ?_
  refine rn2 ?_
  exact zL hR Z Z
theorem zQD : ∀ (qs : List Rat) (acc : Rat), Sz 2000 acc → (∀ q ∈ qs, Sz 2000 q) → Sz 4001 (zG7 acc qs).1
 | [], acc, h, _ => h.mono (by decide)
 | q :: r, acc, h, hs => by
  rw [zG7]
  split
  ·rename_i hb
   exact zQD r _ (zPk hb) (fun x hx => hs x (by simp [hx]))
  ·exact zPG h (hs q (by simp))
theorem sumR_sz (l : List (List UInt8)) : Sz 4001 (zG8 l).1 := by
 unfold zG8
 split
 ·exact sz_zero.mono (by decide)
 ·split
  ·rename_i hE
   refine zQD _ _ sz_zero (fun q hq => ?_)
   obtain ⟨s, h3, rfl⟩ := List.mem_map.1 hq
   exact sz_v (zB2 hE s h3)
  ·exact sz_zero.mono (by decide)
theorem zNf (l : List (List UInt8)) (hlen : l.length ≤ 9223372036854775807) (hs : ∀ s ∈ l, s.length ≤ 9223372036854775807) : zU Tryz.prog 209 [.ro (.strs l) 0 l.length] (.tup [qA (zG8 l).1, .int .i64 (posE l)]) := by
 have h1 := sum_ok l hlen hs
 have h2 := zQT l 253 [] zDc rfl hlen (fun s hm => ratNeg1 s (hs s hm))
 unfold posE
 generalize (zG8 l).1 = q at *
 generalize (zG8 l).2 = e at *
 generalize l.any zDc = b at *
 by_cases he : e = 0
 ·subst he
  cases b
  ·rw [if_neg (fun h => Bool.false_ne_true h.2)]
   refine zP.value0 (zE (P := Tryz.prog) (fn := Tryz.f209) Z Z (by kernel_rfl) Z (fun c hR hfix => ?_)) (fix := fun _ => False) (fun _ h => h) Z Z
   refine rn4 ?_
   refine zB Z Z Z h1 ?_
   unfold qA
   refine rn4 ?_
   refine sa1 (c' := .box (zT q)) Z Z Z Z Z Z Z ?_
   refine rn4 ?_
   refine zB Z Z Z h2 ?_
   refine rn6 ?_
   refine sa1 (c' := .box (zT q)) Z Z Z Z Z Z Z ?_
   refine rn0 ?_
   exact zL hR Z Z
  ·rw [if_pos ⟨rfl, rfl⟩]
   refine zP.value0 (zE (P := Tryz.prog) (fn := Tryz.f209) Z Z (by kernel_rfl) Z (fun c hR hfix => ?_)) (fix := fun _ => False) (fun _ h => h) Z Z
   refine rn4 ?_
   refine zB Z Z Z h1 ?_
   unfold qA
   refine rn4 ?_
   refine sa1 (c' := .box (zT q)) Z Z Z Z Z Z Z ?_
   refine rn4 ?_
   refine zB Z Z Z h2 ?_
   refine rn6 ?_
   refine sa1 (c' := .box (zT q)) Z Z Z Z Z Z Z ?_
   refine rn0 ?_
   exact zL hR Z Z
 ·rw [if_neg (fun h => he h.1)]
  refine zP.value0 (zE (P := Tryz.prog) (fn := Tryz.f209) Z Z (by kernel_rfl) Z (fun c hR hfix => ?_)) (fix := fun _ => False) (fun _ h => h) Z Z
  refine rn4 ?_
  refine zB Z Z Z h1 ?_
  unfold qA
  refine rn4 ?_
  refine sa1 (c' := .box (zT q)) Z Z Z Z Z Z Z ?_
  refine rn4 ?_
  refine zAh Z Z (fun h0 => absurd h0 he) (fun h0 => ?_)
  refine rn6 ?_
  refine sa1 (c' := .box (zT q)) Z Z Z Z Z Z Z ?_
  refine rn0 ?_
  exact zL hR Z Z
theorem zPw (l : List (List UInt8)) (hlen : l.length ≤ 9223372036854775807) (hs : ∀ s ∈ l, s.length ≤ 9223372036854775807) : zU Tryz.prog 150 [.ro (.strs l) 0 l.length] (.int .i64 (zEL l)) := by
 have h1 := zNf l hlen hs
 have hz := sumR_sz l
 unfold zEL
 generalize (zG8 l).1 = q at *
 generalize posE l = e at *
 have h2 := zFQ q 1 (hz.mono (by decide)) (by refine ⟨?_, ?_⟩ <;> (show (zS 1).length ≤ 100000; rw [zGt]; decide))
 by_cases he : e = 0
 ·rw [if_pos he]
  subst he
  generalize zCG q 1 = t at *
  by_cases ht : t = 0
  ·rw [if_pos ht]
   subst ht
   refine zP.value0 (zE (P := Tryz.prog) (fn := Tryz.f150) Z Z (by kernel_rfl) Z (fun c hR hfix => ?_)) (fix := fun _ => False) (fun _ h => h) Z Z
   refine rn0 ?_
   refine zB Z Z Z h1 ?_
   unfold qA
   refine rn4 ?_
   refine sa1 (c' := .box (zT q)) Z Z Z Z Z Z Z ?_
   refine rn4 ?_
   refine zi (by kernel_rfl) ?_
   refine zp (fuel := 0) [0, 1, 2, 3] [(3, .ptr 0 0 0)] ⟨Z, trivial⟩ (by kernel_rfl) (by decide) Z Z ?_
   refine zM Z Z (qpp Z Z Z Z Z Z Z) ?_
   refine zA6 Z Z Z Z Z zCK ?_
   refine zA6 Z Z Z Z Z h2 ?_
   refine zM Z Z (zIm Z Z) ?_
   refine zAA ?_
   refine zW (by kernel_rfl) ?_
   refine rn4 ?_
   exact zL hR Z Z
  ·rw [if_neg ht]
   refine zP.value0 (zE (P := Tryz.prog) (fn := Tryz.f150) Z Z (by kernel_rfl) Z (fun c hR hfix => ?_)) (fix := fun _ => False) (fun _ h => h) Z Z
   refine rn0 ?_
   refine zB Z Z Z h1 ?_
   unfold qA
   refine rn4 ?_
   refine sa1 (c' := .box (zT q)) Z Z Z Z Z Z Z ?_
   refine rn4 ?_
   refine zi (by kernel_rfl) ?_
   refine zp (fuel := 0) [0, 1, 2, 3] [(3, .ptr 0 0 0)] ⟨Z, trivial⟩ (by kernel_rfl) (by decide) Z Z ?_
   refine zM Z Z (qpp Z Z Z Z Z Z Z) ?_
   refine zA6 Z Z Z Z Z zCK ?_
   refine zA6 Z Z Z Z Z h2 ?_
   refine zM Z Z (zIm Z Z) ?_
   refine zAA ?_
   refine zW (by kernel_rfl) ?_
   repeat (refine zI ?_)
   refine zA Z (fun h0 => ?_) (fun h0 => absurd ht h0)
   refine rn2 ?_
   exact zL hR Z Z
 ·rw [if_neg he]
  refine zP.value0 (zE (P := Tryz.prog) (fn := Tryz.f150) Z Z (by kernel_rfl) Z (fun c hR hfix => ?_)) (fix := fun _ => False) (fun _ h => h) Z Z
  refine rn0 ?_
  refine zB Z Z Z h1 ?_
  unfold qA
  refine rn4 ?_
  refine sa1 (c' := .box (zT q)) Z Z Z Z Z Z Z ?_
  refine rn3 ?_
  refine zA Z (fun h0 => ?_) (fun h0 => absurd he h0)
  refine rn2 ?_
  exact zL hR Z Z
theorem zKr {l : List (List UInt8)} (h : (zG8 l).2 = 0) : l.length ≤ 256 ∧ zDO l = 0 := by
 unfold zG8 at h
 split at h
 ·exact absurd h (by decide)
 ·split at h
  ·exact ⟨by omega, by assumption⟩
  ·exact absurd h (by assumption)
theorem sgn_zero {q : Rat} : sgn q.num = 0 ↔ q = 0 := by
 rw [← Rat.num_eq_zero]
 unfold sgn
 split
 ·omega
 ·split <;> omega
end Go.Proofs.YtkncmbklkhjmgaaGreatDoor
namespace Go.Ax.Rt
open Go.Ax.Bg
theorem Parts.fit {s : List UInt8} {q : Rat} (h : Parts s q) : zBx q = true := by
 unfold zBx
 rw [Bool.and_eq_true, decide_eq_true_eq, decide_eq_true_eq, h.num, h.den, zE8, zFl h.cn]
 refine ⟨h.ln, ?_⟩
 cases e : zGa s
 ·rw [zHH e, Lib.decDigits_one (by decide)]; decide
 ·rw [zFo e, zFl (h.cd e).1]; exact h.ld
/-- A text that spells q. -/
def IsQ (s : List UInt8) (q : Rat) : Prop := zCe s = 0 ∧ zt s = q
instance (s : List UInt8) (q : Rat) : Decidable (IsQ s q) := inferInstanceAs (Decidable (_ ∧ _))
theorem IsQ.self {s : List UInt8} (h : zCe s = 0) : IsQ s (zt s) := ⟨h, rfl⟩
theorem IsQ.text {s : List UInt8} {q : Rat} (h : IsQ s q) : zn q = s := by
 have := (zF2 h.1).text
 rwa [h.2] at this
theorem IsQ.fit {s : List UInt8} {q : Rat} (h : IsQ s q) : zBx q = true := by
 have := (zF2 h.1).fit
 rwa [h.2] at this
theorem zGs {q : Rat} (h : zBx q = true) : IsQ (zn q) q := rat_of h
theorem IsQ.out {s : List UInt8} {q : Rat} (h : IsQ s q) : outF q = (s, 0) := by
 unfold outF
 rw [if_pos h.fit, h.text]
theorem IsQ.all2 {a b : List UInt8} {x y : Rat} (ha : IsQ a x) (hb : IsQ b y) : zDO [a, b] = 0 := by
 refine zJp (fun s hs => ?_)
 simp at hs
 rcases hs with rfl | rfl
 ·exact ha.1
 ·exact hb.1
theorem IsQ.two {a b : List UInt8} {x y : Rat} (F : Rat → Rat → Rat) (ha : IsQ a x) (hb : IsQ b y) : zJn F a b = outF (F x y) := by
 unfold zJn
 rw [if_pos (ha.all2 hb), ha.2, hb.2]
/-- Numbers of at most so many digits. -/
def D (k : Nat) (q : Rat) : Prop := q.num.natAbs < 10 ^ k ∧ q.den < 10 ^ k
theorem D.mono {j k : Nat} {q : Rat} (h : D j q) (hk : j ≤ k) : D k q :=
 ⟨Nat.lt_of_lt_of_le h.1 (Nat.pow_le_pow_right (by decide) hk), Nat.lt_of_lt_of_le h.2 (Nat.pow_le_pow_right (by decide) hk)⟩
theorem D.fit {k : Nat} {q : Rat} (h : D k q) (hk : k ≤ 2000) : zBx q = true := by
 unfold zBx
 rw [Bool.and_eq_true, decide_eq_true_eq, decide_eq_true_eq]
 exact ⟨TB_len (lt_big h.1 hk), TB_len (lt_big h.2 hk)⟩
theorem IsQ.dig {s : List UInt8} {q : Rat} (h : IsQ s q) {k : Nat} (hk : s.length ≤ k) (h1 : 1 ≤ k) : D k q := by
 have ht := h.text
 have hl : (zn q).length ≤ k := by rw [ht]; exact hk
 unfold zn at hl
 rw [List.length_append, List.length_append] at hl
 refine ⟨Nat.lt_of_lt_of_le (zEo _) (Nat.pow_le_pow_right (by decide) (by omega)), ?_⟩
 by_cases hd : q.den = 1
 ·rw [hd]
  exact Nat.lt_of_lt_of_le (show 1 < 10 ^ 1 by decide) (Nat.pow_le_pow_right (by decide) h1)
 ·rw [if_neg hd, List.length_cons] at hl
  exact Nat.lt_of_lt_of_le (zEo _) (Nat.pow_le_pow_right (by decide) (by omega))
theorem zER {n d : Int} {k : Nat} (hd : d ≠ 0) (h1 : n.natAbs < 10 ^ k) (h2 : d.natAbs < 10 ^ k) : D k (Rat.divInt n d) := by
 obtain ⟨e1, e2, _⟩ := zGG n d hd
 refine ⟨?_, ?_⟩
 ·rw [e1]; exact Nat.lt_of_le_of_lt (Nat.div_le_self _ _) h1
 ·rw [e2]; exact Nat.lt_of_le_of_lt (Nat.div_le_self _ _) h2
theorem D.add {p q : Rat} {j k : Nat} (hp : D j p) (hq : D k q) : D (j + k + 1) (p + q) := by
 rw [← zJ8]
 have a1 := zGL hp.1 hq.2
 have a2 := zGL hq.1 hp.2
 rw [Nat.add_comm k j] at a2
 have a3 := zGL hp.2 hq.2
 refine zER (by have := Nat.mul_ne_zero p.den_nz q.den_nz; omega) ?_ ?_
 ·have h := Int.natAbs_add_le (p.num * q.den) (q.num * p.den)
  rw [Int.natAbs_mul, Int.natAbs_mul, Int.natAbs_natCast, Int.natAbs_natCast] at h
  exact Nat.lt_of_le_of_lt h (add_big a1 a2)
 ·rw [Int.natAbs_natCast]
  exact Nat.lt_of_lt_of_le a3 (Nat.pow_le_pow_right (by decide) (by omega))
theorem D.neg {q : Rat} {k : Nat} (h : D k q) : D k (-q) := by
 refine ⟨?_, h.2⟩
 show (-q.num).natAbs < _
 rw [Int.natAbs_neg]; exact h.1
theorem D.sub {p q : Rat} {j k : Nat} (hp : D j p) (hq : D k q) : D (j + k + 1) (p - q) := by
 rw [Rat.sub_eq_add_neg]; exact hp.add hq.neg
theorem D.mul {p q : Rat} {j k : Nat} (hp : D j p) (hq : D k q) : D (j + k) (p * q) := by
 rw [← zKO]
 refine zER (by have := Nat.mul_ne_zero p.den_nz q.den_nz; omega) ?_ ?_
 ·rw [Int.natAbs_mul]; exact zGL hp.1 hq.1
 ·rw [Int.natAbs_natCast]; exact zGL hp.2 hq.2
theorem D.div {p q : Rat} {j k : Nat} (hp : D j p) (hq : D k q) (h0 : q ≠ 0) : D (j + k) (p / q) := by
 have hn : q.num ≠ 0 := fun h => h0 (Rat.num_eq_zero.1 h)
 rw [← zNB p q h0]
 refine zER (Int.mul_ne_zero hn (by have := p.den_nz; omega)) ?_ ?_
 ·rw [Int.natAbs_mul, Int.natAbs_natCast]; exact zGL hp.1 hq.2
 ·rw [Int.natAbs_mul, Int.natAbs_natCast, Nat.add_comm]; exact zGL hq.1 hp.2
theorem div_one (q : Rat) : q / 1 = q := by
 have := Rat.mul_div_cancel (a := q) (b := 1) (by decide)
 rwa [Rat.mul_one] at this
theorem zJG {s : List UInt8} (h : zCe s = 0) : zDc s = false ↔ 0 ≤ zt s := by
 have hp := zF2 h
 have h1 := zKk (zDc s) (zA5 0 (zET s))
 rw [← hp.num] at h1
 rw [← Rat.num_nonneg]
 cases e : zDc s
 ·rw [e] at h1; simp at h1; simpa using h1
 ·have h2 : (zt s).num < 0 := by
   have h3 := hp.ng e
   rw [e] at h1
   simpa [h3] using h1
  exact ⟨fun q => absurd q (by decide), fun q => absurd h2 (by omega)⟩
theorem le_lt {a b c : Rat} (h : a ≤ b) (h2 : b < c) : a < c := Rat.not_le.1 (fun h3 => Rat.not_le.2 h2 (Rat.le_trans h3 h))
def zAV (f : Nat → Rat) : Nat → Rat
 | 0 => 0
 | n + 1 => zAV f n + f n
theorem zAW {f g : Nat → Rat} : ∀ {n : Nat}, (∀ i, i < n → f i = g i) → zAV f n = zAV g n
 | 0, _ => rfl
 | n + 1, h => by rw [zAV, zAV, zAW (fun i hi => h i (by omega)), h n (by omega)]
theorem zF7 : ∀ n : Nat, zAV (fun _ => 0) n = 0
 | 0 => rfl
 | n + 1 => by rw [zAV, zF7 n, Rat.add_zero]
theorem zF6 (f g : Nat → Rat) : ∀ n : Nat, zAV (fun i => f i + g i) n = zAV f n + zAV g n
 | 0 => by rw [zAV, zAV, zAV, Rat.add_zero]
 | n + 1 => by
  rw [zAV, zAV, zAV, zF6 f g n]
  rw [Rat.add_assoc, Rat.add_assoc, ← Rat.add_assoc (zAV g n), Rat.add_comm (zAV g n) (f n), Rat.add_assoc]
theorem zDI (c : Rat) (f : Nat → Rat) : ∀ n : Nat, zAV (fun i => c * f i) n = c * zAV f n
 | 0 => by rw [zAV, zAV, Rat.mul_zero]
 | n + 1 => by rw [zAV, zAV, zDI c f n, Rat.mul_add]
theorem zCL (c : Rat) (f : Nat → Rat) : ∀ n : Nat, zAV (fun i => f i * c) n = zAV f n * c
 | 0 => by rw [zAV, zAV, Rat.zero_mul]
 | n + 1 => by rw [zAV, zAV, zCL c f n, Rat.add_mul]
theorem zLz (f : Nat → Nat → Rat) (m : Nat) : ∀ n : Nat, zAV (fun i => zAV (fun j => f i j) m) n = zAV (fun j => zAV (fun i => f i j) n) m
 | 0 => by
  show (0 : Rat) = zAV (fun j => 0) m
  rw [zF7]
 | n + 1 => by
  rw [zAV, zLz f m n, ← zF6]
  exact zAW (fun i _ => rfl)
theorem zFU {f : Nat → Rat} : ∀ {n : Nat}, (∀ i, i < n → 0 ≤ f i) → 0 ≤ zAV f n
 | 0, _ => Rat.le_refl
 | n + 1, h => by rw [zAV]; exact Rat.add_nonneg (zFU (fun i hi => h i (by omega))) (h n (by omega))
theorem zPF {j : Nat} {f : Nat → Rat} : ∀ {n : Nat}, (∀ i, i < n → D j (f i)) → D (1 + n * (j + 1)) (zAV f n)
 | 0, _ => by
  rw [Nat.zero_mul]
  exact ⟨by show (0 : Rat).num.natAbs < _; decide, by show (0 : Rat).den < _; decide⟩
 | n + 1, h => by
  rw [zAV]
  have := (zPF (n := n) (fun i hi => h i (by omega))).add (h n (by omega))
  refine this.mono ?_
  rw [Nat.add_mul]; omega
/-- The sum of the products. -/
def zAK (a b : List Rat) : Rat := zAV (fun i => a.getD i 0 * b.getD i 0) a.length
def zBt (m : List (List Rat)) (k : Nat) : List Rat := m.map (fun row => row.getD k 0)
def zHe (m : List (List Rat)) (w : Nat) : List (List Rat) := (List.range w).map (zBt m)
def mulQ (a b : List (List Rat)) (w : Nat) : List (List Rat) := a.map (fun row => (zHe b w).map (zAK row))
theorem zEG (m : List (List Rat)) (k i : Nat) : (zBt m k).getD i 0 = (m.getD i []).getD k 0 := by
 unfold zBt
 by_cases h : i < m.length
 ·simp [List.getD, h]
 ·simp [List.getD, h]
theorem zCr (m : List (List Rat)) (k : Nat) : (zBt m k).length = m.length := by simp [zBt]
theorem zB8 {α β : Type} (f : α → β) (l : List α) (d : α) (e : β) (i : Nat) (hi : i < l.length) : (l.map f).getD i e = f (l.getD i d) := by simp [List.getD, hi]
theorem zAy {a b : List Rat} {n : Nat} (h : a.length = n) : zAK a b = zAV (fun i => a.getD i 0 * b.getD i 0) n := by unfold zAK; rw [h]
theorem zOa {a b : List Rat} {j k : Nat} (ha : ∀ x ∈ a, D j x) (hb : ∀ x ∈ b, D k x) (hl : a.length ≤ b.length) : D (1 + a.length * (j + k + 1)) (zAK a b) := by
 refine zPF (fun i hi => (ha _ (by simp [List.getD, hi])).mul (hb _ (by simp [List.getD, show i < b.length by omega])))
abbrev zu := List UInt8
def vecE (v : List zu) : Int := if 40 < v.length then 2 else zDO v
def zIp (w : Nat) : List (List zu) → Int
 | [] => 0
 | r :: rs => if r.length = w then (if vecE r = 0 then zIp w rs else vecE r) else 3
def zAC (m : List (List zu)) : Nat := (m.getD 0 []).length
/-- matrix.Check -/
def zHu (m : List (List zu)) : Int := if 40 < m.length then 2 else zIp (zAC m) m
def inM (m : List (List zu)) : List (List Rat) := m.map (fun r => r.map zt)
def outM (q : List (List Rat)) : List (List zu) × Int := if q.all (fun r => r.all zBx) then (q.map (fun r => r.map zn), 0) else ([], 2)
def mulR (a b : List (List zu)) : List (List zu) × Int := if zHu a ≠ 0 then ([], zHu a) else if zHu b ≠ 0 then ([], zHu b) else if zAC a = b.length then outM (mulQ (inM a) (inM b) (zAC b)) else ([], 3)
theorem zL6 {v : List zu} (h : vecE v = 0) : v.length ≤ 40 ∧ zDO v = 0 := by
 unfold vecE at h
 split at h
 ·cases h
 ·exact ⟨by omega, h⟩
theorem zKi {w : Nat} : ∀ {m : List (List zu)}, zIp w m = 0 → ∀ r ∈ m, r.length = w ∧ vecE r = 0
 | [], _, r, hr => by simp at hr
 | a :: m, h, r, hr => by
  rw [zIp] at h
  split at h
  ·rename_i h1
   split at h
   ·rename_i h2
    rcases List.mem_cons.1 hr with rfl | hr
    ·exact ⟨h1, h2⟩
    ·exact zKi h r hr
   ·contradiction
  ·cases h
theorem zNt {w : Nat} : ∀ {m : List (List zu)}, (∀ r ∈ m, r.length = w ∧ vecE r = 0) → zIp w m = 0
 | [], _ => rfl
 | a :: m, h => by
  rw [zIp, if_pos (h a (by simp)).1, if_pos (h a (by simp)).2]
  exact zNt (fun r hr => h r (by simp [hr]))
/-- A valid matrix of so many rows and columns. -/
structure IsM (m : List (List zu)) (p q : Nat) : Prop where
 rows : m.length = p
 cols : ∀ r ∈ m, r.length = q
 sp : p ≤ 40
 sq : m ≠ [] → q ≤ 40
 ok : ∀ r ∈ m, ∀ s ∈ r, zCe s = 0
theorem zFw {m : List (List zu)} (h : zHu m = 0) : IsM m m.length (zAC m) := by
 unfold zHu at h
 split at h
 ·cases h
 ·have h1 := zKi h
  refine ⟨Z, fun r hr => (h1 r hr).1, by omega, fun hne => ?_, fun r hr s hs => zB2 (zL6 (h1 r hr).2).2 s hs⟩
  obtain ⟨a, m', rfl⟩ := List.exists_cons_of_ne_nil hne
  have h2 := h1 a (by simp)
  have := (zL6 h2.2).1
  omega
theorem matE_of {m : List (List zu)} {p q : Nat} (h : IsM m p q) : zHu m = 0 := by
 unfold zHu
 rw [if_neg (by have := h.rows; have := h.sp; omega)]
 cases m with
 | nil => rfl
 | cons a m' =>
  have hw : zAC (a :: m') = q := h.cols a (by simp)
  rw [hw]
  refine zNt (fun r hr => ⟨h.cols r hr, ?_⟩)
  unfold vecE
  rw [if_neg (by have := h.cols r hr; have := h.sq (by simp); omega)]
  exact zJp (fun s hs => h.ok r hr s hs)
theorem IsM.wid {m : List (List zu)} {p q : Nat} (h : IsM m p q) (hne : m ≠ []) : zAC m = q := by
 obtain ⟨a, m', rfl⟩ := List.exists_cons_of_ne_nil hne
 exact h.cols a (by simp)
theorem zDk (m : List (List zu)) : (inM m).length = m.length := by simp [inM]
theorem zNL {m : List (List zu)} {p q : Nat} (h : IsM m p q) : ∀ r ∈ inM m, r.length = q := by
 intro r hr
 obtain ⟨x, hx, rfl⟩ := List.mem_map.1 hr
 rw [List.length_map]; exact h.cols x hx
/-- Short texts. -/
def zJm (n k : Nat) (m : List (List zu)) : Bool := decide (m.length ≤ n) && m.all (fun v => decide (v.length ≤ n) && v.all (fun s => decide (s.length ≤ k)))
theorem zJR {n k : Nat} {m : List (List zu)} (h : zJm n k m = true) : m.length ≤ n ∧ ∀ v ∈ m, v.length ≤ n ∧ ∀ s ∈ v, s.length ≤ k := by
 unfold zJm at h
 simp only [Bool.and_eq_true, decide_eq_true_eq, List.all_eq_true] at h
 exact ⟨h.1, fun v hv => ⟨(h.2 v hv).1, fun s hs => (h.2 v hv).2 s hs⟩⟩
theorem inM_D {m : List (List zu)} {p q k : Nat} (h : IsM m p q) (hk : ∀ v ∈ m, ∀ s ∈ v, s.length ≤ k) (h1 : 1 ≤ k) : ∀ r ∈ inM m, ∀ x ∈ r, D k x := by
 intro r hr x hx
 obtain ⟨y, hy, rfl⟩ := List.mem_map.1 hr
 obtain ⟨s, hs, rfl⟩ := List.mem_map.1 hx
 exact (IsQ.self (h.ok y hy s hs)).dig (hk y hy s hs) h1
/-- The product of short valid matrices. -/
structure Prod (a b : List (List zu)) (t : List (List zu)) (p q r K : Nat) : Prop where
 res : mulR a b = (t, 0)
 ok : IsM t p r
 val : inM t = mulQ (inM a) (inM b) r
 dig : ∀ x ∈ inM t, ∀ y ∈ x, D K y
end Go.Ax.Rt
namespace Go.Proofs.YtkncmbklkhjmgaaGreatDoor
open Go.Ax Go.Ax.Bg Go.Ax.Rt Go.RowKit
attribute [local irreducible] Ax zBI QOp zP zAl
def cellS (r : List zu) : List AV := [.ro (.strs r) 0 r.length]
def zCd (r : List Rat) : List AV := [.ro (qsC r) 0 r.length]
abbrev zCF (m : List (List zu)) : Cells := rowE [] 1 cellS m
abbrev zY (m : List (List Rat)) : Cells := rowE [] 1 zCd m
theorem zBP (r : List Rat) (j h : Nat) (hj : j < 1) : ((zCd r).getD j .any).forget h = (zCd r).getD j .any := by
 obtain rfl : j = 0 := by omega
 rfl
theorem refless_rowsT (m : List (List zu)) : zAb (zCF m) := by
 intro i j _ hj
 obtain rfl : j = 0 := by have hj : j < 1 := hj; omega
 rfl
theorem zFg (m : List (List Rat)) : zAb (zY m) := by
 intro i j _ hj
 obtain rfl : j = 0 := by have hj : j < 1 := hj; omega
 rfl
theorem zNs (q : List Rat) (j : Nat) (hj : j < 1) : (zBp 1 1 [.ro (qsC q) 0 q.length]).at 0 j = (zCd q).getD j .any := by
 obtain rfl : j = 0 := by omega
 rfl
theorem rowS1 (q : List zu) (j : Nat) (hj : j < 1) : (zBp 1 1 [.ro (.strs q) 0 q.length]).at 0 j = (cellS q).getD j .any := by
 obtain rfl : j = 0 := by omega
 rfl
theorem vec_ok (v : List zu) (hlen : v.length ≤ 9223372036854775807) (hs : ∀ s ∈ v, s.length ≤ 9223372036854775807) : zU Tryz.prog 141 [.ro (.strs v) 0 v.length] (.int .i64 (vecE v)) := by
 have h1 := zFG v hlen hs
 unfold vecE
 refine zP.value0 (zE (P := Tryz.prog) (fn := Tryz.f141) Z Z (by kernel_rfl) Z (fun c hR hfix => ?_)) (fix := fun _ => False) (fun _ h => h) Z Z
 refine rn6 ?_
 refine zA Z (fun h => ?_) (fun h => ?_)
 ·rw [if_pos (by omega)] at hR
  refine rn2 ?_
  exact zL hR Z Z
 ·rw [if_neg (by omega)] at hR
  refine rn1 ?_
  refine zB Z Z Z h1 ?_
  refine rn0 ?_
  exact zL hR Z Z
theorem width_ok (m : List (List zu)) (hlen : m.length ≤ 9223372036854775807) : zU Tryz.prog 65 [.ro (zCF m) 0 m.length] (iN (zAC m)) := by
 refine zP.value0 (zE (P := Tryz.prog) (fn := Tryz.f65) Z Z (by kernel_rfl) Z (fun c hR hfix => ?_)) (fix := fun _ => False) (fun _ h => h) Z Z
 refine rn4 ?_
 refine zA Z (fun h => ?_) (fun h => ?_)
 ·obtain rfl : m = [] := List.length_eq_zero_iff.1 (by omega)
  refine rn2 ?_
  exact zL hR Z Z
 ·have hm : 0 < m.length := by omega
  refine rn6 ?_
  exact zL hR Z Z
theorem zQt (m : List (List zu)) (hlen : m.length ≤ 9223372036854775807) (hr : ∀ r ∈ m, r.length ≤ 9223372036854775807 ∧ ∀ s ∈ r, s.length ≤ 9223372036854775807) : zU Tryz.prog 64 [.ro (zCF m) 0 m.length] (.int .i64 (zHu m)) := by
 unfold zHu
 refine zP.value0 (zE (P := Tryz.prog) (fn := Tryz.f64) Z Z (by kernel_rfl) Z (fun c hR hfix => ?_)) (fix := fun _ => False) (fun _ h => h) Z Z
 refine rn6 ?_
 refine zA Z (fun h => ?_) (fun h => ?_)
 ·rw [if_pos (by omega)] at hR
  refine rn2 ?_
  exact zL hR Z Z
 rw [if_neg (by omega)] at hR
 refine rn3 ?_
 refine ze (ι := Nat) (fun k => [(0, .ro (zCF m) 0 m.length), (9, .ro (zCF m) 0 m.length), (10, iN m.length), (11, iN k)]) (fun _ => [])
  (fun k => k ≤ m.length ∧ zIp (zAC m) m = zIp (zAC m) (m.drop k)) (fun k => m.length - k) 0 ⟨⟨rfl, rfl, rfl, rfl, trivial⟩, rfl, Nat.zero_le _, by rw [List.drop_zero]⟩ ?_
 intro k ⟨hk, hE⟩
 refine rn4 ?_
 refine zA Z (fun h => ?_) (fun h => ?_)
 ·have hk' : k < m.length := by omega
  have hm : 0 < m.length := by omega
  have hd := zEp (d := []) hk'
  have hc := vec_ok (m.getD k []) (hr _ (zAN [] hk')).1 (hr _ (zAN [] hk')).2
  rw [hd, zIp] at hE
  refine rn6 ?_
  refine zA Z (fun h2 => ?_) (fun h2 => ?_)
  ·have h3 : ¬ (m.getD k []).length = zAC m := fun e => h2 (by show (((m.getD k []).length : Nat) : Int) = ((zAC m : Nat) : Int); omega)
   rw [if_neg h3] at hE
   rw [hE] at hR
   refine rn6 ?_
   exact zL hR Z Z
  ·have h3 : (m.getD k []).length = zAC m := by
    have h4 : (((m.getD k []).length : Nat) : Int) = ((zAC m : Nat) : Int) := Classical.not_not.1 h2
    omega
   rw [if_pos h3] at hE
   refine rn1 ?_
   refine zB Z Z Z hc ?_
   refine rn3 ?_
   refine zA Z (fun h5 => ?_) (fun h5 => ?_)
   ·rw [if_neg h5] at hE
    rw [hE] at hR
    refine rn6 ?_
    exact zL hR Z Z
   ·rw [if_pos (Classical.not_not.1 h5)] at hE
    refine rn5 ?_
    exact zK ⟨k + 1, ⟨by omega, hE⟩, by omega, ⟨Z, Z, Z, Z, trivial⟩, Z⟩
 ·have hk' : k = m.length := by omega
  subst hk'
  rw [List.drop_length] at hE
  rw [hE] at hR
  refine rn5 ?_
  exact zL hR Z Z
theorem zKM (l : List zu) (hlen : l.length ≤ 1000000) (hs : ∀ s ∈ l, s.length ≤ 9223372036854775807 ∧ zCe s = 0) : zU Tryz.prog 67 [.ro (.strs l) 0 l.length] (.ro (qsC (l.map zt)) 0 (l.map zt).length) := by
 have := in_ok l hlen hs
 rwa [List.length_map]
theorem zKN (m : List (List zu)) (hlen : m.length ≤ 1000000) (hr : ∀ r ∈ m, r.length ≤ 1000000 ∧ ∀ s ∈ r, s.length ≤ 9223372036854775807 ∧ zCe s = 0) : zU Tryz.prog 62 [.ro (zCF m) 0 m.length] (.ro (zY (inM m)) 0 m.length) := by
 refine zP.value0 (zE (P := Tryz.prog) (fn := Tryz.f62) Z Z (by kernel_rfl) Z (fun c hR hfix => ?_)) (fix := fun _ => False) (fun _ h => h) Z Z
 refine rn8 ?_
 refine zAo 3 ⟨105, zY []⟩ Z Z ?_
 repeat (refine zAF ?_)
 refine ze (ι := Nat) (fun k => [(0, .ro (zCF m) 0 m.length), (3, .sl 0 0 k), (6, .ro (zCF m) 0 m.length), (7, iN m.length), (8, iN k)]) (fun k => [some ⟨105, zY ((m.take k).map (fun r => r.map zt))⟩])
  (fun k => k ≤ m.length) (fun k => m.length - k) 0 ⟨⟨rfl, rfl, rfl, rfl, rfl, trivial⟩, rfl, Nat.zero_le _⟩ ?_
 intro k hk
 refine rn4 ?_
 refine zA Z (fun h => ?_) (fun h => ?_)
 ·have hk' : k < m.length := by omega
  obtain ⟨b1, b2⟩ := hr _ (zAN [] hk')
  have hc := zKM (m.getD k []) b1 b2
  have htk := zCl (fun r : List zu => r.map zt) m [] k hk'
  have hml : ((m.take k).map (fun r : List zu => r.map zt)).length = k := by rw [List.length_map, List.length_take]; omega
  generalize (m.take k).map (fun r : List zu => r.map zt) = qs at *
  generalize (m.getD k []).map zt = q at *
  refine rn6 ?_
  refine zB Z Z Z hc ?_
  repeat (refine zf rfl rfl rfl rfl rfl rfl rfl rfl rfl rfl rfl ?_)
  refine zr Z Z Z Z Z Z Z Z Z hml Z Z (by show 0 + 1 ≤ 1; omega) Z (by show (k + 1) * 24 ≤ _ ∧ _; omega) ?_ (by rw [hfix]; exact fun h => h) ?_
  ·intro i' j hi hj
   exact zAM [] 1 zCd zBP qs q _ (zNs _) 0 i' j hi hj
  refine zEO ?_
  refine zI ?_
  refine zBi [some ⟨105, zY ((m.take (k + 1)).map (fun r => r.map zt))⟩] ?_ ?_
  ·rw [htk]
   exact zQ.eqv (zAX [] 1 zCd qs q _ (zNs _)) zQ.nil
  refine rn3 ?_
  exact zK ⟨k + 1, by omega, by omega, ⟨Z, Z, Z, Z, Z, trivial⟩, Z⟩
 ·have hk' : k = m.length := by omega
  subst hk'
  rw [List.take_length]
  refine zHb ?_
  refine zAd 0 3 m.length [] Z (zFg _) Z (by show _ ≤ (m.map _).length; rw [List.length_map]; exact Nat.le_refl _) trivial ?_
  refine rn0 ?_
  exact zL hR Z Z
theorem zFE {m : Nat} {q : Rat} (h : D (9 * m) q) : Sz m q := by
 have key : ∀ n : Nat, n < 10 ^ (9 * m) → (zS n).length ≤ m := fun n hn => by
  refine zAc (Nat.lt_of_lt_of_le hn ?_)
  rw [Nat.pow_mul]
  exact Nat.pow_le_pow_left (by decide) m
 exact ⟨key _ h.1, key _ h.2⟩
theorem zOb (a b : List Rat) (j k : Nat) (ha : ∀ q ∈ a, D j q) (hb : ∀ q ∈ b, D k q) (hl : a.length ≤ b.length) (hal : b.length ≤ 1000000) (hK : 1 + a.length * (j + k + 1) ≤ 900000) : zU Tryz.prog 68 [.ro (qsC a) 0 a.length, .ro (qsC b) 0 b.length] (qA (zAK a b)) := by
 refine zP.value0 (zE (P := Tryz.prog) (fn := Tryz.f68) Z Z (by kernel_rfl) Z (fun c hR hfix => ?_)) (fix := fun _ => False) (fun _ h => h) Z Z
 refine rn4 ?_
 refine zB Z Z Z zHQ ?_
 repeat (refine zBC rfl rfl rfl ?_)
 refine sa1 (c' := .box (zT 0)) Z Z Z Z Z Z Z ?_
 refine rn3 ?_
 refine ze (ι := Nat × Rat) (fun p => [(0, .ro (qsC a) 0 a.length), (1, .ro (qsC b) 0 b.length), (4, .ptr 0 0 0), (5, .ptr 1 0 0), (9, .ro (qsC a) 0 a.length), (10, iN a.length), (11, iN p.1)]) (fun p => [some ⟨104, .box [.bool false, .nil, .nil]⟩, some ⟨104, .box (zT p.2)⟩])
  (fun p => p.1 ≤ a.length ∧ p.2 = zAV (fun i => a.getD i 0 * b.getD i 0) p.1) (fun p => a.length - p.1) (0, 0) ⟨⟨rfl, rfl, rfl, rfl, rfl, rfl, rfl, trivial⟩, rfl, Nat.zero_le _, rfl⟩ ?_
 rintro ⟨i, acc⟩ ⟨hi, hA⟩
 simp only at *
 have hterm : ∀ i', i' < a.length → D (j + k) (a.getD i' 0 * b.getD i' 0) := fun i' h' => (ha _ (zAN 0 h')).mul (hb _ (zAN 0 (by omega)))
 have hDa : D (1 + i * (j + k + 1)) acc := by rw [hA]; exact zPF (fun i' h' => hterm i' (by omega))
 have hb1 : i * (j + k + 1) ≤ a.length * (j + k + 1) := Nat.mul_le_mul_right _ hi
 refine rn4 ?_
 refine zA Z (fun h => ?_) (fun h => ?_)
 ·have hi' : i < a.length := by omega
  have hib : i < b.length := by omega
  have hm := hterm i hi'
  have hx := ha _ (zAN 0 hi')
  have hy := hb _ (zAN 0 hib)
  have hsz1 : Sz 100000 (a.getD i 0) := zFE (hx.mono (by have := Nat.le_mul_of_pos_left (j + k + 1) (show 0 < a.length by omega); omega))
  have hsz2 : Sz 100000 (b.getD i 0) := zFE (hy.mono (by have := Nat.le_mul_of_pos_left (j + k + 1) (show 0 < a.length by omega); omega))
  have hsz3 : Sz 100000 (a.getD i 0 * b.getD i 0) := zFE (hm.mono (by have := Nat.le_mul_of_pos_left (j + k + 1) (show 0 < a.length by omega); omega))
  have hsz4 : Sz 100000 acc := zFE (hDa.mono (by omega))
  have hnext : acc + a.getD i 0 * b.getD i 0 = zAV (fun i => a.getD i 0 * b.getD i 0) (i + 1) := by rw [zAV, hA]
  refine rn6 ?_
  refine zD 15 (.agg (zT (a.getD i 0))) Z (AEq.of_eq Z) ?_
  have e5 : b.getD i 0 = b.getD i 0 := rfl
  generalize hp : a.getD i 0 = p at *
  have g1 := zIo p
  refine sa1 (c' := .box (zT p)) Z Z Z Z Z Z Z ?_
  refine rn6 ?_
  refine zB Z Z Z g1 ?_
  refine rn3 ?_
  have hz : ∀ x : Rat, sgn x.num = 0 → x = 0 := fun x hx => sgn_zero.1 hx
  generalize hq : b.getD i 0 = q at *
  have g2 := zIo q
  have g3 := zMg p q hsz1 hsz2
  have g4 := zIn acc (p * q) hsz4 hsz3
  have g3' : zU Tryz.prog 127 [qA p, qA (b.getD i 0)] (qA (p * q)) := by rw [hq]; exact g3
  refine zAh Z Z (fun h1 => ?_) (fun h1 => ?_)
  ·refine rn6 ?_
   refine zD 23 (.agg (zT q)) Z (AEq.of_eq (by rw [← hq]; rfl)) ?_
   refine zB Z Z Z g2 ?_
   refine rn3 ?_
   refine zA Z (fun h2 => ?_) (fun h2 => ?_)
   ·skip
    refine zi (by kernel_rfl) ?_
    refine zp (fuel := 1) [0, 1, 2, 3, 4, 5, 6, 7] [(0, .ro (qsC a) 0 a.length), (1, .ro (qsC b) 0 b.length), (5, .ptr 1 0 0), (7, .ptr 2 0 0), (6, iN i), (4, .ptr 0 0 0), (9, .ro (qsC a) 0 a.length), (10, iN a.length), (11, iN i)] ⟨Z, Z, Z, Z, Z, Z, Z, Z, Z, trivial⟩ (by kernel_rfl) (by decide) Z Z ?_
    refine zM Z Z (qpp Z Z Z Z Z Z Z) ?_
    refine zM Z Z (qpp Z Z Z Z Z Z Z) ?_
    refine zM Z Z (zJ Z) ?_
    refine zM Z Z (zJ Z) ?_
    refine zM Z Z (zAB Z Z Z Z (by first | (simp only [Nat.zero_add, Int.toNat_natCast, Int.toNat_zero]; exact Z) | exact Z) (by omega)) ?_
    refine zM Z Z (zA7 Z Z Z Z Z Z) ?_
    refine zA6 Z Z Z Z Z g3' ?_
    refine zA6 Z Z Z Z Z g4 ?_
    refine zAA ?_
    refine zF (is := [8]) (by kernel_rfl) (by simp) Z ⟨fun o ho => ?_, trivial⟩
    all_goals (cases ho)
    skip
    unfold qA
    refine sa1 (c' := .box (zT (acc + p * q))) Z Z Z Z Z Z Z ?_
    refine rn1 ?_
    refine zW (by kernel_rfl) ?_
    repeat (refine zAP ?_)
    refine zI ?_
    refine zBi ([some ⟨104, .box [.bool false, .nil, .nil]⟩, some ⟨104, .box (zT (acc + p * q))⟩] ++ [none]) ?_ ?_
    ·exact zQ.eqv (CEq.refl _) (zQ.eqv (CEq.refl _) (zQ.drop zQ.nil))
    refine zEe (H1 := [some ⟨104, .box [.bool false, .nil, .nil]⟩, some ⟨104, .box (zT (acc + p * q))⟩]) Z (by rw [hfix]; exact fun h => h) ?_
    refine rn3 ?_
    exact zK ⟨(i + 1, (acc + p * q)), ⟨by simp only; omega, hnext⟩, by simp only; omega, ⟨Z, Z, Z, Z, Z, Z, Z, trivial⟩, Z⟩
   ·have e0 : q = 0 := hz q (Classical.not_not.1 h2)
    rw [e0, Rat.mul_zero, Rat.add_zero] at hnext
    refine zEO ?_
    refine zI ?_
    refine zBi ([some ⟨104, .box [.bool false, .nil, .nil]⟩, some ⟨104, .box (zT acc)⟩] ++ [none]) ?_ ?_
    ·exact zQ.eqv (CEq.refl _) (zQ.eqv (CEq.refl _) (zQ.drop zQ.nil))
    refine zEe (H1 := [some ⟨104, .box [.bool false, .nil, .nil]⟩, some ⟨104, .box (zT acc)⟩]) Z (by rw [hfix]; exact fun h => h) ?_
    refine rn3 ?_
    exact zK ⟨(i + 1, acc), ⟨by simp only; omega, hnext⟩, by simp only; omega, ⟨Z, Z, Z, Z, Z, Z, Z, trivial⟩, Z⟩
  ·have e0 : p = 0 := hz p (Classical.not_not.1 h1)
   rw [e0, Rat.zero_mul, Rat.add_zero] at hnext
   repeat (first | refine zR ?_ | refine zCO rfl rfl rfl ?_ | refine zG (zBJ rfl rfl) ?_)
   refine zI ?_
   refine zBi ([some ⟨104, .box [.bool false, .nil, .nil]⟩, some ⟨104, .box (zT acc)⟩] ++ [none]) ?_ ?_
   ·exact zQ.eqv (CEq.refl _) (zQ.eqv (CEq.refl _) (zQ.drop zQ.nil))
   refine zEe (H1 := [some ⟨104, .box [.bool false, .nil, .nil]⟩, some ⟨104, .box (zT acc)⟩]) Z (by rw [hfix]; exact fun h => h) ?_
   refine rn5 ?_
   exact zK ⟨(i + 1, acc), ⟨by simp only; omega, hnext⟩, by simp only; omega, ⟨Z, Z, Z, Z, Z, Z, Z, trivial⟩, Z⟩
 ·have hi' : i = a.length := by omega
  subst hi'
  have e : zAK a b = acc := hA.symm
  rw [e] at hR
  refine rn6 ?_
  refine sa1 (c' := .box (zT acc)) Z Z Z Z Z Z Z ?_
  refine rn0 ?_
  exact zL hR Z Z
end Go.Proofs.YtkncmbklkhjmgaaGreatDoor
