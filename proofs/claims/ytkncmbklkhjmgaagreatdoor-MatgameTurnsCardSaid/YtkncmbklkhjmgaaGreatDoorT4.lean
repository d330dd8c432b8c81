import Derived.Test.YtkncmbklkhjmgaaGreatDoorT3
set_option linter.unusedVariables false
set_option linter.unusedSimpArgs false
set_option maxRecDepth 100000
namespace Go.Ax.Rt
open Go.Ax.Bg
abbrev zI7 := List (Int × Int)
/-- matgame.Check -/
def zAx (m : List (List zn)) : Int := if 12 < m.length then 2 else if zGi m ≠ 0 then zGi m else if zAJ m = 0 then 8 else if 12 < zAJ m then 2 else 0
def outside (m : List (List zn)) (x : Int × Int) : Bool := decide (x.1 < 0) || (decide ((m.length : Int) ≤ x.1) || (decide (x.2 < 0) || decide ((zAJ m : Int) ≤ x.2)))
/-- regret.Check -/
def histE (m : List (List zn)) (l : zI7) : Int := if zAx m ≠ 0 then zAx m else if 200 < l.length then 2 else if l.any (outside m) = true then 4 else 0
theorem zE7 {m : List (List zn)} (h : zAx m = 0) : zGi m = 0 ∧ m.length ≤ 12 ∧ zAJ m ≠ 0 ∧ zAJ m ≤ 12 ∧ m ≠ [] := by
 unfold zAx at h
 split at h
 ·cases h
 split at h
 ·rename_i h1; exact absurd h h1
 split at h
 ·cases h
 split at h
 ·cases h
 rename_i h1 h2 h3 h4
 refine ⟨Classical.not_not.1 h2, by omega, h3, by omega, ?_⟩
 rintro rfl
 exact h3 Z
/-- How often a row, a column was played. -/
def cnt (f : Int × Int → Int) (l : zI7) (i : Nat) : Nat := (l.filter (fun x => decide (f x = (i : Int)))).length
def cntQ (f : Int × Int → Int) (l : zI7) (n : Nat) : List Rat := (List.range n).map (fun i => ((cnt f l i : Nat) : Rat))
def rowsS (m : List (List Rat)) (l : zI7) (w : Nat) : List Rat := m.map (fun r => zAM r (cntQ Prod.snd l w))
def colsS (m : List (List Rat)) (l : zI7) (w : Nat) : List Rat := (zC5 m w).map (fun c => zAM c (cntQ Prod.fst l m.length))
def elQ (m : List (List Rat)) (x : Int × Int) : Rat := (m.getD x.1.toNat []).getD x.2.toNat 0
def gotQ (m : List (List Rat)) (l : zI7) : Rat := zIy 0 (l.map (elQ m))
def regA (m : List (List Rat)) (l : zI7) (w : Nat) : List Rat := (rowsS m l w).map (fun q => q - gotQ m l)
def regB (m : List (List Rat)) (l : zI7) (w : Nat) : List Rat := (colsS m l w).map (fun q => gotQ m l - q)
def bothR (a b : List Rat) : (List zn × List zn) × Int := if (zED a).2 ≠ 0 then (([], []), 2) else if (zED b).2 ≠ 0 then (([], []), 2) else ((a.map zt, b.map zt), 0)
/-- regret.Regrets -/
def regretsR (m : List (List zn)) (l : zI7) : (List zn × List zn) × Int := if histE m l ≠ 0 then (([], []), histE m l) else bothR (regA (inM m) l (zAJ m)) (regB (inM m) l (zAJ m))
/-- The first greatest number, or the first least one. -/
def bestG (sg : Int) (x : List Rat) : Nat → Nat
 | 0 => 0
 | k + 1 => if 0 < zC7 (x.getD k 0) (x.getD (bestG sg x k) 0) * sg then k else bestG sg x k
def lowQ (m : List (List Rat)) (l : zI7) (w : Nat) : Rat := (colsS m l w).getD (bestG (-1) (colsS m l w) w) 0
def highQ (m : List (List Rat)) (l : zI7) (w : Nat) : Rat := (rowsS m l w).getD (bestG 1 (rowsS m l w) m.length) 0
/-- regret.Bounds -/
def boundsR (m : List (List zn)) (l : zI7) : (zn × zn) × Int :=
 if histE m l ≠ 0 then (([], []), histE m l) else if l = [] then (([], []), 8)
 else if zBp (lowQ (inM m) l (zAJ m) / (l.length : Nat)) && zBp (highQ (inM m) l (zAJ m) / (l.length : Nat)) then ((zt (lowQ (inM m) l (zAJ m) / (l.length : Nat)), zt (highQ (inM m) l (zAJ m) / (l.length : Nat))), 0) else (([], []), 2)
/-- The law. -/
structure Zero (m : List (List zn)) (l : zI7) (a b : List zn) (lo hi : zn) : Prop where
 reg : regretsR m l = ((a, b), 0)
 bnd : boundsR m l = ((lo, hi), 0)
 ga : ∀ s ∈ a, zCf s = 0
 gb : ∀ s ∈ b, zCf s = 0
 la : a.length = m.length
 lb : b.length = zAJ m
 best : ∃ i k s q, bestR a = (((i : Nat) : Int), 0) ∧ bestR b = (((k : Nat) : Int), 0) ∧ i < a.length ∧ k < b.length ∧ zI0 (fun x y => x + y) (a.getD i []) (b.getD k []) = (s, 0) ∧ divR s (zt ((l.length : Nat) : Rat)) = (q, 0) ∧ zI0 (fun x y => x - y) hi lo = (q, 0)
end Go.Ax.Rt
namespace Go.Ax.Dt
def zw (f : Nat → Int) : Nat → Int
 | 0 => 0
 | n + 1 => zw f n + f n
theorem zp {f g : Nat → Int} : ∀ {n : Nat}, (∀ i, i < n → f i = g i) → zw f n = zw g n
 | 0, _ => rfl
 | n + 1, h => by rw [zw, zw, zp (fun i hi => h i (by omega)), h n (by omega)]
theorem zB3 {f : Nat → Int} : ∀ {n : Nat}, (∀ i, i < n → f i = 0) → zw f n = 0
 | 0, _ => rfl
 | n + 1, h => by rw [zw, zB3 (fun i hi => h i (by omega)), h n (by omega)]; rfl
theorem zDK (f g : Nat → Int) : ∀ n, zw (fun i => f i + g i) n = zw f n + zw g n
 | 0 => rfl
 | n + 1 => by rw [zw, zw, zw, zDK f g n]; omega
theorem zBM (c : Int) (f : Nat → Int) : ∀ n, zw (fun i => c * f i) n = c * zw f n
 | 0 => by rw [zw, zw, Int.mul_zero]
 | n + 1 => by rw [zw, zw, zBM c f n, Int.mul_add]
theorem zEP {f : Nat → Int} {n : Nat} (k : Nat) (hk : k < n) (h : ∀ i, i < n → i ≠ k → f i = 0) : zw f n = f k := by
 induction n with
 | zero => omega
 | succ n ih =>
  rw [zw]
  by_cases hkn : k = n
  ·subst hkn
   rw [zB3 (fun i hi => h i (by omega) (by omega))]; omega
  ·rw [ih (by omega) (fun i hi hne => h i (by omega) hne), h n (by omega) (fun e => hkn e.symm)]; omega
theorem zON {f : Nat → Int} {n : Nat} (k l : Nat) (hk : k < n) (hl : l < n) (hkl : k ≠ l) (h : ∀ i, i < n → i ≠ k → i ≠ l → f i = 0) : zw f n = f k + f l := by
 have e : zw f n = zw (fun i => (if i = k then f k else 0) + (if i = k then 0 else f i)) n := by
  refine zp (fun i hi => ?_)
  by_cases hik : i = k
  ·subst hik; simp
  ·simp [hik]
 rw [e, zDK]
 rw [zEP k hk (fun i hi hne => by simp [hne]), zEP l hl (fun i hi hne => by
  by_cases hik : i = k
  ·simp [hik]
  ·simp [hik]; exact h i hi hik hne)]
 have : ¬ l = k := fun e => hkl e.symm
 simp [this]
abbrev V := Nat → Int
abbrev Mx := Nat → V
def sg : Nat → Int
 | 0 => 1
 | n + 1 => -sg n
def skip (i : Nat) (D : Mx) : Mx := fun a c => D (if a < i then a else a + 1) (c + 1)
def det : Nat → Mx → Int
 | 0, _ => 1
 | n + 1, D => zw (fun i => sg i * (D i 0 * det n (skip i D))) (n + 1)
def put (D : Mx) (r : Nat) (v : V) : Mx := fun a => if a = r then v else D a
theorem zDX : ∀ {n : Nat} {D E : Mx}, (∀ a c, a < n → c < n → D a c = E a c) → det n D = det n E
 | 0, _, _, _ => rfl
 | n + 1, D, E, h => by
  rw [det, det]
  refine zp (fun i hi => ?_)
  rw [h i 0 hi (by omega), zDX (D := skip i D) (E := skip i E) (fun a c ha hc => ?_)]
  unfold skip
  exact h _ _ (by split <;> omega) (by omega)
theorem zDI (D : Mx) (r : Nat) (v : V) : skip r (put D r v) = skip r D := by
 funext a c
 unfold skip put
 have : ¬ (if a < r then a else a + 1) = r := by split <;> omega
 rw [if_neg this]
theorem zHA {D : Mx} {i r : Nat} {v : V} (h : i ≠ r) : skip i (put D r v) = put (skip i D) (if r < i then r else r - 1) (fun c => v (c + 1)) := by
 funext a c
 unfold skip put
 by_cases hri : r < i
 ·rw [if_pos hri]
  by_cases ha : a = r
  ·subst ha; rw [if_pos hri]; simp
  ·by_cases hai : a < i
   ·simp [hai, ha]
   ·have : ¬ a + 1 = r := by omega
    simp [hai, ha, this]
 ·rw [if_neg hri]
  by_cases ha : a = r - 1
  ·subst ha
   have h1 : ¬ r - 1 < i := by omega
   have h2 : r - 1 + 1 = r := by omega
   simp [h1, h2]
  ·by_cases hai : a < i
   ·have : ¬ a = r := by omega
    simp [hai, ha, this]
   ·have : ¬ a + 1 = r := by omega
    simp [hai, ha, this]
/-- The determinant is linear in each row. -/
theorem zJx : ∀ (n : Nat) (D : Mx) (r : Nat) (u v : V), r < n → det n (put D r (fun c => u c + v c)) = det n (put D r u) + det n (put D r v)
 | 0, _, _, _, _, h => absurd h (Nat.not_lt_zero _)
 | n + 1, D, r, u, v, h => by
  rw [det, det, det, ← zDK]
  refine zp (fun i hi => ?_)
  by_cases hir : i = r
  ·subst hir
   rw [zDI, zDI, zDI]
   have e : ∀ w : V, put D i w i 0 = w 0 := fun w => by simp [put]
   rw [e, e, e, Int.add_mul, Int.mul_add]
  ·have e : ∀ w : V, put D r w i 0 = D i 0 := fun w => by simp [put, hir]
   rw [zHA hir, zHA hir, zHA hir, e, e, e, zJx n _ _ _ _ (by split <;> omega), Int.mul_add, Int.mul_add]
theorem zGw : ∀ (n : Nat) (D : Mx) (r : Nat) (k : Int) (v : V), r < n → det n (put D r (fun c => k * v c)) = k * det n (put D r v)
 | 0, _, _, _, _, h => absurd h (Nat.not_lt_zero _)
 | n + 1, D, r, k, v, h => by
  rw [det, det, ← zBM]
  refine zp (fun i hi => ?_)
  by_cases hir : i = r
  ·subst hir
   rw [zDI, zDI]
   have e : ∀ w : V, put D i w i 0 = w 0 := fun w => by simp [put]
   rw [e, e, Int.mul_left_comm k, Int.mul_assoc]
  ·have e : ∀ w : V, put D r w i 0 = D i 0 := fun w => by simp [put, hir]
   rw [zHA hir, zHA hir, e, e, zGw n _ _ _ _ (by split <;> omega), Int.mul_left_comm k, Int.mul_left_comm k]
theorem zIU (n : Nat) (D : Mx) (r : Nat) (h : r < n) : det n (put D r (fun _ => 0)) = 0 := by
 have := zGw n D r 0 (fun _ => 0) h
 simpa using this
/-- Two rows beside each other that are equal. -/
theorem zMU : ∀ (n : Nat) (D : Mx) (r : Nat), r + 1 < n → (∀ c, c < n → D r c = D (r + 1) c) → det n D = 0
 | 0, _, _, h, _ => absurd h (Nat.not_lt_zero _)
 | n + 1, D, r, h, he => by
  rw [det, zON r (r + 1) (by omega) h (by omega) (fun i hi h1 h2 => ?_)]
  ·have e : det n (skip r D) = det n (skip (r + 1) D) := zDX (fun a c ha hc => by
    unfold skip
    by_cases h1 : a < r
    ·rw [if_pos h1, if_pos (by omega)]
    ·rw [if_neg h1]
     by_cases h2 : a < r + 1
     ·have : a = r := by omega
      subst this
      rw [if_pos h2]; exact (he _ (by omega)).symm
     ·rw [if_neg h2])
   rw [e, he 0 (by omega), sg, Int.neg_mul]
   omega
  ·have := zMU n (skip i D) (if r < i then r else r - 1) (by split <;> omega) (fun c hc => by
    unfold skip
    by_cases hri : r < i
    ·rw [if_pos hri, if_pos (show r < i from hri), if_pos (show r + 1 < i by omega)]
     exact he _ (by omega)
    ·have e1 : ¬ r - 1 < i := by omega
     have e2 : ¬ r - 1 + 1 < i := by omega
     rw [if_neg hri, if_neg e1, if_neg e2, show r - 1 + 1 = r by omega]
     exact he _ (by omega))
   rw [this, Int.mul_zero, Int.mul_zero]
theorem zKb (D : Mx) {r s : Nat} (u v : V) (h : r ≠ s) : put (put D r u) s v = put (put D s v) r u := by
 funext a
 unfold put
 by_cases h1 : a = s
 ·have : ¬ a = r := fun e => h (e.symm.trans h1)
  simp [h1]
  intro e; exact absurd e.symm h
 ·simp [h1]
theorem zKc (D : Mx) (r : Nat) : put D r (D r) = D := by
 funext a; unfold put; split
 ·rename_i h; rw [h]
 ·rfl
/-- Exchange of two rows beside each other. -/
theorem det_swap (n : Nat) (D : Mx) (r : Nat) (u v : V) (h : r + 1 < n) : det n (put (put D r u) (r + 1) v) = - det n (put (put D r v) (r + 1) u) := by
 have key : ∀ w : V, det n (put (put D r w) (r + 1) w) = 0 := fun w => zMU n _ r h (fun c _ => by unfold put; simp)
 have h0 := key (fun c => u c + v c)
 have add0 : ∀ w : V, det n (put (put D r (fun c => u c + v c)) (r + 1) w) = det n (put (put D r u) (r + 1) w) + det n (put (put D r v) (r + 1) w) := fun w => by
  rw [zKb D _ w (by omega), zJx n _ _ _ _ (by omega), zKb D u w (by omega), zKb D v w (by omega)]
 rw [zJx n _ _ _ _ h, add0, add0] at h0
 have h1 := key u
 have h2 := key v
 omega
theorem zOl : ∀ (k : Nat) (n : Nat) (D : Mx) (r : Nat), r + (k + 1) < n → (∀ c, c < n → D r c = D (r + (k + 1)) c) → det n D = 0
 | 0, n, D, r, h, he => zMU n D r h he
 | k + 1, n, D, r, h, he => by
  have e : D = put (put D (r + (k + 1)) (D (r + (k + 1)))) (r + (k + 1) + 1) (D (r + (k + 1) + 1)) := by
   rw [zKc, zKc]
  rw [e, det_swap n D (r + (k + 1)) _ _ (by omega), zOl k n _ r (by omega) (fun c hc => ?_)]
  ·rfl
  ·have h1 : ¬ r = r + (k + 1) + 1 := by omega
   have h2 : ¬ r = r + (k + 1) := by omega
   have h3 : ¬ r + (k + 1) = r + (k + 1) + 1 := by omega
   unfold put
   rw [if_neg h1, if_neg h2, if_neg h3, if_pos rfl]
   exact he c hc
theorem det_rep (n : Nat) (D : Mx) {r s : Nat} (hr : r < n) (hs : s < n) (hne : r ≠ s) : det n (put D r (D s)) = 0 := by
 rcases Nat.lt_or_gt_of_ne hne with h | h
 ·refine zOl (s - r - 1) n _ r (by omega) (fun c _ => ?_)
  rw [show r + (s - r - 1 + 1) = s by omega]
  have : ¬ s = r := fun e => hne e.symm
  simp [put, this]
 ·refine zOl (r - s - 1) n _ s (by omega) (fun c _ => ?_)
  rw [show s + (r - s - 1 + 1) = r by omega]
  have : ¬ s = r := fun e => hne e.symm
  simp [put, this]
/-- A row that is a sum of multiples of the rows. -/
theorem zNK (n : Nat) (D : Mx) (r : Nat) (hr : r < n) (t : V) : ∀ k, k ≤ n → det n (put D r (fun c => zw (fun i => t i * D i c) k)) = if r < k then t r * det n D else 0
 | 0, _ => by
  rw [if_neg (Nat.not_lt_zero _)]
  exact zIU n D r hr
 | k + 1, hk => by
  have ih := zNK n D r hr t k (by omega)
  have e : (fun c => zw (fun i => t i * D i c) (k + 1)) = (fun c => (fun c => zw (fun i => t i * D i c) k) c + (fun c => t k * D k c) c) := rfl
  rw [e, zJx n D r _ _ hr, ih, zGw n D r _ _ hr]
  by_cases hkr : k = r
  ·subst hkr
   rw [if_neg (by omega), if_pos (by omega), zKc]; omega
  ·rw [det_rep n D hr (by omega) (fun e => hkr e.symm), Int.mul_zero, Int.add_zero]
   by_cases h1 : r < k
   ·rw [if_pos h1, if_pos (by omega)]
   ·rw [if_neg h1, if_neg (by omega)]
theorem zEj {n : Nat} {D : Mx} {r : Nat} (hr : r < n) {t w : V} (h : ∀ c, c < n → w c = zw (fun i => t i * D i c) n) : det n (put D r w) = t r * det n D := by
 have := zNK n D r hr t n (Nat.le_refl _)
 rw [if_pos hr] at this
 rw [← this]
 refine zDX (fun a c _ hc => ?_)
 unfold put
 split
 ·exact h c hc
 ·rfl
def zK9 : Mx := fun a c => if a = c then 1 else 0
theorem zNM : ∀ n : Nat, det n zK9 = 1
 | 0 => rfl
 | n + 1 => by
  rw [det, zEP 0 (by omega) (fun i hi hne => by simp [zK9, hne])]
  have : det n (skip 0 zK9) = det n zK9 := zDX (fun a c _ _ => by simp [skip, zK9])
  rw [this, zNM n]; simp [sg, zK9]
/-- How great a determinant is. -/
theorem zJk {f : Nat → Int} {B : Nat} : ∀ {n : Nat}, (∀ i, i < n → (f i).natAbs ≤ B) → (zw f n).natAbs ≤ n * B
 | 0, _ => by simp [zw]
 | n + 1, h => by
  rw [zw]
  have h1 := zJk (n := n) (fun i hi => h i (by omega))
  have h2 := h n (by omega)
  have h3 := Int.natAbs_add_le (zw f n) (f n)
  rw [Nat.add_mul]; omega
theorem sg_abs : ∀ n, (sg n).natAbs = 1
 | 0 => rfl
 | n + 1 => by rw [sg, Int.natAbs_neg, sg_abs n]
def fct : Nat → Nat
 | 0 => 1
 | n + 1 => (n + 1) * fct n
theorem zJC {B : Nat} : ∀ {n : Nat} {D : Mx}, (∀ a c, a < n → c < n → (D a c).natAbs ≤ B) → (det n D).natAbs ≤ fct n * B ^ n
 | 0, _, _ => by simp [det, fct]
 | n + 1, D, h => by
  rw [det]
  have := zJk (f := fun i => sg i * (D i 0 * det n (skip i D))) (B := B * (fct n * B ^ n)) (n := n + 1) (fun i hi => by
   rw [Int.natAbs_mul, Int.natAbs_mul, sg_abs, Nat.one_mul]
   refine Nat.mul_le_mul (h i 0 hi (by omega)) (zJC (fun a c ha hc => ?_))
   unfold skip
   exact h _ _ (by split <;> omega) (by omega))
  refine Nat.le_trans this ?_
  rw [fct, Nat.pow_succ]
  have e : (n + 1) * (B * (fct n * B ^ n)) = (n + 1) * fct n * (B ^ n * B) := by
   rw [Nat.mul_left_comm B, Nat.mul_comm B, Nat.mul_assoc]
  omega
/-- A column of the table, and the column of the beginning that it stands for. -/
def Sol (n : Nat) (D : Mx) (d : Int) (t0 t : V) : Prop := ∀ c, c < n → zw (fun i => t i * D i c) n = d * t0 c
theorem zQd {n : Nat} {D : Mx} {d s : Int} {t0 t : V} (hd : d ≠ 0) (hs : s * s = 1) (hD : det n D = s * d) (h : Sol n D d t0 t) {i : Nat} (hi : i < n) : t i = s * det n (put D i t0) := by
 have h1 := zEj (w := fun c => d * t0 c) hi (fun c hc => (h c hc).symm)
 rw [zGw n D i d t0 hi, hD] at h1
 have h2 : d * det n (put D i t0) = d * (s * t i) := by rw [h1, Int.mul_left_comm, Int.mul_comm (t i) d, Int.mul_left_comm]
 have h3 := Int.eq_of_mul_eq_mul_left hd h2
 rw [h3, ← Int.mul_assoc, hs, Int.one_mul]
/-- The pivot: the determinant of the new rows, and exact quotients. -/
theorem zLv {n : Nat} {D : Mx} {d s : Int} {t0 t : V} (hd : d ≠ 0) (hs : s * s = 1) (hD : det n D = s * d) (h : Sol n D d t0 t) {r : Nat} (hr : r < n) : det n (put D r t0) = s * t r := by
 rw [zQd hd hs hD h hr, ← Int.mul_assoc, hs, Int.one_mul]
theorem sumZ_put {n : Nat} {D : Mx} {r : Nat} (hr : r < n) (v : V) (t : V) (c : Nat) : zw (fun i => t i * put D r v i c) n = zw (fun i => t i * D i c) n - t r * D r c + t r * v c := by
 have e : ∀ i, i < n → t i * put D r v i c = t i * D i c + (if i = r then t r * v c - t r * D r c else 0) := by
  intro i hi
  by_cases hir : i = r
  ·subst hir; simp [put]; omega
  ·simp [put, hir]
 rw [zp e, zDK, zEP (f := fun i => if i = r then t r * v c - t r * D r c else 0) r hr (fun i hi hne => by simp [hne])]
 simp; omega
theorem zLw {n : Nat} {D : Mx} {d s : Int} {tc0 tc tj0 tj : V} (hd : d ≠ 0) (hs : s * s = 1) (hD : det n D = s * d) (hc : Sol n D d tc0 tc) (hj : Sol n D d tj0 tj) {r : Nat} (hr : r < n) (hp : tc r ≠ 0) :
 (∀ i, i < n → i ≠ r → d ∣ tj i * tc r - tc i * tj r) ∧ Sol n (put D r tc0) (tc r) tj0 (fun i => if i = r then tj r else (tj i * tc r - tc i * tj r) / d) := by
 have hD' := zLv hd hs hD hc hr
 -- the numerators are a solution of d times the new equation
 let N : V := fun i => if i = r then d * tj r else tj i * tc r - tc i * tj r
 have hN : ∀ c, c < n → zw (fun i => N i * put D r tc0 i c) n = d * tc r * tj0 c := by
  intro c hcn
  rw [sumZ_put hr]
  have e : ∀ i, i < n → N i * D i c = (tc r * (tj i * D i c) + (-(tj r)) * (tc i * D i c)) + (if i = r then d * tj r * D r c else 0) := by
   intro i hi
   by_cases hir : i = r
   ·subst hir
    simp only [N, if_true]
    have : tc i * (tj i * D i c) + -tj i * (tc i * D i c) = 0 := by
     rw [Int.neg_mul, Int.mul_left_comm]; omega
    omega
   ·simp only [N, hir, if_false, Int.add_zero]
    rw [Int.sub_mul, Int.neg_mul, Int.mul_comm (tj i) (tc r), Int.mul_assoc, Int.mul_comm (tc i) (tj r), Int.mul_assoc]; omega
  rw [zp e, zDK, zDK, zBM, zBM, hj c hcn, hc c hcn, zEP (f := fun i => if i = r then d * tj r * D r c else 0) r hr (fun i hi hne => by simp [hne])]
  simp only [N, if_true]
  have e1 : tc r * (d * tj0 c) = d * tc r * tj0 c := by rw [← Int.mul_assoc, Int.mul_comm (tc r) d]
  have e2 : -tj r * (d * tc0 c) = -(d * tj r * tc0 c) := by rw [Int.neg_mul, ← Int.mul_assoc, Int.mul_comm (tj r) d]
  rw [e1, e2]; omega
 have hex : ∀ i, i < n → N i = d * (s * det n (put (put D r tc0) i tj0)) := by
  intro i hi
  have h1 := zEj (D := put D r tc0) (w := fun c => d * tc r * tj0 c) hi (fun c hcn => (hN c hcn).symm)
  rw [zGw n _ i (d * tc r) tj0 hi, hD'] at h1
  have h2 : tc r * (d * (s * det n (put (put D r tc0) i tj0))) = tc r * N i := by
   have h3 : s * (d * tc r * det n (put (put D r tc0) i tj0)) = s * (N i * (s * tc r)) := by rw [h1]
   have h4 : s * (N i * (s * tc r)) = tc r * N i := by
    rw [Int.mul_left_comm, ← Int.mul_assoc s s, hs, Int.one_mul, Int.mul_comm]
   rw [h4] at h3
   rw [← h3]
   rw [Int.mul_assoc d, Int.mul_left_comm s d, Int.mul_left_comm s (tc r), Int.mul_left_comm d (tc r)]
  exact (Int.eq_of_mul_eq_mul_left hp h2).symm
 refine ⟨fun i hi hne => ?_, ?_⟩
 ·have := hex i hi
  simp only [N, hne, if_false] at this
  exact ⟨_, this⟩
 ·intro c hcn
  have h1 := hN c hcn
  have h2 : ∀ i, i < n → N i * put D r tc0 i c = d * ((fun i => if i = r then tj r else (tj i * tc r - tc i * tj r) / d) i * put D r tc0 i c) := by
   intro i hi
   by_cases hir : i = r
   ·subst hir; simp only [N, if_true]; rw [Int.mul_assoc]
   ·have h3 := hex i hi
    simp only [N, hir, if_false] at h3 ⊢
    have h4 : (tj i * tc r - tc i * tj r) / d = s * det n (put (put D r tc0) i tj0) := by rw [h3, Int.mul_ediv_cancel_left _ hd]
    rw [h4, ← Int.mul_assoc, ← h3]
  rw [zp h2, zBM, Int.mul_assoc d] at h1
  exact Int.eq_of_mul_eq_mul_left hd h1
/-- The quotient of the absolute values, with the sign of the quotient. -/
def zDi (x d : Int) : Int := if (decide (x < 0) != decide (d < 0)) = true then -((x.natAbs / d.natAbs : Nat) : Int) else ((x.natAbs / d.natAbs : Nat) : Int)
theorem zHP {q d : Int} (hd : d ≠ 0) : zDi (d * q) d = q := by
 have hn : (d * q).natAbs / d.natAbs = q.natAbs := by rw [Int.natAbs_mul, Nat.mul_div_cancel_left _ (by omega)]
 unfold zDi
 rw [hn]
 rcases Int.lt_trichotomy q 0 with hq | hq | hq
 ·rcases Int.lt_or_gt_of_ne hd with h | h
  ·have h1 : ¬ d * q < 0 := Int.not_lt.2 (Int.le_of_lt (Int.mul_pos_of_neg_of_neg h hq))
   simp [h, h1]; omega
  ·have h1 : d * q < 0 := Int.mul_neg_of_pos_of_neg h hq
   have h2 : ¬ d < 0 := by omega
   simp [h1, h2]; omega
 ·subst hq; simp
 ·rcases Int.lt_or_gt_of_ne hd with h | h
  ·have h1 : d * q < 0 := Int.mul_neg_of_neg_of_pos h hq
   simp [h, h1]; omega
  ·have h1 : ¬ d * q < 0 := Int.not_lt.2 (Int.le_of_lt (Int.mul_pos h hq))
   have h2 : ¬ d < 0 := by omega
   simp [h1, h2]; omega
theorem zLa {x d : Int} (hd : d ≠ 0) (h : d ∣ x) : zDi x d = x / d := by
 obtain ⟨q, rfl⟩ := h
 rw [zHP hd, Int.mul_ediv_cancel_left _ hd]
abbrev Tab := List (List Int)
def at2 (T : Tab) (i j : Nat) : Int := (T.getD i []).getD j 0
def zFP (R K : List Int) (p f d : Int) : List Int := (List.range R.length).map (fun j => zDi (R.getD j 0 * p - f * K.getD j 0) d)
def zEa (T : Tab) (k c : Nat) (d : Int) : Tab := (List.range T.length).map (fun i => if i = k then T.getD k [] else zFP (T.getD i []) (T.getD k []) (at2 T k c) (at2 T i c) d)
theorem getD_set {α : Type} (l : List α) (d x : α) (i j : Nat) : (l.set i x).getD j d = if j = i ∧ i < l.length then x else l.getD j d := by
 by_cases h : j = i
 ·subst h
  by_cases h2 : j < l.length
  ·simp [List.getD, h2]
  ·have : l.length ≤ j := by omega
   simp [List.getD, h2, this]
 ·have : ¬ i = j := fun e => h e.symm
  simp [List.getD, h, List.getElem?_set, this]
theorem zJE (T : Tab) (k c : Nat) (d : Int) : (zEa T k c d).length = T.length := by simp [zEa]
theorem zQ3 (T : Tab) (k c : Nat) (d : Int) {i : Nat} (hi : i < T.length) : (zEa T k c d).getD i [] = if i = k then T.getD k [] else zFP (T.getD i []) (T.getD k []) (at2 T k c) (at2 T i c) d := by
 unfold zEa
 simp [List.getD, hi]
theorem zM7 (T : Tab) (k c : Nat) (d : Int) {L : Nat} (hT : ∀ x ∈ T, x.length = L) {i j : Nat} (hi : i < T.length) (hj : j < L) : at2 (zEa T k c d) i j = if i = k then at2 T k j else zDi (at2 T i j * at2 T k c - at2 T i c * at2 T k j) d := by
 unfold at2
 rw [zQ3 T k c d hi]
 have hl : (T.getD i []).length = L := hT _ (by simp [List.getD, hi])
 by_cases h : i = k
 ·rw [if_pos h, if_pos h]
 ·rw [if_neg h, if_neg h]
  unfold zFP
  rw [hl]
  have : ∀ f : Nat → Int, ((List.range L).map f).getD j 0 = f j := fun f => by simp [List.getD, hj]
  rw [this]; rfl
theorem zNO (R K : List Int) (p f d : Int) : (zFP R K p f d).length = R.length := by simp [zFP]
theorem zJF (T : Tab) (k c : Nat) (d : Int) {L : Nat} (hk : k < T.length) (hT : ∀ x ∈ T, x.length = L) : ∀ x ∈ zEa T k c d, x.length = L := by
 intro x hx
 obtain ⟨i, hi, rfl⟩ := List.mem_map.1 hx
 have hi : i < T.length := by simpa using hi
 split
 ·exact hT _ (by simp [List.getD, hk])
 ·rw [zNO]; exact hT _ (by simp [List.getD, hi])
end Go.Ax.Dt
namespace Go.Ax.Sx
open Go.Ax.Dt
structure St where
 rows : Tab
 den : Int
 basis : List Nat
def zHs (T : Tab) (j : Nat) : V := fun i => at2 T i j
/-- the columns of the beginning that are in the basis, and one for the costs -/
def zDA (M : Tab) (m : Nat) (β : List Nat) : Mx := fun a => if a < m then zHs M (β.getD a 0) else fun c => if c = a then 1 else 0
/-- What each table keeps: m conditions and the costs, N unknowns and the right side. -/
structure Inv (m N : Nat) (M : Tab) (s : St) : Prop where
 n : s.rows.length = m + 1
 row : ∀ x ∈ s.rows, x.length = N + 1
 b : s.basis.length = m
 bc : ∀ i, i < m → s.basis.getD i 0 < N
 dp : 0 < s.den
 unit : ∀ i k, i < m + 1 → k < m → at2 s.rows i (s.basis.getD k 0) = if i = k then s.den else 0
 sg : ∃ σ : Int, σ * σ = 1 ∧ det (m + 1) (zDA M m s.basis) = σ * s.den
 sol : ∀ j, j < N + 1 → Sol (m + 1) (zDA M m s.basis) s.den (zHs M j) (zHs s.rows j)
def sgZ (p : Int) : Int := if p < 0 then -1 else 1
theorem sgZ_sq (p : Int) : sgZ p * sgZ p = 1 := by unfold sgZ; split <;> rfl
theorem zQc {p : Int} (h : p ≠ 0) : 0 < sgZ p * p := by
 unfold sgZ
 split
 ·omega
 ·omega
def zEn (T : Tab) (r c : Nat) (d : Int) : Tab := if at2 T r c < 0 then (zEa T r c d).map (fun l => l.map (fun x => -x)) else zEa T r c d
def piv (s : St) (r c : Nat) : St := ⟨zEn s.rows r c s.den, if at2 s.rows r c < 0 then -(at2 s.rows r c) else at2 s.rows r c, s.basis.set r c⟩
theorem zIk (s : St) (r c : Nat) : (piv s r c).den = sgZ (at2 s.rows r c) * at2 s.rows r c := by
 show (if at2 s.rows r c < 0 then -(at2 s.rows r c) else at2 s.rows r c) = _
 unfold sgZ
 split <;> omega
theorem at2_neg (T : Tab) (i j : Nat) : at2 (T.map (fun l => l.map (fun x => -x))) i j = -(at2 T i j) := by
 unfold at2
 simp only [List.getD, List.getElem?_map]
 cases h : T[i]? with
 | none => rfl
 | some l =>
  show ((l.map (fun x => -x))[j]?).getD 0 = -((l[j]?).getD 0)
  rw [List.getElem?_map]
  cases l[j]? <;> rfl
theorem zPk (T : Tab) (r c : Nat) (d : Int) {L : Nat} (hT : ∀ x ∈ T, x.length = L) {i j : Nat} (hi : i < T.length) (hj : j < L) :
 at2 (zEn T r c d) i j = sgZ (at2 T r c) * (if i = r then at2 T r j else zDi (at2 T i j * at2 T r c - at2 T i c * at2 T r j) d) := by
 unfold zEn sgZ
 split
 ·rw [at2_neg, zM7 T r c d hT hi hj]; omega
 ·rw [zM7 T r c d hT hi hj, Int.one_mul]
theorem zKa (T : Tab) (r c : Nat) (d : Int) : (zEn T r c d).length = T.length := by
 unfold zEn
 split
 ·rw [List.length_map, zJE]
 ·rw [zJE]
theorem pivT_row (T : Tab) (r c : Nat) (d : Int) {L : Nat} (hr : r < T.length) (hT : ∀ x ∈ T, x.length = L) : ∀ x ∈ zEn T r c d, x.length = L := by
 unfold zEn
 split
 ·intro x hx
  obtain ⟨y, hy, rfl⟩ := List.mem_map.1 hx
  rw [List.length_map]
  exact zJF T r c d hr hT y hy
 ·exact zJF T r c d hr hT
theorem basM_set {M : Tab} {m : Nat} {β : List Nat} (hb : β.length = m) {r : Nat} (hr : r < m) (c : Nat) : zDA M m (β.set r c) = put (zDA M m β) r (zHs M c) := by
 funext a
 show (if a < m then zHs M ((β.set r c).getD a 0) else _) = if a = r then zHs M c else (if a < m then zHs M (β.getD a 0) else _)
 by_cases ha : a < m
 ·rw [if_pos ha, if_pos ha, getD_set]
  by_cases h : a = r
  ·rw [if_pos ⟨h.symm ▸ rfl, by omega⟩, if_pos h]
  ·rw [if_neg (fun q => h q.1), if_neg h]
 ·rw [if_neg ha, if_neg ha, if_neg (by omega)]
theorem zRk {n : Nat} {D : Mx} {d : Int} {t0 t t' : V} (h : Sol n D d t0 t) (he : ∀ i, i < n → t' i = t i) : Sol n D d t0 t' := by
 intro c hc
 rw [← h c hc]
 exact zp (fun i hi => by rw [he i hi])
theorem sol_smul {n : Nat} {D : Mx} {d : Int} {t0 t : V} (k : Int) (h : Sol n D d t0 t) : Sol n D (k * d) t0 (fun i => k * t i) := by
 intro c hc
 rw [Int.mul_assoc, ← h c hc, ← zBM]
 exact zp (fun i hi => Int.mul_assoc _ _ _)
/-- A pivot keeps everything. -/
theorem Inv.piv {m N : Nat} {M : Tab} {s : St} (h : Inv m N M s) {r c : Nat} (hr : r < m) (hc : c < N) (hp : at2 s.rows r c ≠ 0) : Inv m N M (piv s r c) := by
 obtain ⟨σ, hs, hD⟩ := h.sg
 have hd : s.den ≠ 0 := by have := h.dp; omega
 have hr1 : r < m + 1 := by omega
 have hrl : r < s.rows.length := by rw [h.n]; omega
 have hb := basM_set (M := M) h.b hr c
 have hpz := zQc hp
 have hat : ∀ i j, i < m + 1 → j < N + 1 → at2 (Sx.piv s r c).rows i j = sgZ (at2 s.rows r c) * (if i = r then at2 s.rows r j else zDi (at2 s.rows i j * at2 s.rows r c - at2 s.rows i c * at2 s.rows r j) s.den) := fun i j hi hj => zPk s.rows r c s.den h.row (by rw [h.n]; exact hi) hj
 refine ⟨?_, ?_, ?_, ?_, ?_, ?_, ?_, ?_⟩
 ·show (zEn _ _ _ _).length = _
  rw [zKa, h.n]
 ·exact pivT_row s.rows r c s.den hrl h.row
 ·show (s.basis.set r c).length = m
  rw [List.length_set, h.b]
 ·intro i hi
  show (s.basis.set r c).getD i 0 < N
  rw [getD_set]
  split
  ·exact hc
  ·exact h.bc i hi
 ·rw [zIk]; exact hpz
 ·intro i k hi hk
  have hbk : (Sx.piv s r c).basis.getD k 0 = if k = r then c else s.basis.getD k 0 := by
   show (s.basis.set r c).getD k 0 = _
   rw [getD_set]
   by_cases e : k = r
   ·rw [if_pos ⟨e, by rw [h.b]; exact hr⟩, if_pos e]
   ·rw [if_neg (fun q => e q.1), if_neg e]
  rw [hbk, zIk]
  by_cases e : k = r
  ·subst e
   rw [if_pos rfl, hat i c hi (by omega)]
   by_cases e2 : i = k
   ·rw [if_pos e2, if_pos e2]
   ·rw [if_neg e2, if_neg e2]
    have : at2 s.rows i c * at2 s.rows k c - at2 s.rows i c * at2 s.rows k c = s.den * 0 := by omega
    rw [this, zHP hd, Int.mul_zero]
  ·have hrk : at2 s.rows r (s.basis.getD k 0) = 0 := by rw [h.unit r k hr1 hk, if_neg (fun q => e q.symm)]
   have hik := h.unit i k hi hk
   rw [if_neg e, hat i _ hi (by have := h.bc k hk; omega), hrk, hik]
   by_cases e2 : i = k
   ·have e5 : ¬ i = r := fun q => e (e2 ▸ q)
    rw [if_neg e5, if_pos e2, if_pos e2, Int.mul_zero, Int.sub_zero, zHP hd]
   ·rw [if_neg e2, if_neg e2]
    by_cases e3 : i = r
    ·rw [if_pos e3, Int.mul_zero]
    ·rw [if_neg e3, Int.mul_zero, Int.sub_zero]
     have : (0 : Int) * at2 s.rows r c = s.den * 0 := by omega
     rw [this, zHP hd, Int.mul_zero]
 ·refine ⟨sgZ (at2 s.rows r c) * σ, ?_, ?_⟩
  ·have := sgZ_sq (at2 s.rows r c)
   rw [Int.mul_assoc, Int.mul_left_comm σ, hs, Int.mul_one, this]
  ·show det (m + 1) (zDA M m (s.basis.set r c)) = _
   rw [hb, zLv hd hs hD (h.sol c (by omega)) hr1, zIk]
   have := sgZ_sq (at2 s.rows r c)
   show σ * at2 s.rows r c = _
   rw [Int.mul_assoc, Int.mul_left_comm σ, ← Int.mul_assoc, this, Int.one_mul]
 ·intro j hj
  show Sol (m + 1) (zDA M m (s.basis.set r c)) _ _ _
  rw [hb, zIk]
  obtain ⟨p1, p2⟩ := zLw hd hs hD (h.sol c (by omega)) (h.sol j hj) hr1 hp
  refine zRk (sol_smul (sgZ (at2 s.rows r c)) p2) (fun i hi => ?_)
  show at2 (Sx.piv s r c).rows i j = _
  rw [hat i j hi hj]
  by_cases e : i = r
  ·rw [if_pos e, if_pos e]; rfl
  ·rw [if_neg e, if_neg e]
   have := zLa hd (p1 i hi e)
   show _ * zDi (zHs s.rows j i * zHs s.rows c r - zHs s.rows c i * zHs s.rows j r) s.den = _
   rw [this]
/-- The elements of each table are determinants. -/
theorem Inv.bound {m N B : Nat} {M : Tab} {s : St} (h : Inv m N M s) (h1 : 1 ≤ B) (hB : ∀ i j, i < m + 1 → j < N + 1 → (at2 M i j).natAbs ≤ B) :
 (∀ i j, i < m + 1 → j < N + 1 → (at2 s.rows i j).natAbs ≤ fct (m + 1) * B ^ (m + 1)) ∧ s.den.natAbs ≤ fct (m + 1) * B ^ (m + 1) := by
 obtain ⟨σ, hs, hD⟩ := h.sg
 have hσ : σ.natAbs = 1 := by
  have := congrArg Int.natAbs hs
  rw [Int.natAbs_mul] at this
  exact Nat.eq_one_of_mul_eq_one_right (by simpa using this)
 have hd : s.den ≠ 0 := by have := h.dp; omega
 have hbas : ∀ a c, a < m + 1 → c < m + 1 → (zDA M m s.basis a c).natAbs ≤ B := by
  intro a c ha hc
  unfold zDA
  split
  ·rename_i h2
   exact hB c _ hc (by have := h.bc a h2; omega)
  ·show (if c = a then (1 : Int) else 0).natAbs ≤ B
   split
   ·exact h1
   ·exact Nat.zero_le _
 refine ⟨fun i j hi hj => ?_, ?_⟩
 ·have h2 := zQd hd hs hD (h.sol j hj) hi
  have h3 : at2 s.rows i j = σ * det (m + 1) (put (zDA M m s.basis) i (zHs M j)) := h2
  rw [h3, Int.natAbs_mul, hσ, Nat.one_mul]
  refine zJC (fun a c ha hc => ?_)
  unfold put
  split
  ·exact hB c j hc hj
  ·exact hbas a c ha hc
 ·have h2 : (det (m + 1) (zDA M m s.basis)).natAbs = s.den.natAbs := by rw [hD, Int.natAbs_mul, hσ, Nat.one_mul]
  rw [← h2]
  exact zJC hbas
theorem zGa (f : Nat → Nat → Int) (m : Nat) : ∀ n : Nat, zw (fun i => zw (fun j => f i j) m) n = zw (fun j => zw (fun i => f i j) n) m
 | 0 => by
  show (0 : Int) = _
  rw [zB3 (f := fun j => zw (fun i => f i j) 0) (fun i _ => rfl)]
 | n + 1 => by
  show zw (fun i => zw (fun j => f i j) m) n + zw (fun j => f n j) m = _
  rw [zGa f m n, ← zDK]
  exact zp (fun i _ => rfl)
theorem zRr (c : Int) (f : Nat → Int) (n : Nat) : zw (fun i => f i * c) n = zw f n * c := by
 rw [Int.mul_comm, ← zBM]
 exact zp (fun i _ => Int.mul_comm _ _)
theorem zCM {f : Nat → Int} {n k : Nat} (hk : k < n) : zw (fun j => if j = k then f j else 0) n = f k := by
 rw [zEP k hk (fun i hi hne => by rw [if_neg hne]), if_pos rfl]
theorem zOM : ∀ {n : Nat} {f : Nat → Int}, 0 < zw f n → ∃ i, i < n ∧ 0 < f i
 | 0, f, h => absurd h (by show ¬ (0 : Int) < 0; omega)
 | n + 1, f, h => by
  have h : 0 < zw f n + f n := h
  by_cases h1 : 0 < f n
  ·exact ⟨n, Nat.lt_succ_self n, h1⟩
  ·obtain ⟨i, hi, h2⟩ := zOM (n := n) (f := f) (by omega)
   exact ⟨i, by omega, h2⟩
/-- a row of the table times a vector -/
def zBu (T : Tab) (N : Nat) (x : Nat → Int) (i : Nat) : Int := zw (fun j => at2 T i j * x j) (N + 1)
/-- The vectors that satisfy the rows of the beginning satisfy the rows of each table, and the other way round. -/
theorem Inv.ker {m N : Nat} {M : Tab} {s : St} (h : Inv m N M s) (x : Nat → Int) (z : Int) :
 (∀ i, i < m + 1 → zBu M N x i + (if i = m then z else 0) = 0) ↔ (∀ i, i < m + 1 → zBu s.rows N x i + (if i = m then s.den * z else 0) = 0) := by
 obtain ⟨σ, hs, hD⟩ := h.sg
 have hd : s.den ≠ 0 := by have := h.dp; omega
 let t : V := fun i => zBu s.rows N x i + (if i = m then s.den * z else 0)
 have key : ∀ c, c < m + 1 → zw (fun i => t i * zDA M m s.basis i c) (m + 1) = s.den * (zBu M N x c + (if c = m then z else 0)) := by
  intro c hc
  have e1 : ∀ i, i < m + 1 → t i * zDA M m s.basis i c = zw (fun j => x j * (at2 s.rows i j * zDA M m s.basis i c)) (N + 1) + (if i = m then s.den * z * (if c = m then 1 else 0) else 0) := by
   intro i hi
   show (zBu s.rows N x i + _) * _ = _
   rw [Int.add_mul]
   congr 1
   ·unfold zBu
    rw [← zRr]
    exact zp (fun j _ => by rw [Int.mul_comm (at2 s.rows i j), Int.mul_assoc])
   ·by_cases e : i = m
    ·subst e
     rw [if_pos rfl, if_pos rfl]
     congr 1
     unfold zDA
     rw [if_neg (by omega)]
    ·rw [if_neg e, if_neg e, Int.zero_mul]
  rw [zp e1, zDK, zGa, zCM (f := fun i => s.den * z * (if c = m then 1 else 0)) (Nat.lt_succ_self m)]
  have e2 : ∀ j, j < N + 1 → zw (fun i => x j * (at2 s.rows i j * zDA M m s.basis i c)) (m + 1) = s.den * (at2 M c j * x j) := by
   intro j hj
   rw [zBM]
   have := h.sol j hj c hc
   have : zw (fun i => at2 s.rows i j * zDA M m s.basis i c) (m + 1) = s.den * at2 M c j := this
   rw [this, Int.mul_left_comm, Int.mul_comm (x j)]
  rw [zp e2, zBM, Int.mul_add]
  congr 1
  split
  ·rw [Int.mul_one]
  ·rw [Int.mul_zero, Int.mul_zero]
 constructor
 ·intro h0 i hi
  have h1 := zEj (D := zDA M m s.basis) (t := t) (w := fun _ => 0) hi (fun c hc => by rw [key c hc, h0 c hc, Int.mul_zero])
  rw [zIU (m + 1) _ i hi, hD] at h1
  have hσ : σ ≠ 0 := fun e => by rw [e] at hs; exact absurd hs (by decide)
  rcases Int.mul_eq_zero.1 h1.symm with h2 | h2
  ·exact h2
  ·rcases Int.mul_eq_zero.1 h2 with h3 | h3
   ·exact absurd h3 hσ
   ·exact absurd h3 hd
 ·intro h0 c hc
  have h1 := key c hc
  rw [zB3 (fun i hi => by show t i * _ = 0; rw [show t i = 0 from h0 i hi, Int.zero_mul])] at h1
  rcases Int.mul_eq_zero.1 h1.symm with h2 | h2
  ·exact absurd h2 hd
  ·exact h2
/-- One table told by another one. -/
theorem Inv.cross {m N : Nat} {M : Tab} {s s' : St} (h : Inv m N M s) (h' : Inv m N M s') {i c : Nat} (hi : i < m + 1) (hc : c < N + 1) :
 s.den * at2 s'.rows i c = zw (fun k => at2 s'.rows i (s.basis.getD k 0) * at2 s.rows k c) m + (if i = m then s'.den * at2 s.rows m c else 0) := by
 let x : Nat → Int := fun j => (if j = c then s.den else 0) - zw (fun k => if j = s.basis.getD k 0 then at2 s.rows k c else 0) m
 have hx : ∀ (T : Tab) (i : Nat), zBu T N x i = at2 T i c * s.den - zw (fun k => at2 T i (s.basis.getD k 0) * at2 s.rows k c) m := by
  intro T i
  unfold zBu
  have e1 : ∀ j, j < N + 1 → at2 T i j * x j = (if j = c then at2 T i j * s.den else 0) + zw (fun k => if j = s.basis.getD k 0 then -(at2 T i j * at2 s.rows k c) else 0) m := by
   intro j hj
   show _ * ((if j = c then s.den else 0) - _) = _
   rw [Int.mul_sub, Int.sub_eq_add_neg]
   congr 1
   ·split
    ·rfl
    ·rw [Int.mul_zero]
   ·rw [← Int.mul_neg, show -(zw (fun k => if j = s.basis.getD k 0 then at2 s.rows k c else 0) m) = zw (fun k => -1 * (if j = s.basis.getD k 0 then at2 s.rows k c else 0)) m from by rw [zBM]; omega, ← zBM]
    exact zp (fun k _ => by
     split
     ·rw [Int.neg_mul, Int.one_mul, Int.mul_neg]
     ·rw [Int.mul_zero, Int.mul_zero])
  rw [zp e1, zDK, zCM (f := fun j => at2 T i j * s.den) hc, zGa, Int.sub_eq_add_neg]
  congr 1
  have e2 : ∀ k, k < m → zw (fun j => if j = s.basis.getD k 0 then -(at2 T i j * at2 s.rows k c) else 0) (N + 1) = -1 * (at2 T i (s.basis.getD k 0) * at2 s.rows k c) := by
   intro k hk
   rw [zCM (f := fun j => -(at2 T i j * at2 s.rows k c)) (by have := h.bc k hk; omega)]
   omega
  rw [zp e2, zBM]
  omega
 have h1 : ∀ i, i < m + 1 → zBu s.rows N x i + (if i = m then s.den * (-(at2 s.rows m c)) else 0) = 0 := by
  intro i hi
  rw [hx]
  by_cases e : i = m
  ·subst e
   rw [if_pos rfl, zB3 (fun k hk => by rw [h.unit i k (by omega) hk, if_neg (by omega), Int.zero_mul]), Int.mul_neg, Int.mul_comm]
   omega
  ·rw [if_neg e]
   have e3 : ∀ k, k < m → at2 s.rows i (s.basis.getD k 0) * at2 s.rows k c = if k = i then s.den * at2 s.rows k c else 0 := by
    intro k hk
    rw [h.unit i k hi hk]
    by_cases e4 : i = k
    ·rw [if_pos e4, if_pos e4.symm]
    ·rw [if_neg e4, if_neg (fun q => e4 q.symm), Int.zero_mul]
   rw [zp e3, zCM (f := fun k => s.den * at2 s.rows k c) (by omega), Int.mul_comm]
   omega
 have h2 := (h'.ker x (-(at2 s.rows m c))).1 ((h.ker x (-(at2 s.rows m c))).2 h1) i hi
 rw [hx, Int.mul_comm] at h2
 by_cases e : i = m
 ·rw [if_pos e] at h2 ⊢
  rw [Int.mul_neg] at h2
  omega
 ·rw [if_neg e] at h2 ⊢
  omega
/-- the first column with a negative cost, or w -/
def zCR (T : Tab) (m : Nat) : Nat → Nat → Nat
 | 0, c => c
 | f + 1, c => if at2 T m c < 0 then c else zCR T m f (c + 1)
theorem zE6 (T : Tab) (m : Nat) : ∀ f c, c ≤ zCR T m f c ∧ zCR T m f c ≤ c + f ∧ (∀ a, c ≤ a → a < zCR T m f c → 0 ≤ at2 T m a) ∧ (zCR T m f c < c + f → at2 T m (zCR T m f c) < 0)
 | 0, c => ⟨Nat.le_refl _, Nat.le_refl _, fun a h1 h2 => absurd h2 (by rw [zCR]; omega), fun h => absurd h (by rw [zCR]; omega)⟩
 | f + 1, c => by
  rw [zCR]
  by_cases h : at2 T m c < 0
  ·rw [if_pos h]
   exact ⟨Nat.le_refl _, by omega, fun a h1 h2 => absurd h2 (by omega), fun _ => h⟩
  ·rw [if_neg h]
   obtain ⟨h1, h2, h3, h4⟩ := zE6 T m f (c + 1)
   refine ⟨by omega, by omega, fun a ha hb => ?_, fun hb => h4 (by omega)⟩
   by_cases e : a = c
   ·subst e; omega
   ·exact h3 a (by omega) hb
/-- the row that leaves -/
def zHr (T : Tab) (β : List Nat) (c e k b : Nat) : Prop := at2 T k e * at2 T b c < at2 T b e * at2 T k c ∨ at2 T k e * at2 T b c = at2 T b e * at2 T k c ∧ β.getD k 0 < β.getD b 0
instance (T : Tab) (β : List Nat) (c e k b : Nat) : Decidable (zHr T β c e k b) := by unfold zHr; infer_instance
def zBb (T : Tab) (β : List Nat) (c e : Nat) : Nat → Option Nat
 | 0 => none
 | k + 1 => match zBb T β c e k with
  | none => if at2 T k c ≤ 0 then none else some k
  | some b => if at2 T k c ≤ 0 then some b else if zHr T β c e k b then some k else some b
theorem zHy (T : Tab) (β : List Nat) (c e : Nat) : ∀ n, zBb T β c e n = none → ∀ i, i < n → at2 T i c ≤ 0
 | 0, _, i, hi => absurd hi (Nat.not_lt_zero _)
 | n + 1, h, i, hi => by
  rw [zBb] at h
  cases hl : zBb T β c e n with
  | none =>
   rw [hl] at h
   simp only at h
   split at h
   ·rename_i h1
    by_cases e2 : i = n
    ·rw [e2]; exact h1
    ·exact zHy T β c e n hl i (by omega)
   ·cases h
  | some b =>
   rw [hl] at h
   simp only at h
   split at h
   ·cases h
   ·split at h <;> cases h
theorem zKV {a x y : Int} (ha : 0 < a) (h : a * x ≤ a * y) : x ≤ y := Int.le_of_mul_le_mul_left h ha
/-- what the chosen row is -/
structure Least (T : Tab) (β : List Nat) (c e n b : Nat) : Prop where
 lt : b < n
 pos : 0 < at2 T b c
 le : ∀ i, i < n → 0 < at2 T i c → at2 T b e * at2 T i c ≤ at2 T i e * at2 T b c ∧ (at2 T b e * at2 T i c = at2 T i e * at2 T b c → β.getD b 0 ≤ β.getD i 0)
theorem zGO (T : Tab) (β : List Nat) (c e : Nat) : ∀ n b, zBb T β c e n = some b → Least T β c e n b
 | 0, b, h => by rw [zBb] at h; cases h
 | n + 1, b, h => by
  rw [zBb] at h
  cases hl : zBb T β c e n with
  | none =>
   have hn := zHy T β c e n hl
   rw [hl] at h
   simp only at h
   split at h
   ·cases h
   ·rename_i h1
    obtain rfl : n = b := by simpa using h
    refine ⟨Nat.lt_succ_self _, by omega, fun i hi hp => ?_⟩
    by_cases e2 : i = n
    ·subst e2
     exact ⟨Int.le_refl _, fun _ => Nat.le_refl _⟩
    ·exact absurd (hn i (by omega)) (by omega)
  | some d =>
   have hd := zGO T β c e n d hl
   rw [hl] at h
   simp only at h
   split at h
   ·rename_i h1
    obtain rfl : d = b := by simpa using h
    refine ⟨by have := hd.lt; omega, hd.pos, fun i hi hp => ?_⟩
    by_cases e2 : i = n
    ·subst e2; omega
    ·exact hd.le i (by omega) hp
   ·rename_i h1
    have h1 : 0 < at2 T n c := by omega
    split at h
    ·rename_i h2
     obtain rfl : n = b := by simpa using h
     refine ⟨Nat.lt_succ_self _, h1, fun i hi hp => ?_⟩
     by_cases e2 : i = n
     ·subst e2; exact ⟨Int.le_refl _, fun _ => Nat.le_refl _⟩
     ·obtain ⟨g1, g2⟩ := hd.le i (by omega) hp
      have hdp := hd.pos
      -- n against d, d against i
      have a1 : at2 T n e * at2 T d c ≤ at2 T d e * at2 T n c := by
       rcases h2 with h2 | h2
       ·omega
       ·omega
      have b1 := Int.mul_le_mul_of_nonneg_right a1 (Int.le_of_lt hp)
      have b2 := Int.mul_le_mul_of_nonneg_right g1 (Int.le_of_lt h1)
      have c1 : at2 T d c * (at2 T n e * at2 T i c) = at2 T n e * at2 T d c * at2 T i c := by grind
      have c2 : at2 T d c * (at2 T i e * at2 T n c) = at2 T i e * at2 T d c * at2 T n c := by grind
      have c3 : at2 T d e * at2 T n c * at2 T i c = at2 T d e * at2 T i c * at2 T n c := by grind
      refine ⟨zKV hdp (by omega), fun he => ?_⟩
      have d1 : at2 T d c * (at2 T n e * at2 T i c) = at2 T d c * (at2 T i e * at2 T n c) := by rw [he]
      -- all equal
      have d2 : at2 T n e * at2 T d c * at2 T i c = at2 T d e * at2 T n c * at2 T i c := by omega
      have d3 : at2 T n e * at2 T d c = at2 T d e * at2 T n c := Int.eq_of_mul_eq_mul_right (by omega) d2
      have d4 : at2 T d e * at2 T i c * at2 T n c = at2 T i e * at2 T d c * at2 T n c := by omega
      have d5 : at2 T d e * at2 T i c = at2 T i e * at2 T d c := Int.eq_of_mul_eq_mul_right (by omega) d4
      rcases h2 with h2 | h2
      ·omega
      ·have := g2 d5
       omega
    ·rename_i h2
     obtain rfl : d = b := by simpa using h
     refine ⟨by have := hd.lt; omega, hd.pos, fun i hi hp => ?_⟩
     by_cases e2 : i = n
     ·subst e2
      unfold zHr at h2
      refine ⟨by omega, fun he => ?_⟩
      omega
     ·exact hd.le i (by omega) hp
/-- One step: none if nothing can be improved, or if there is no end. -/
def zBz (m N w : Nat) (s : St) : Option St :=
 if zCR s.rows m w 0 = w then none
 else match zBb s.rows s.basis (zCR s.rows m w 0) N m with
  | none => none
  | some r => some (piv s r (zCR s.rows m w 0))
def zAc (m N w : Nat) (s : St) : Nat → St
 | 0 => s
 | k + 1 => (zBz m N w (zAc m N w s k)).getD (zAc m N w s k)
def zDe (m N : Nat) (s : St) : Prop := ∀ i, i < m → 0 ≤ at2 s.rows i N
theorem zJV {m N w : Nat} {s s' : St} (h : zBz m N w s = some s') : ∃ c r, c < w ∧ at2 s.rows m c < 0 ∧ (∀ a, a < c → 0 ≤ at2 s.rows m a) ∧ Least s.rows s.basis c N m r ∧ s' = piv s r c := by
 unfold zBz at h
 obtain ⟨e1, e2, e3, e4⟩ := zE6 s.rows m w 0
 split at h
 ·cases h
 ·rename_i h1
  split at h
  ·cases h
  ·rename_i r hr
   refine ⟨_, r, by omega, e4 (by omega), fun a ha => e3 a (Nat.zero_le _) ha, zGO _ _ _ _ _ _ hr, ?_⟩
   exact (Option.some.inj h).symm
/-- the elements after a pivot, without quotients -/
theorem Inv.entry {m N : Nat} {M : Tab} {s : St} (h : Inv m N M s) {r c : Nat} (hr : r < m) (hc : c < N) (hp : at2 s.rows r c ≠ 0) {i j : Nat} (hi : i < m + 1) (hj : j < N + 1) :
 s.den * at2 (Sx.piv s r c).rows i j = sgZ (at2 s.rows r c) * (if i = r then s.den * at2 s.rows r j else at2 s.rows i j * at2 s.rows r c - at2 s.rows i c * at2 s.rows r j) := by
 obtain ⟨σ, hs, hD⟩ := h.sg
 have hd : s.den ≠ 0 := by have := h.dp; omega
 obtain ⟨p1, _⟩ := zLw hd hs hD (h.sol c (by omega)) (h.sol j hj) (show r < m + 1 by omega) hp
 have := zPk s.rows r c s.den h.row (i := i) (j := j) (by rw [h.n]; exact hi) hj
 have e : at2 (Sx.piv s r c).rows i j = at2 (zEn s.rows r c s.den) i j := rfl
 rw [e, this, Int.mul_left_comm]
 congr 1
 by_cases e : i = r
 ·rw [if_pos e, if_pos e]
 ·have e3 := zLa hd (p1 i hi e)
  have e4 := Int.mul_ediv_cancel' (p1 i hi e)
  rw [← e3] at e4
  rw [if_neg e, if_neg e]
  exact e4
theorem Inv.feas_step {m N : Nat} {M : Tab} {s : St} (h : Inv m N M s) (hf : zDe m N s) {r c : Nat} (hc : c < N) (hl : Least s.rows s.basis c N m r) : zDe m N (Sx.piv s r c) := by
 intro i hi
 have hp := hl.pos
 have h1 := h.entry hl.lt hc (by omega) (i := i) (j := N) (by omega) (by omega)
 have hd := h.dp
 have hsg : sgZ (at2 s.rows r c) = 1 := by unfold sgZ; rw [if_neg (by omega)]
 rw [hsg, Int.one_mul] at h1
 have : 0 ≤ s.den * at2 (Sx.piv s r c).rows i N := by
  rw [h1]
  split
  ·exact Int.mul_nonneg (Int.le_of_lt hd) (hf r hl.lt)
  ·by_cases hpi : 0 < at2 s.rows i c
   ·have := (hl.le i hi hpi).1
    rw [Int.mul_comm (at2 s.rows i c)]
    omega
   ·have h2 := Int.mul_nonneg (hf i hi) (Int.le_of_lt hp)
    have h3 := Int.mul_nonneg (show 0 ≤ -(at2 s.rows i c) by omega) (hf r hl.lt)
    rw [Int.neg_mul] at h3
    omega
 exact Int.le_of_mul_le_mul_left (by rw [Int.mul_zero]; exact this) hd
/-- Pigeons. -/
theorem pig : ∀ (K : Nat) (f : Nat → Nat), (∀ i, i ≤ K → f i < K) → ∃ a b, a < b ∧ b ≤ K ∧ f a = f b
 | 0, f, h => absurd (h 0 (Nat.le_refl _)) (Nat.not_lt_zero _)
 | K + 1, f, h => by
  by_cases hx : ∃ a, a ≤ K ∧ f a = f (K + 1)
  ·obtain ⟨a, h1, h2⟩ := hx
   exact ⟨a, K + 1, by omega, Nat.le_refl _, h2⟩
  ·have hne : ∀ a, a ≤ K → f a ≠ f (K + 1) := fun a ha e => hx ⟨a, ha, e⟩
   obtain ⟨a, b, h1, h2, h3⟩ := pig K (fun i => if f i < f (K + 1) then f i else f i - 1) (fun i hi => by
    have e1 := h i (by omega)
    have e2 := h (K + 1) (Nat.le_refl _)
    have e3 := hne i hi
    show (if f i < f (K + 1) then f i else f i - 1) < K
    split <;> omega)
   refine ⟨a, b, h1, by omega, ?_⟩
   have e1 := hne a (by omega)
   have e2 := hne b h2
   have h3 : (if f a < f (K + 1) then f a else f a - 1) = (if f b < f (K + 1) then f b else f b - 1) := h3
   split at h3 <;> split at h3 <;> omega
def zFO (N : Nat) : List Nat → Nat
 | [] => 0
 | x :: r => x + N * zFO N r
theorem zPt {N : Nat} : ∀ (l : List Nat), (∀ x ∈ l, x < N) → zFO N l < N ^ l.length
 | [], _ => by rw [zFO, List.length_nil, Nat.pow_zero]; exact Nat.one_pos
 | x :: r, h => by
  have h1 := zPt r (fun y hy => h y (by simp [hy]))
  have h2 := h x (by simp)
  rw [zFO, List.length_cons, Nat.pow_succ]
  have h3 : N * (zFO N r + 1) ≤ N * N ^ r.length := Nat.mul_le_mul_left _ h1
  rw [Nat.mul_add, Nat.mul_one] at h3
  rw [Nat.mul_comm (N ^ r.length)]
  omega
theorem zNE {N : Nat} : ∀ (l l' : List Nat), l.length = l'.length → (∀ x ∈ l, x < N) → (∀ x ∈ l', x < N) → zFO N l = zFO N l' → l = l'
 | [], [], _, _, _, _ => rfl
 | [], _ :: _, h, _, _, _ => by simp at h
 | _ :: _, [], h, _, _, _ => by simp at h
 | x :: r, y :: q, hl, h, h', e => by
  have h1 := h x (by simp)
  have h2 := h' y (by simp)
  rw [zFO, zFO] at e
  have e1 := congrArg (fun n => n % N) e
  simp only [Nat.add_mul_mod_self_left, Nat.mod_eq_of_lt h1, Nat.mod_eq_of_lt h2] at e1
  subst e1
  have e2 : zFO N r = zFO N q := Nat.eq_of_mul_eq_mul_left (by omega) (show N * zFO N r = N * zFO N q by omega)
  rw [zNE r q (by simpa using hl) (fun z hz => h z (by simp [hz])) (fun z hz => h' z (by simp [hz])) e2]
/-- An endless row of tables. -/
structure Endless (m N : Nat) (M : Tab) (s : Nat → St) (c r : Nat → Nat) : Prop where
 inv : ∀ k, Inv m N M (s k)
 feas : ∀ k, zDe m N (s k)
 cN : ∀ k, c k < N
 neg : ∀ k, at2 (s k).rows m (c k) < 0
 low : ∀ k a, a < c k → 0 ≤ at2 (s k).rows m a
 lea : ∀ k, Least (s k).rows (s k).basis (c k) N m (r k)
 nx : ∀ k, s (k + 1) = piv (s k) (r k) (c k)
def zCa (m : Nat) (s : St) (v : Nat) : Prop := ∃ i, i < m ∧ s.basis.getD i 0 = v
theorem Inv.nodup {m N : Nat} {M : Tab} {s : St} (h : Inv m N M s) {i k : Nat} (hi : i < m) (hk : k < m) (he : s.basis.getD i 0 = s.basis.getD k 0) : i = k := by
 by_cases e : i = k
 ·exact e
 ·have h1 := h.unit i k (by omega) hk
  have h2 := h.unit i i (by omega) hi
  rw [if_neg e] at h1
  rw [if_pos rfl, he] at h2
  have := h.dp
  omega
theorem Inv.cost_basic {m N : Nat} {M : Tab} {s : St} (h : Inv m N M s) {v : Nat} (hb : zCa m s v) : at2 s.rows m v = 0 := by
 obtain ⟨i, hi, rfl⟩ := hb
 rw [h.unit m i (by omega) hi, if_neg (by omega)]
theorem zEx {m N : Nat} {M : Tab} {s : St} (h : Inv m N M s) {r c : Nat} (hr : r < m) (i : Nat) : (Sx.piv s r c).basis.getD i 0 = if i = r then c else s.basis.getD i 0 := by
 show (s.basis.set r c).getD i 0 = _
 rw [getD_set]
 by_cases e : i = r
 ·rw [if_pos ⟨e, by rw [h.b]; exact hr⟩, if_pos e]
 ·rw [if_neg (fun q => e q.1), if_neg e]
section
variable {m N : Nat} {M : Tab} {s : Nat → St} {c r : Nat → Nat}
theorem Endless.den (h : Endless m N M s c r) (k : Nat) : (s (k + 1)).den = at2 (s k).rows (r k) (c k) := by
 rw [h.nx, zIk]
 have := (h.lea k).pos
 unfold sgZ
 rw [if_neg (by omega)]; omega
theorem Endless.entry (h : Endless m N M s c r) (k : Nat) {i j : Nat} (hi : i < m + 1) (hj : j < N + 1) :
 (s k).den * at2 (s (k + 1)).rows i j = if i = r k then (s k).den * at2 (s k).rows (r k) j else at2 (s k).rows i j * at2 (s k).rows (r k) (c k) - at2 (s k).rows i (c k) * at2 (s k).rows (r k) j := by
 have hp := (h.lea k).pos
 rw [h.nx, (h.inv k).entry (h.lea k).lt (h.cN k) (by omega) hi hj]
 have hsg : sgZ (at2 (s k).rows (r k) (c k)) = 1 := by unfold sgZ; rw [if_neg (by omega)]
 rw [hsg, Int.one_mul]
/-- the value -/
def zI1 (N m : Nat) (s : St) : Rat := (at2 s.rows m N : Rat) * (s.den : Rat)⁻¹
theorem zEE {x : Int} (h : 0 < x) : (0 : Rat) < (x : Rat) := by
 have := (Rat.intCast_lt_intCast (a := 0) (b := x)).2 h
 exact this
theorem zI2 {m N : Nat} {s : St} (hd : 0 < s.den) : zI1 N m s * (s.den : Rat) = (at2 s.rows m N : Rat) := by
 unfold zI1
 have : (s.den : Rat) ≠ 0 := fun e => by
  have := zEE hd
  rw [e] at this
  exact absurd this (by decide +kernel)
 rw [Rat.mul_assoc, Rat.inv_mul_cancel _ this, Rat.mul_one]
theorem Endless.value (h : Endless m N M s c r) (k : Nat) : zI1 N m (s k) ≤ zI1 N m (s (k + 1)) ∧ (zI1 N m (s k) = zI1 N m (s (k + 1)) → at2 (s k).rows (r k) N = 0) := by
 have hd := (h.inv k).dp
 have hd' := (h.inv (k + 1)).dp
 have hp := (h.lea k).pos
 have h1 := h.entry k (i := m) (j := N) (by omega) (by omega)
 have hrm := (h.lea k).lt
 rw [if_neg (by omega), ← h.den] at h1
 have h2 := zI2 (m := m) (N := N) hd
 have h3 := zI2 (m := m) (N := N) hd'
 have h4 := congrArg (fun x : Int => (x : Rat)) h1
 simp only [Rat.intCast_mul, Rat.intCast_sub] at h4
 rw [← h2, ← h3] at h4
 have hX : at2 (s k).rows m (c k) * at2 (s k).rows (r k) N ≤ 0 := by
  have := Int.mul_nonneg (show 0 ≤ -(at2 (s k).rows m (c k)) by have := h.neg k; omega) (h.feas k (r k) hrm)
  rw [Int.neg_mul] at this; omega
 have hXr : ((at2 (s k).rows m (c k) : Int) : Rat) * ((at2 (s k).rows (r k) N : Int) : Rat) ≤ 0 := by
  rw [← Rat.intCast_mul]
  exact (Rat.intCast_le_intCast (a := _) (b := 0)).2 hX
 have hpd : (0 : Rat) < ((s k).den : Rat) * ((s (k + 1)).den : Rat) := Rat.mul_pos (zEE hd) (zEE hd')
 constructor
 ·refine Rat.le_of_mul_le_mul_right ?_ hpd
  grind
 ·intro e
  rw [← e] at h4
  have h5 : ((at2 (s k).rows m (c k) : Int) : Rat) * ((at2 (s k).rows (r k) N : Int) : Rat) = 0 := by grind
  rw [← Rat.intCast_mul] at h5
  have h6 : at2 (s k).rows m (c k) * at2 (s k).rows (r k) N = 0 := Rat.intCast_inj.1 h5
  rcases Int.mul_eq_zero.1 h6 with h7 | h7
  ·have := h.neg k; omega
  ·exact h7
theorem Endless.mono (h : Endless m N M s c r) (a : Nat) : ∀ d, zI1 N m (s a) ≤ zI1 N m (s (a + d))
 | 0 => Rat.le_refl
 | d + 1 => Rat.le_trans (h.mono a d) (h.value (a + d)).1
/-- with the same basis the value is the same -/
theorem Endless.same (h : Endless m N M s c r) {a b : Nat} (he : (s a).basis = (s b).basis) : zI1 N m (s a) = zI1 N m (s b) := by
 have h1 := (h.inv a).cross (h.inv b) (i := m) (c := N) (by omega) (by omega)
 rw [if_pos rfl, zB3 (fun k hk => by rw [he, (h.inv b).unit m k (by omega) hk, if_neg (by omega), Int.zero_mul])] at h1
 have da := (h.inv a).dp
 have db := (h.inv b).dp
 have h2 := zI2 (m := m) (N := N) da
 have h3 := zI2 (m := m) (N := N) db
 have h4 := congrArg (fun x : Int => (x : Rat)) h1
 simp only [Rat.intCast_mul, Rat.intCast_add, Rat.intCast_zero] at h4
 rw [← h2, ← h3] at h4
 have hpd : (0 : Rat) < ((s a).den : Rat) * ((s b).den : Rat) := Rat.mul_pos (zEE da) (zEE db)
 have le1 : zI1 N m (s a) ≤ zI1 N m (s b) := Rat.le_of_mul_le_mul_right (by grind) hpd
 have le2 : zI1 N m (s b) ≤ zI1 N m (s a) := Rat.le_of_mul_le_mul_right (by grind) hpd
 exact Rat.le_antisymm le1 le2
theorem Endless.still (h : Endless m N M s c r) {a b : Nat} (he : (s a).basis = (s b).basis) {k : Nat} (h1 : a ≤ k) (h2 : k < b) : at2 (s k).rows (r k) N = 0 := by
 refine (h.value k).2 (Rat.le_antisymm (h.value k).1 ?_)
 have g1 := h.mono (k + 1) (b - (k + 1))
 rw [show k + 1 + (b - (k + 1)) = b by omega] at g1
 have g2 := h.mono a (k - a)
 rw [show a + (k - a) = k by omega] at g2
 rw [← h.same he] at g1
 exact Rat.le_trans g1 g2
/-- a variable has the value 0 -/
def Zero (m N : Nat) (s : St) (v : Nat) : Prop := ∀ i, i < m → s.basis.getD i 0 = v → at2 s.rows i N = 0
theorem Endless.zero (h : Endless m N M s c r) {k : Nat} (h0 : at2 (s k).rows (r k) N = 0) (v : Nat) : Zero m N (s k) v ↔ Zero m N (s (k + 1)) v := by
 have hp := (h.lea k).pos
 have hr := (h.lea k).lt
 have hd := (h.inv k).dp
 have hbas : ∀ i, (s (k + 1)).basis.getD i 0 = if i = r k then c k else (s k).basis.getD i 0 := fun i => by rw [h.nx]; exact zEx (h.inv k) hr i
 have hent : ∀ i, i < m → i ≠ r k → (at2 (s (k + 1)).rows i N = 0 ↔ at2 (s k).rows i N = 0) := by
  intro i hi hne
  have h1 := h.entry k (i := i) (j := N) (by omega) (by omega)
  rw [if_neg hne, h0, Int.mul_zero, Int.sub_zero] at h1
  constructor
  ·intro e
   rw [e, Int.mul_zero] at h1
   rcases Int.mul_eq_zero.1 h1.symm with h2 | h2
   ·exact h2
   ·omega
  ·intro e
   rw [e, Int.zero_mul] at h1
   rcases Int.mul_eq_zero.1 h1 with h2 | h2
   ·omega
   ·exact h2
 constructor
 ·intro hz i hi he
  rw [hbas] at he
  by_cases e : i = r k
  ·have h1 := h.entry k (i := i) (j := N) (by omega) (by omega)
   rw [if_pos e, h0, Int.mul_zero] at h1
   rcases Int.mul_eq_zero.1 h1 with h2 | h2
   ·omega
   ·exact h2
  ·rw [if_neg e] at he
   exact (hent i hi e).2 (hz i hi he)
 ·intro hz i hi he
  by_cases e : i = r k
  ·rw [e]; exact h0
  ·exact (hent i hi e).1 (hz i hi (by rw [hbas, if_neg e]; exact he))
theorem Endless.zeros (h : Endless m N M s c r) {a b : Nat} (he : (s a).basis = (s b).basis) (v : Nat) : ∀ d, a + d ≤ b → (Zero m N (s a) v ↔ Zero m N (s (a + d)) v)
 | 0, _ => Iff.rfl
 | d + 1, hd => (h.zeros he v d (by omega)).trans (h.zero (h.still he (by omega) (by omega)) v)
/-- who is in the basis -/
theorem Endless.stays (h : Endless m N M s c r) {k v : Nat} (hb : zCa m (s k) v) (hv : v ≠ (s k).basis.getD (r k) 0) : zCa m (s (k + 1)) v := by
 obtain ⟨i, hi, rfl⟩ := hb
 refine ⟨i, hi, ?_⟩
 rw [h.nx, zEx (h.inv k) (h.lea k).lt, if_neg]
 intro e; rw [e] at hv; exact hv rfl
theorem Endless.was (h : Endless m N M s c r) {k v : Nat} (hb : zCa m (s (k + 1)) v) (hv : v ≠ c k) : zCa m (s k) v := by
 obtain ⟨i, hi, rfl⟩ := hb
 have h1 := zEx (c := c k) (h.inv k) (h.lea k).lt i
 rw [← h.nx] at h1
 rw [h1] at hv ⊢
 by_cases e : i = r k
 ·rw [if_pos e] at hv; exact absurd rfl hv
 ·rw [if_neg e]; exact ⟨i, hi, rfl⟩
theorem Endless.enters (h : Endless m N M s c r) (k : Nat) : ¬ zCa m (s k) (c k) ∧ zCa m (s (k + 1)) (c k) := by
 constructor
 ·intro hb
  have := (h.inv k).cost_basic hb
  have := h.neg k
  omega
 ·refine ⟨r k, (h.lea k).lt, ?_⟩
  rw [h.nx, zEx (h.inv k) (h.lea k).lt, if_pos rfl]
theorem Endless.false (h : Endless m N M s c r) : False := by
 -- a basis comes twice
 obtain ⟨a, b, hab, he⟩ : ∃ a b, a < b ∧ (s a).basis = (s b).basis := by
  have hlt : ∀ k, ∀ x ∈ (s k).basis, x < N := by
   intro k x hx
   obtain ⟨i, hi, rfl⟩ := List.getElem_of_mem hx
   have := (h.inv k).bc i (by rw [← (h.inv k).b]; exact hi)
   simpa [List.getD, hi] using this
  obtain ⟨a, b, h1, h2, h3⟩ := pig (N ^ m) (fun k => zFO N (s k).basis) (fun k _ => by
   have := zPt (s k).basis (hlt k)
   rwa [(h.inv k).b] at this)
  exact ⟨a, b, h1, zNE _ _ (by rw [(h.inv a).b, (h.inv b).b]) (hlt a) (hlt b) h3⟩
 -- who is in some basis between, and not in another one, enters
 have fick : ∀ v, (∃ k, a ≤ k ∧ k ≤ b ∧ zCa m (s k) v) → (∃ k, a ≤ k ∧ k ≤ b ∧ ¬ zCa m (s k) v) → ∃ k, a ≤ k ∧ k < b ∧ c k = v := by
  rintro v ⟨k1, l1, l2, hb⟩ ⟨k2, l3, l4, hn⟩
  apply Classical.byContradiction
  intro hno
  have hno : ∀ k, a ≤ k → k < b → v ≠ c k := fun k q1 q2 e => hno ⟨k, q1, q2, e.symm⟩
  have back : ∀ d k, a ≤ k → k + d ≤ b → zCa m (s (k + d)) v → zCa m (s k) v := by
   intro d
   induction d with
   | zero => intro k _ _ hb; exact hb
   | succ d ih => intro k q1 q2 hb; exact ih k q1 (by omega) (h.was hb (hno (k + d) (by omega) (by omega)))
  have ha : zCa m (s a) v := back (k1 - a) a (Nat.le_refl _) (by omega) (by rw [show a + (k1 - a) = k1 by omega]; exact hb)
  have hbb : zCa m (s b) v := by unfold zCa at ha ⊢; rw [← he]; exact ha
  exact hn (back (b - k2) k2 l3 (by omega) (by rw [show k2 + (b - k2) = b by omega]; exact hbb))
 -- the greatest one that enters
 obtain ⟨k', q1, q2, hmax⟩ : ∃ k', a ≤ k' ∧ k' < b ∧ ∀ k, a ≤ k → k < b → c k ≤ c k' := by
  have : ∀ d, a + d < b + 0 → ∃ k', a ≤ k' ∧ k' ≤ a + d ∧ ∀ k, a ≤ k → k ≤ a + d → c k ≤ c k' := by
   intro d
   induction d with
   | zero => intro _; exact ⟨a, Nat.le_refl _, Nat.le_refl _, fun k h1 h2 => by rw [show k = a by omega]; exact Nat.le_refl _⟩
   | succ d ih =>
    intro hd
    obtain ⟨k', g1, g2, g3⟩ := ih (by omega)
    by_cases hc : c k' ≤ c (a + (d + 1))
    ·refine ⟨a + (d + 1), by omega, Nat.le_refl _, fun k h1 h2 => ?_⟩
     by_cases e : k = a + (d + 1)
     ·rw [e]; exact Nat.le_refl _
     ·exact Nat.le_trans (g3 k h1 (by omega)) hc
    ·refine ⟨k', g1, by omega, fun k h1 h2 => ?_⟩
     by_cases e : k = a + (d + 1)
     ·rw [e]; omega
     ·exact g3 k h1 (by omega)
  obtain ⟨k', g1, g2, g3⟩ := this (b - 1 - a) (by omega)
  exact ⟨k', g1, by omega, fun k h1 h2 => g3 k h1 (by omega)⟩
 obtain ⟨t1, t2⟩ := h.enters k'
 -- it leaves, too
 obtain ⟨k, l1, l2, l3⟩ : ∃ k, a ≤ k ∧ k < b ∧ (s k).basis.getD (r k) 0 = c k' := by
  apply Classical.byContradiction
  intro hno
  have hno : ∀ k, a ≤ k → k < b → c k' ≠ (s k).basis.getD (r k) 0 := fun k q1 q2 e => hno ⟨k, q1, q2, e.symm⟩
  have fwd : ∀ d k, a ≤ k → k + d ≤ b → zCa m (s k) (c k') → zCa m (s (k + d)) (c k') := by
   intro d
   induction d with
   | zero => intro k _ _ hb; exact hb
   | succ d ih => intro k q1 q2 hb; exact h.stays (ih k q1 (by omega) hb) (hno (k + d) (by omega) (by omega))
  have hb := fwd (b - (k' + 1)) (k' + 1) (by omega) (by omega) t2
  rw [show k' + 1 + (b - (k' + 1)) = b by omega] at hb
  have ha : zCa m (s a) (c k') := by unfold zCa at hb ⊢; rw [he]; exact hb
  have := fwd (k' - a) a (Nat.le_refl _) (by omega) ha
  rw [show a + (k' - a) = k' by omega] at this
  exact t1 this
 have hc1 := hmax k l1 l2
 have hlea := h.lea k
 have hc2 : c k ≠ c k' := by
  intro e
  exact (h.enters k).1 ⟨r k, hlea.lt, by rw [l3, e]⟩
 have hlow := h.low k' (c k) (by omega)
 have hX := (h.inv k).cross (h.inv k') (i := m) (c := c k) (by omega) (by have := h.cN k; omega)
 rw [if_pos rfl] at hX
 have d1 := (h.inv k).dp
 have d2 := (h.inv k').dp
 have n1 := h.neg k
 have p1 := Int.mul_nonneg (Int.le_of_lt d1) hlow
 have p2 := Int.mul_pos d2 (show 0 < -(at2 (s k).rows m (c k)) by omega)
 rw [Int.mul_neg] at p2
 obtain ⟨i, hi, hpos⟩ := zOM (n := m) (f := fun i => at2 (s k').rows m ((s k).basis.getD i 0) * at2 (s k).rows i (c k)) (by omega)
 have hpos : 0 < at2 (s k').rows m ((s k).basis.getD i 0) * at2 (s k).rows i (c k) := hpos
 have hnb : ¬ zCa m (s k') ((s k).basis.getD i 0) := by
  intro hb
  rw [(h.inv k').cost_basic hb, Int.zero_mul] at hpos
  omega
 obtain ⟨k2, g1, g2, g3⟩ := fick ((s k).basis.getD i 0) ⟨k, l1, by omega, i, hi, rfl⟩ ⟨k', q1, by omega, hnb⟩
 have hle := hmax k2 g1 g2
 rw [g3] at hle
 have hmp : ∀ x y : Int, 0 < x * y → 0 ≤ x → 0 < x ∧ 0 < y := by
  intro x y hxy hx
  by_cases hx0 : x = 0
  ·rw [hx0, Int.zero_mul] at hxy; omega
  ·refine ⟨by omega, ?_⟩
   apply Classical.byContradiction
   intro hy
   have := Int.mul_nonneg hx (show 0 ≤ -y by omega)
   rw [Int.mul_neg] at this
   omega
 by_cases ht : (s k).basis.getD i 0 = c k'
 ·have hir : i = r k := (h.inv k).nodup hi hlea.lt (by rw [ht, l3])
  rw [ht, hir] at hpos
  have h1 := h.neg k'
  have h2 := Int.mul_pos (show 0 < -(at2 (s k').rows m (c k')) by omega) hlea.pos
  rw [Int.neg_mul] at h2
  omega
 ·have hlow2 := h.low k' ((s k).basis.getD i 0) (by omega)
  obtain ⟨w1, w2⟩ := hmp _ _ hpos hlow2
  have z' : Zero m N (s k') ((s k).basis.getD i 0) := fun j hj e => absurd ⟨j, hj, e⟩ hnb
  have za := (h.zeros he ((s k).basis.getD i 0) (k' - a) (by omega)).2 (by rw [show a + (k' - a) = k' by omega]; exact z')
  have zk := (h.zeros he ((s k).basis.getD i 0) (k - a) (by omega)).1 za
  rw [show a + (k - a) = k by omega] at zk
  have h0 := zk i hi rfl
  have hst := h.still he l1 l2
  have := (hlea.le i hi w2).2 (by rw [h0, hst, Int.zero_mul, Int.zero_mul])
  rw [l3] at this
  omega
end
/-- The algorithm ends. -/
theorem ends {m N w : Nat} {M : Tab} {s : St} (hi : Inv m N M s) (hf : zDe m N s) (hw : w ≤ N) : ∃ K, zBz m N w (zAc m N w s K) = none := by
 apply Classical.byContradiction
 intro hno
 have hno : ∀ k, zBz m N w (zAc m N w s k) ≠ none := fun k e => hno ⟨k, e⟩
 have hex : ∀ k, ∃ c r, c < w ∧ at2 (zAc m N w s k).rows m c < 0 ∧ (∀ a, a < c → 0 ≤ at2 (zAc m N w s k).rows m a) ∧ Least (zAc m N w s k).rows (zAc m N w s k).basis c N m r ∧ zAc m N w s (k + 1) = piv (zAc m N w s k) r c := by
  intro k
  cases hs : zBz m N w (zAc m N w s k) with
  | none => exact absurd hs (hno k)
  | some s' =>
   obtain ⟨c, r, h1, h2, h3, h4, h5⟩ := zJV hs
   refine ⟨c, r, h1, h2, h3, h4, ?_⟩
   show (zBz m N w (zAc m N w s k)).getD _ = _
   rw [hs, ← h5]; rfl
 have both : ∀ k, Inv m N M (zAc m N w s k) ∧ zDe m N (zAc m N w s k) := by
  intro k
  induction k with
  | zero => exact ⟨hi, hf⟩
  | succ k ih =>
   obtain ⟨c, r, h1, h2, h3, h4, h5⟩ := hex k
   rw [h5]
   have := h4.pos
   exact ⟨ih.1.piv h4.lt (by omega) (by omega), ih.1.feas_step ih.2 (by omega) h4⟩
 exact Endless.false (m := m) (N := N) (M := M) (s := zAc m N w s) (c := fun k => Classical.choose (hex k)) (r := fun k => Classical.choose (Classical.choose_spec (hex k)))
  { inv := fun k => (both k).1
    feas := fun k => (both k).2
    cN := fun k => by have := (Classical.choose_spec (Classical.choose_spec (hex k))).1; omega
    neg := fun k => (Classical.choose_spec (Classical.choose_spec (hex k))).2.1
    low := fun k => (Classical.choose_spec (Classical.choose_spec (hex k))).2.2.1
    lea := fun k => (Classical.choose_spec (Classical.choose_spec (hex k))).2.2.2.1
    nx := fun k => (Classical.choose_spec (Classical.choose_spec (hex k))).2.2.2.2 }
end Go.Ax.Sx
namespace Go.Ax.Sx
open Go.Ax.Dt
/-- a row in place of the last one -/
def zBI (T : Tab) (m : Nat) (L : List Int) : Tab := T.take m ++ [L]
theorem zJo {T : Tab} {m : Nat} (h : m ≤ T.length) (L : List Int) : (zBI T m L).length = m + 1 := by
 unfold zBI
 rw [List.length_append, List.length_take]
 show min m T.length + 1 = m + 1
 omega
theorem zJn {T : Tab} {m : Nat} (h : m ≤ T.length) (L : List Int) (i : Nat) : (zBI T m L).getD i [] = if i < m then T.getD i [] else if i = m then L else [] := by
 unfold zBI
 simp only [List.getD, List.getElem?_append, List.length_take, Nat.min_eq_left h]
 by_cases h1 : i < m
 ·rw [if_pos h1, if_pos h1, List.getElem?_take, if_pos h1]
 ·rw [if_neg h1, if_neg h1]
  by_cases h2 : i = m
  ·subst h2; simp
  ·rw [if_neg h2]
   have : [L][i - m]? = none := List.getElem?_eq_none (by simp; omega)
   rw [this]; rfl
theorem zGE {T : Tab} {m : Nat} (h : m ≤ T.length) (L : List Int) {i : Nat} (hi : i < m) (j : Nat) : at2 (zBI T m L) i j = at2 T i j := by
 unfold at2; rw [zJn h, if_pos hi]
theorem zIJ {T : Tab} {m : Nat} (h : m ≤ T.length) (L : List Int) (j : Nat) : at2 (zBI T m L) m j = L.getD j 0 := by
 unfold at2; rw [zJn h, if_neg (Nat.lt_irrefl _), if_pos rfl]
theorem zBA {f : Nat → Int} {n j : Nat} (hj : j < n) : ((List.range n).map f).getD j 0 = f j := by simp [List.getD, hj]
/-- Only the last column of the other rows is changed. -/
theorem zNL {m : Nat} {D E : Mx} (hD : ∀ c, c < m + 1 → D m c = if c = m then 1 else 0) (hE : ∀ c, c < m + 1 → E m c = if c = m then 1 else 0) (h : ∀ a c, a < m → c < m → D a c = E a c) : det (m + 1) E = det (m + 1) D := by
 let F : Nat → Mx := fun k a => if a < k then E a else D a
 have step : ∀ k, k ≤ m → det (m + 1) (F k) = det (m + 1) D := by
  intro k
  induction k with
  | zero =>
   intro _
   exact zDX (fun a c _ _ => by show (if a < 0 then E a else D a) c = D a c; rw [if_neg (Nat.not_lt_zero _)])
  | succ k ih =>
   intro hk
   have e : det (m + 1) (F (k + 1)) = det (m + 1) (put (F k) k (E k)) := by
    refine zDX (fun a c _ _ => ?_)
    show (if a < k + 1 then E a else D a) c = (if a = k then E k else (if a < k then E a else D a)) c
    by_cases e1 : a = k
    ·subst e1; rw [if_pos (Nat.lt_succ_self _), if_pos rfl]
    ·rw [if_neg e1]
     by_cases e2 : a < k
     ·rw [if_pos (by omega), if_pos e2]
     ·rw [if_neg (by omega), if_neg e2]
   rw [e, zEj (t := fun i => if i = k then 1 else if i = m then E k m - D k m else 0) (show k < m + 1 by omega), if_pos rfl, Int.one_mul]
   ·exact ih (by omega)
   ·intro c hc
    rw [zON k m (by omega) (by omega) (by omega) (fun i hi h1 h2 => by rw [if_neg h1, if_neg h2, Int.zero_mul])]
    rw [if_pos rfl, if_neg (by omega), if_pos rfl, Int.one_mul]
    show E k c = (if k < k then E k else D k) c + _ * (if m < k then E m else D m) c
    rw [if_neg (Nat.lt_irrefl _), if_neg (by omega), hD c hc]
    by_cases e3 : c = m
    ·subst e3; rw [if_pos rfl]; omega
    ·rw [if_neg e3, Int.mul_zero, Int.add_zero]
     exact (h k c (by omega) (by omega)).symm
 have h2 := step m (Nat.le_refl _)
 rw [← h2]
 refine zDX (fun a c ha hc => ?_)
 show E a c = (if a < m then E a else D a) c
 by_cases e : a < m
 ·rw [if_pos e]
 ·rw [if_neg e]
  obtain rfl : a = m := by omega
  rw [hD c hc, hE c hc]
/-- the costs of a table, for costs of the columns -/
def zHL (k : Nat → Int) (m N : Nat) (s : St) : List Int := (List.range (N + 1)).map (fun j => s.den * k j - zw (fun i => k (s.basis.getD i 0) * at2 s.rows i j) m)
def recost (k : Nat → Int) (m N : Nat) (s : St) : St := ⟨zBI s.rows m (zHL k m N s), s.den, s.basis⟩
def zCP (k : Nat → Int) (m N : Nat) (M : Tab) : Tab := zBI M m ((List.range (N + 1)).map k)
theorem Inv.recost {m N : Nat} {M : Tab} {s : St} (h : Inv m N M s) (k : Nat → Int) (hM : m ≤ M.length) : Inv m N (zCP k m N M) (recost k m N s) := by
 have hT : m ≤ s.rows.length := by rw [h.n]; omega
 have r1 : ∀ i j, i < m → at2 (Sx.recost k m N s).rows i j = at2 s.rows i j := fun i j hi => zGE hT _ hi j
 have r2 : ∀ j, j < N + 1 → at2 (Sx.recost k m N s).rows m j = s.den * k j - zw (fun i => k (s.basis.getD i 0) * at2 s.rows i j) m := fun j hj => by
  show at2 (zBI _ _ _) _ _ = _
  rw [zIJ hT]
  exact zBA hj
 have m1 : ∀ i j, i < m → at2 (zCP k m N M) i j = at2 M i j := fun i j hi => zGE hM _ hi j
 have m2 : ∀ j, j < N + 1 → at2 (zCP k m N M) m j = k j := fun j hj => by
  show at2 (zBI _ _ _) _ _ = _
  rw [zIJ hM]
  exact zBA hj
 have bD : ∀ (M : Tab) c, c < m + 1 → zDA M m s.basis m c = if c = m then 1 else 0 := fun M c hc => by
  show (if m < m then zHs M _ else fun c => if c = m then (1 : Int) else 0) c = _
  rw [if_neg (Nat.lt_irrefl _)]
 have bA : ∀ (M : Tab) a c, a < m → zDA M m s.basis a c = at2 M c (s.basis.getD a 0) := fun M a c ha => by
  show (if a < m then zHs M _ else fun c => if c = a then (1 : Int) else 0) c = _
  rw [if_pos ha]; rfl
 have hdet := zNL (D := zDA M m s.basis) (E := zDA (zCP k m N M) m s.basis) (bD M) (bD _) (fun a c ha hc => by rw [bA _ _ _ ha, bA _ _ _ ha, m1 c _ hc])
 refine ⟨zJo hT _, fun x hx => ?_, h.b, h.bc, h.dp, fun i a hi ha => ?_, ?_, fun j hj c hc => ?_⟩
 ·rcases List.mem_append.1 hx with h1 | h1
  ·exact h.row x (List.mem_of_mem_take h1)
  ·rw [List.mem_singleton.1 h1]
   unfold zHL
   rw [List.length_map, List.length_range]
 ·show at2 (Sx.recost k m N s).rows i (s.basis.getD a 0) = if i = a then s.den else 0
  by_cases e : i < m
  ·rw [r1 i _ e, h.unit i a hi ha]
  ·obtain rfl : i = m := by omega
   rw [r2 _ (by have := h.bc a ha; omega), if_neg (by omega)]
   have e2 : ∀ q, q < i → k (s.basis.getD q 0) * at2 s.rows q (s.basis.getD a 0) = if q = a then k (s.basis.getD q 0) * s.den else 0 := by
    intro q hq
    rw [h.unit q a (by omega) ha]
    split
    ·rfl
    ·rw [Int.mul_zero]
   rw [zp e2, zCM (f := fun q => k (s.basis.getD q 0) * s.den) ha, Int.mul_comm]
   omega
 ·obtain ⟨σ, h1, h2⟩ := h.sg
  exact ⟨σ, h1, by show det (m + 1) (zDA (zCP k m N M) m s.basis) = σ * s.den; rw [hdet, h2]⟩
 ·show zw (fun i => at2 (Sx.recost k m N s).rows i j * zDA (zCP k m N M) m s.basis i c) (m + 1) = s.den * at2 (zCP k m N M) c j
  show zw (fun i => at2 (Sx.recost k m N s).rows i j * zDA (zCP k m N M) m s.basis i c) m + at2 (Sx.recost k m N s).rows m j * zDA (zCP k m N M) m s.basis m c = _
  rw [bD _ c hc]
  have old := h.sol j hj c hc
  have old : zw (fun i => at2 s.rows i j * zDA M m s.basis i c) m + at2 s.rows m j * zDA M m s.basis m c = s.den * at2 M c j := old
  rw [bD _ c hc] at old
  by_cases e : c = m
  ·subst e
   rw [if_pos rfl, m2 j hj, r2 j hj]
   have e2 : ∀ i, i < c → at2 (Sx.recost k c N s).rows i j * zDA (zCP k c N M) c s.basis i c = k (s.basis.getD i 0) * at2 s.rows i j := by
    intro i hi
    rw [r1 i j hi, bA _ _ _ hi, m2 _ (by have := h.bc i hi; omega), Int.mul_comm]
   rw [zp e2]
   omega
  ·rw [if_neg e, Int.mul_zero, Int.add_zero] at *
   rw [m1 c j (by omega), ← old]
   exact zp (fun i hi => by rw [r1 i j hi, bA _ _ _ hi, bA _ _ _ hi, m1 c _ (by omega)])
/-- a row times a vector with few elements -/
theorem zKn {T : Tab} {N m i c : Nat} {d : Int} {p : Nat → Nat} {y : Nat → Int} (hc : c < N + 1) (hp : ∀ k, k < m → p k < N + 1) :
 zBu T N (fun j => (if j = c then d else 0) - zw (fun k => if j = p k then y k else 0) m) i = at2 T i c * d - zw (fun k => at2 T i (p k) * y k) m := by
 unfold zBu
 have e1 : ∀ j, j < N + 1 → at2 T i j * ((if j = c then d else 0) - zw (fun k => if j = p k then y k else 0) m) = (if j = c then at2 T i j * d else 0) + zw (fun k => if j = p k then -(at2 T i j * y k) else 0) m := by
  intro j hj
  rw [Int.mul_sub, Int.sub_eq_add_neg]
  congr 1
  ·split
   ·rfl
   ·rw [Int.mul_zero]
  ·rw [← Int.mul_neg, show -(zw (fun k => if j = p k then y k else 0) m) = zw (fun k => -1 * (if j = p k then y k else 0)) m from by rw [zBM]; omega, ← zBM]
   exact zp (fun k _ => by
    split
    ·rw [Int.neg_mul, Int.one_mul, Int.mul_neg]
    ·rw [Int.mul_zero, Int.mul_zero])
 rw [zp e1, zDK, zCM (f := fun j => at2 T i j * d) hc, zGa, Int.sub_eq_add_neg]
 congr 1
 have e2 : ∀ k, k < m → zw (fun j => if j = p k then -(at2 T i j * y k) else 0) (N + 1) = -1 * (at2 T i (p k) * y k) := by
  intro k hk
  rw [zCM (f := fun j => -(at2 T i j * y k)) (hp k hk)]
  omega
 rw [zp e2, zBM]
 omega
/-- A column for each condition with a 1 or a -1 there, and nothing else. -/
structure Slack (m N n : Nat) (M : Tab) (e : Nat → Int) : Prop where
 lt : n + m < N + 1
 sq : ∀ i, i < m → e i * e i = 1
 at' : ∀ i k, i < m → k < m → at2 M i (n + k) = if i = k then e i else 0
 cost : ∀ k, k < m → at2 M m (n + k) = 0
/-- Each row is a sum of multiples of the rows of the beginning; the factors stand at the slacks. -/
theorem Inv.combo {m N n : Nat} {M : Tab} {s : St} {e : Nat → Int} (h : Inv m N M s) (hs : Slack m N n M e) {q j : Nat} (hq : q < m + 1) (hj : j < N + 1) :
 at2 s.rows q j = zw (fun k => at2 s.rows q (n + k) * (e k * at2 M k j)) m + (if q = m then s.den * at2 M m j else 0) := by
 have hlt := hs.lt
 have hp : ∀ k, k < m → n + k < N + 1 := fun k hk => by omega
 have hker := (h.ker (fun v => (if v = j then 1 else 0) - zw (fun k => if v = n + k then e k * at2 M k j else 0) m) (-(at2 M m j))).1 (fun i hi => by
  rw [zKn hj hp, Int.mul_one]
  by_cases e1 : i = m
  ·subst e1
   rw [if_pos rfl, zB3 (fun k hk => by rw [hs.cost k hk, Int.zero_mul])]
   omega
  ·rw [if_neg e1]
   have e2 : ∀ k, k < m → at2 M i (n + k) * (e k * at2 M k j) = if k = i then e k * (e k * at2 M k j) else 0 := by
    intro k hk
    rw [hs.at' i k (by omega) hk]
    by_cases e3 : i = k
    ·rw [if_pos e3, if_pos e3.symm, e3]
    ·rw [if_neg e3, if_neg (fun q => e3 q.symm), Int.zero_mul]
   rw [zp e2, zCM (f := fun k => e k * (e k * at2 M k j)) (by omega), ← Int.mul_assoc, hs.sq i (by omega), Int.one_mul]
   omega) q hq
 rw [zKn hj hp, Int.mul_one] at hker
 by_cases e1 : q = m
 ·rw [if_pos e1] at hker ⊢
  rw [Int.mul_neg] at hker
  omega
 ·rw [if_neg e1] at hker ⊢
  omega
/-- The beginning: unit columns in the basis. -/
theorem Inv.init {T : Tab} {β : List Nat} {m N : Nat} (h1 : T.length = m + 1) (h2 : ∀ x ∈ T, x.length = N + 1) (h3 : β.length = m) (h4 : ∀ i, i < m → β.getD i 0 < N) (h5 : ∀ i k, i < m + 1 → k < m → at2 T i (β.getD k 0) = if i = k then 1 else 0) : Inv m N T ⟨T, 1, β⟩ := by
 have hu : ∀ a c, a < m + 1 → c < m + 1 → zDA T m β a c = zK9 a c := by
  intro a c ha hc
  show (if a < m then zHs T _ else fun c => if c = a then (1 : Int) else 0) c = if a = c then 1 else 0
  by_cases e : a < m
  ·rw [if_pos e]
   show at2 T c _ = _
   rw [h5 c a hc e]
   by_cases e2 : c = a
   ·rw [if_pos e2, if_pos e2.symm]
   ·rw [if_neg e2, if_neg (fun q => e2 q.symm)]
  ·rw [if_neg e]
   by_cases e2 : c = a
   ·rw [if_pos e2]; exact (if_pos e2.symm).symm
   ·rw [if_neg e2]; exact (if_neg (fun q => e2 q.symm)).symm
 refine ⟨h1, h2, h3, h4, by show (0 : Int) < 1; omega, h5, ⟨1, Z, ?_⟩, fun j hj c hc => ?_⟩
 ·show det (m + 1) (zDA T m β) = 1 * 1
  rw [zDX hu, zNM]; rfl
 ·show zw (fun i => at2 T i j * zDA T m β i c) (m + 1) = 1 * at2 T c j
  have e : ∀ i, i < m + 1 → at2 T i j * zDA T m β i c = if i = c then at2 T i j else 0 := by
   intro i hi
   rw [hu i c hi hc]
   show _ * (if i = c then (1 : Int) else 0) = _
   split
   ·rw [Int.mul_one]
   ·rw [Int.mul_zero]
  rw [zp e, zCM (f := fun i => at2 T i j) hc, Int.one_mul]
end Go.Ax.Sx
namespace Go.Ax.Rt
open Go.Ax.Bg Go.Ax.Dt
theorem zDz {α : Type} {l : List α} {j : Nat} (d : α) (h : j < l.length) : l.getD j d = l[j] := by simp [List.getD, h]
theorem zAD {α : Type} {l : List α} {j : Nat} (d : α) (h : j < l.length) : l.getD j d ∈ l := by rw [zDz d h]; exact List.getElem_mem h
theorem zJz {α : Type} {l r : List α} {j : Nat} (d : α) (h : j < l.length) : (l ++ r).getD j d = l.getD j d := by simp [List.getD, List.getElem?_append_left h]
theorem zP8 {α : Type} {l : List α} {x d : α} : (l ++ [x]).getD l.length d = x := by simp [List.getD]
theorem zJ1 (q : Rat) : q * (q.den : Rat) = (q.num : Rat) := by
 have h : ((q.den : Int) : Rat) ≠ 0 := fun e => q.den_nz (by
  have := congrArg Rat.num e
  simpa using this)
 have h2 := Rat.num_divInt_den q
 rw [Rat.divInt_eq_div] at h2
 conv => lhs; lhs; rw [← h2]
 rw [← Rat.intCast_natCast, Rat.div_mul_cancel h]
/-- The factor that makes a row whole. -/
def zCs : Nat → List Rat → Nat
 | f, [] => f
 | f, q :: r => zCs (f * (q.den / Nat.gcd f q.den)) r
theorem fac_step (f d : Nat) : f ∣ f * (d / Nat.gcd f d) ∧ d ∣ f * (d / Nat.gcd f d) := by
 refine ⟨Nat.dvd_mul_right _ _, ?_⟩
 obtain ⟨a, ha⟩ := Nat.gcd_dvd_left f d
 have h2 : Nat.gcd f d * (d / Nat.gcd f d) = d := Nat.mul_div_cancel' (Nat.gcd_dvd_right f d)
 refine ⟨a, ?_⟩
 generalize d / Nat.gcd f d = b at *
 generalize Nat.gcd f d = g at *
 rw [ha, ← h2]
 rw [Nat.mul_assoc, Nat.mul_assoc, Nat.mul_comm a b]
theorem zNP : ∀ (l : List Rat) (f : Nat), f ∣ zCs f l ∧ ∀ q ∈ l, q.den ∣ zCs f l
 | [], f => ⟨Nat.dvd_refl _, fun q hq => by simp at hq⟩
 | a :: r, f => by
  rw [zCs]
  obtain ⟨h1, h2⟩ := zNP r (f * (a.den / Nat.gcd f a.den))
  obtain ⟨s1, s2⟩ := fac_step f a.den
  refine ⟨Nat.dvd_trans s1 h1, fun q hq => ?_⟩
  rcases List.mem_cons.1 hq with rfl | hq
  ·exact Nat.dvd_trans s2 h1
  ·exact h2 q hq
theorem zIa : ∀ (l : List Rat) (f : Nat), 0 < f → 0 < zCs f l
 | [], f, h => h
 | a :: r, f, h => by
  rw [zCs]
  refine zIa r _ (Nat.mul_pos h ?_)
  have h2 : Nat.gcd f a.den * (a.den / Nat.gcd f a.den) = a.den := Nat.mul_div_cancel' (Nat.gcd_dvd_right f a.den)
  have := a.den_pos
  rcases Nat.eq_zero_or_pos (a.den / Nat.gcd f a.den) with e | e
  ·rw [e, Nat.mul_zero] at h2; omega
  ·exact e
theorem zIZ {k : Nat} : ∀ (l : List Rat) (f : Nat), (∀ q ∈ l, q.den < 10 ^ k) → zCs f l ≤ f * 10 ^ (k * l.length)
 | [], f, _ => by rw [zCs, List.length_nil, Nat.mul_zero, Nat.pow_zero, Nat.mul_one]; exact Nat.le_refl _
 | a :: r, f, h => by
  rw [zCs]
  refine Nat.le_trans (zIZ r _ (fun q hq => h q (by simp [hq]))) ?_
  have h1 : a.den / Nat.gcd f a.den ≤ 10 ^ k := Nat.le_trans (Nat.div_le_self _ _) (Nat.le_of_lt (h a (by simp)))
  rw [List.length_cons, Nat.mul_add, Nat.mul_one, Nat.add_comm, Nat.pow_add, ← Nat.mul_assoc]
  exact Nat.mul_le_mul_right _ (Nat.mul_le_mul_left _ h1)
def zAk (l : List Rat) : List Int := l.map (fun q => q.num * ((zCs 1 l / q.den : Nat) : Int))
theorem zGe (l : List Rat) : (zAk l).length = l.length := by simp [zAk]
theorem zMJ {l : List Rat} {q : Rat} (h : q ∈ l) : ((q.num * ((zCs 1 l / q.den : Nat) : Int) : Int) : Rat) = ((zCs 1 l : Nat) : Rat) * q := by
 obtain ⟨k, hk⟩ := (zNP l 1).2 q h
 rw [hk, Nat.mul_div_cancel_left _ q.den_pos, Rat.intCast_mul, Rat.natCast_mul]
 have h1 : q * (q.den : Rat) = (q.num : Rat) := zJ1 q
 have h2 : ((k : Int) : Rat) = (k : Rat) := Rat.intCast_natCast k
 rw [h2, ← h1]
 grind
theorem zMI {l : List Rat} {k : Nat} (h : ∀ q ∈ l, D k q) : ∀ x ∈ zAk l, x.natAbs ≤ 10 ^ (k + k * l.length) := by
 intro x hx
 obtain ⟨q, hq, rfl⟩ := List.mem_map.1 hx
 rw [Int.natAbs_mul, Int.natAbs_natCast, Nat.pow_add]
 refine Nat.mul_le_mul (Nat.le_of_lt (h q hq).1) ?_
 have := zIZ l 1 (fun q hq => (h q hq).2)
 rw [Nat.one_mul] at this
 exact Nat.le_trans (Nat.div_le_self _ _) this
theorem fct_le : ∀ {n : Nat}, n ≤ 40 → fct n ≤ 100 ^ n
 | 0, _ => Nat.le_refl _
 | n + 1, h => by
  rw [fct, Nat.pow_succ, Nat.mul_comm]
  exact Nat.mul_le_mul (fct_le (by omega)) (by omega)
theorem zP0 {n k : Nat} (h : n ≤ 40) : fct n * (10 ^ k) ^ n ≤ 10 ^ ((k + 2) * n) := by
 refine Nat.le_trans (Nat.mul_le_mul_right _ (fct_le h)) ?_
 rw [← Nat.mul_pow, Nat.pow_mul, Nat.pow_add]
 refine Nat.pow_le_pow_left ?_ n
 rw [Nat.mul_comm]
 exact Nat.le_refl _
theorem zGB (f : Nat → Int) : ∀ n, ((zw f n : Int) : Rat) = zAU (fun i => ((f i : Int) : Rat)) n
 | 0 => rfl
 | n + 1 => by rw [zw, zAU, Rat.intCast_add, zGB f n]
theorem zJ0 {x : Int} (h : x ≠ 0) : (x : Rat) ≠ 0 := fun e => h (by
 have := congrArg Rat.num e
 simpa using this)
end Go.Ax.Rt
namespace Go.Ax.Sx
open Go.Ax.Dt Go.Ax.Rt Go.Ax.Bg
/-- the first conditions that need an artificial unknown -/
def zAW (B : List Rat) : Nat → List Nat
 | 0 => []
 | k + 1 => if (B.getD k 0).num < 0 then zAW B k ++ [k] else zAW B k
abbrev zBe (B : List Rat) (i : Nat) : Nat := (zAW B i).length
abbrev zGg (B : List Rat) : Nat := zBe B B.length
theorem zIj {B : List Rat} : ∀ {n k : Nat}, k ∈ zAW B n ↔ k < n ∧ (B.getD k 0).num < 0
 | 0, k => by simp [zAW]
 | n + 1, k => by
  rw [zAW]
  split
  ·rename_i h
   rw [List.mem_append, zIj, List.mem_singleton]
   constructor
   ·rintro (h1 | h1)
    ·exact ⟨by omega, h1.2⟩
    ·rw [h1]; exact ⟨by omega, h⟩
   ·rintro ⟨h1, h2⟩
    by_cases e : k = n
    ·exact .inr e
    ·exact .inl ⟨by omega, h2⟩
  ·rename_i h
   rw [zIj]
   constructor
   ·rintro ⟨h1, h2⟩; exact ⟨by omega, h2⟩
   ·rintro ⟨h1, h2⟩
    refine ⟨?_, h2⟩
    by_cases e : k = n
    ·rw [e] at h2; exact absurd h2 h
    ·omega
theorem zM5 (B : List Rat) (i : Nat) : ∀ d, zBe B i ≤ zBe B (i + d)
 | 0 => Nat.le_refl _
 | d + 1 => by
  refine Nat.le_trans (zM5 B i d) ?_
  show _ ≤ (zAW B (i + d + 1)).length
  rw [zAW]
  split
  ·rw [List.length_append]; exact Nat.le_add_right _ _
  ·exact Nat.le_refl _
theorem zM6 {B : List Rat} {i : Nat} (h : (B.getD i 0).num < 0) : zBe B (i + 1) = zBe B i + 1 := by
 show (zAW B (i + 1)).length = _
 rw [zAW, if_pos h, List.length_append]; rfl
theorem zJB {B : List Rat} {i k : Nat} (h : (B.getD i 0).num < 0) (hk : i < k) : zBe B i < zBe B k := by
 have h1 := zM5 B (i + 1) (k - (i + 1))
 rw [show i + 1 + (k - (i + 1)) = k by omega, zM6 h] at h1
 omega
theorem art_inj {B : List Rat} {i k : Nat} (h : (B.getD i 0).num < 0) (h' : (B.getD k 0).num < 0) (e : zBe B i = zBe B k) : i = k := by
 by_cases h1 : i < k
 ·have := zJB h h1; omega
 ·by_cases h2 : k < i
  ·have := zJB h' h2; omega
  ·omega
theorem zKD (B : List Rat) : ∀ i, zBe B i ≤ i
 | 0 => Nat.le_refl _
 | i + 1 => by
  show (zAW B (i + 1)).length ≤ _
  rw [zAW]
  have := zKD B i
  split
  ·rw [List.length_append]
   show zBe B i + 1 ≤ _
   omega
  ·show zBe B i ≤ _
   omega
/-- a row before its sign is considered -/
def zIN (n m a : Nat) (l : List Int) (i j : Nat) : Int := if j < n then l.getD j 0 else if j = n + i then 1 else if j = n + m + a then l.getD n 0 else 0
def zHC (n m a : Nat) (l : List Int) (i : Nat) (neg : Bool) (k j : Nat) : Int := if neg then (if j = n + m + k then 1 else -(zIN n m a l i j)) else zIN n m a l i j
def zDJ (n m a : Nat) (l : List Int) (i : Nat) (neg : Bool) (k : Nat) : List Int := (List.range (n + m + a + 1)).map (zHC n m a l i neg k)
/-- a linear program: the conditions, the right sides, and the costs -/
structure Prog where
 A : List (List Rat)
 B : List Rat
 C : List Rat
abbrev Prog.n (p : Prog) : Nat := p.C.length
abbrev Prog.m (p : Prog) : Nat := p.B.length
abbrev Prog.a (p : Prog) : Nat := zGg p.B
abbrev Prog.N (p : Prog) : Nat := p.C.length + p.B.length + zGg p.B
abbrev Prog.neg (p : Prog) (i : Nat) : Bool := decide ((p.B.getD i 0).num < 0)
def Prog.full (p : Prog) (i : Nat) : List Rat := p.A.getD i [] ++ [p.B.getD i 0]
def Prog.whole (p : Prog) (i : Nat) : List Int := zAk (p.full i)
/-- the factor of a row -/
def Prog.fac (p : Prog) (i : Nat) : Nat := zCs 1 (p.full i)
structure Prog.Ok (p : Prog) : Prop where
 rows : p.A.length = p.B.length
 cols : ∀ r ∈ p.A, r.length = p.C.length
def zBB (p : Prog) : Tab := (List.range p.m).map (fun i => zDJ p.n p.m p.a (p.whole i) i (p.neg i) (zBe p.B i))
def zBd (p : Prog) : List Nat := (List.range p.m).map (fun i => if p.neg i then p.n + p.m + zBe p.B i else p.n + i)
def zAO (p : Prog) : St := ⟨zBB p ++ [List.replicate (p.N + 1) 0], 1, zBd p⟩
/-- the sign of a row -/
def Prog.eps (p : Prog) (i : Nat) : Int := if p.neg i then -1 else 1
theorem zMZ (p : Prog) (i : Nat) : p.eps i * p.eps i = 1 := by unfold Prog.eps; split <;> rfl
theorem zCY (p : Prog) : (zBB p).length = p.m := by simp [zBB]
theorem zGZ (p : Prog) : (zBd p).length = p.m := by simp [zBd]
theorem zD3 {α : Type} {f : Nat → α} {n j : Nat} {d : α} (hj : j < n) : ((List.range n).map f).getD j d = f j := by simp [List.getD, hj]
theorem zHG (p : Prog) {i j : Nat} (hi : i < p.m) (hj : j < p.N + 1) : at2 (zAO p).rows i j = zHC p.n p.m p.a (p.whole i) i (p.neg i) (zBe p.B i) j := by
 unfold at2
 have e : (zAO p).rows.getD i [] = zDJ p.n p.m p.a (p.whole i) i (p.neg i) (zBe p.B i) := by
  show (zBB p ++ _).getD i [] = _
  rw [zJz [] (by rw [zCY]; exact hi)]
  exact zD3 hi
 rw [e]
 exact zD3 hj
theorem zGp (p : Prog) (j : Nat) : at2 (zAO p).rows p.m j = 0 := by
 unfold at2
 have e : (zAO p).rows.getD p.m [] = List.replicate (p.N + 1) 0 := by
  show (zBB p ++ [_]).getD p.m [] = _
  rw [← zCY p]
  exact zP8
 rw [e]
 simp only [List.getD, List.getElem?_replicate]
 split <;> rfl
theorem zGY (p : Prog) {i : Nat} (hi : i < p.m) : (zBd p).getD i 0 = if p.neg i then p.n + p.m + zBe p.B i else p.n + i := zD3 hi
/-- the elements of the first table -/
theorem zJ7 (p : Prog) {i j : Nat} (hi : i < p.m) (hj : j < p.n) : at2 (zAO p).rows i j = p.eps i * (p.whole i).getD j 0 := by
 have hjn : j < p.C.length := hj
 have hii : i < p.B.length := hi
 rw [zHG p hi (by show j < p.C.length + p.B.length + zGg p.B + 1; omega)]
 unfold zHC Prog.eps zIN
 by_cases e : p.neg i = true
 ·rw [if_pos e, if_pos e, if_pos hj, if_neg (by show ¬ j = p.C.length + p.B.length + zBe p.B i; omega)]; omega
 ·rw [if_neg e, if_neg e, if_pos hj]; omega
theorem zIw (p : Prog) {i k : Nat} (hi : i < p.m) (hk : k < p.m) : at2 (zAO p).rows i (p.n + k) = if i = k then p.eps i else 0 := by
 have hii : i < p.B.length := hi
 have hkk : k < p.B.length := hk
 rw [zHG p hi (by show p.C.length + k < p.C.length + p.B.length + zGg p.B + 1; omega)]
 unfold zHC Prog.eps zIN
 have h1 : ¬ p.n + k < p.n := by omega
 have h2 : ¬ p.n + k = p.n + p.m + zBe p.B i := by show ¬ p.C.length + k = p.C.length + p.B.length + zBe p.B i; omega
 have h3 : ¬ p.n + k = p.n + p.m + p.a := by show ¬ p.C.length + k = p.C.length + p.B.length + zGg p.B; omega
 rw [if_neg h2, if_neg h1, if_neg h3]
 by_cases e : i = k
 ·subst e
  rw [if_pos rfl, if_pos rfl]
 ·rw [if_neg (show ¬ p.n + k = p.n + i by omega), if_neg e]
  split <;> rfl
theorem zMw (p : Prog) {i k : Nat} (hi : i < p.m) (hk : k < p.a) : at2 (zAO p).rows i (p.n + p.m + k) = if p.neg i = true ∧ k = zBe p.B i then 1 else 0 := by
 have hii : i < p.B.length := hi
 have hkk : k < zGg p.B := hk
 rw [zHG p hi (by show p.C.length + p.B.length + k < p.C.length + p.B.length + zGg p.B + 1; omega)]
 unfold zHC zIN
 have h1 : ¬ p.n + p.m + k < p.n := by omega
 have h2 : ¬ p.n + p.m + k = p.n + i := by show ¬ p.C.length + p.B.length + k = p.C.length + i; omega
 have h3 : ¬ p.n + p.m + k = p.n + p.m + p.a := by show ¬ p.C.length + p.B.length + k = p.C.length + p.B.length + zGg p.B; omega
 rw [if_neg h1, if_neg h2, if_neg h3]
 by_cases e : p.neg i = true
 ·rw [if_pos e]
  by_cases e2 : k = zBe p.B i
  ·rw [if_pos (by omega), if_pos ⟨e, e2⟩]
  ·rw [if_neg (by omega), if_neg (fun q => e2 q.2)]; rfl
 ·rw [if_neg e, if_neg (fun q => e q.1)]
theorem zIv (p : Prog) {i : Nat} (hi : i < p.m) : at2 (zAO p).rows i p.N = p.eps i * (p.whole i).getD p.n 0 := by
 have hii : i < p.B.length := hi
 rw [zHG p hi (by show p.C.length + p.B.length + zGg p.B < p.C.length + p.B.length + zGg p.B + 1; omega)]
 unfold zHC Prog.eps zIN
 have h1 : ¬ p.N < p.n := by show ¬ p.C.length + p.B.length + zGg p.B < p.C.length; omega
 have h2 : ¬ p.N = p.n + i := by show ¬ p.C.length + p.B.length + zGg p.B = p.C.length + i; omega
 have h3 : p.N = p.n + p.m + p.a := rfl
 rw [if_neg h1, if_neg h2, if_pos h3]
 by_cases e : p.neg i = true
 ·have e2 : (p.B.getD i 0).num < 0 := by simpa using e
  have h4 : zBe p.B i < zGg p.B := zJB e2 hii
  rw [if_pos e, if_pos e, if_neg (by show ¬ p.C.length + p.B.length + zGg p.B = p.C.length + p.B.length + zBe p.B i; omega)]; omega
 ·rw [if_neg e, if_neg e]; omega
theorem zOH (p : Prog) : Slack p.m p.N p.n (zAO p).rows p.eps := by
 refine ⟨by show p.C.length + p.B.length < p.C.length + p.B.length + zGg p.B + 1; omega, fun i _ => zMZ p i, fun i k hi hk => zIw p hi hk, fun k _ => zGp p _⟩
theorem zEz (p : Prog) : Inv p.m p.N (zAO p).rows (zAO p) := by
 refine Inv.init ?_ ?_ (zGZ p) ?_ ?_
 ·show (zBB p ++ [_]).length = _
  rw [List.length_append, zCY]; rfl
 ·intro x hx
  rcases List.mem_append.1 hx with h | h
  ·obtain ⟨i, _, rfl⟩ := List.mem_map.1 h
   unfold zDJ
   rw [List.length_map, List.length_range]
  ·rw [List.mem_singleton.1 h, List.length_replicate]
 ·intro i hi
  have hii : i < p.B.length := hi
  rw [zGY p hi]
  show (if p.neg i = true then p.C.length + p.B.length + zBe p.B i else p.C.length + i) < p.C.length + p.B.length + zGg p.B
  by_cases e : p.neg i = true
  ·have h3 : zBe p.B i < zGg p.B := zJB (by simpa using e) hii
   rw [if_pos e]
   exact Nat.add_lt_add_left h3 _
  ·rw [if_neg e]
   omega
 ·intro i k hi hk
  have hkk : k < p.B.length := hk
  rw [zGY p hk]
  by_cases him : i = p.m
  ·rw [him, zGp, if_neg (by show ¬ p.B.length = k; omega)]
  ·have hi' : i < p.m := Nat.lt_of_le_of_ne (Nat.le_of_lt_succ hi) him
   by_cases e : p.neg k = true
   ·have e2 : (p.B.getD k 0).num < 0 := by simpa using e
    rw [if_pos e, zMw p hi' (zJB e2 hkk)]
    by_cases e3 : i = k
    ·subst e3; rw [if_pos ⟨e, rfl⟩, if_pos rfl]
    ·rw [if_neg e3, if_neg]
     rintro ⟨q1, q2⟩
     exact e3 (art_inj (by simpa using q1) e2 q2.symm)
   ·rw [if_neg e, zIw p hi' hk]
    by_cases e3 : i = k
    ·subst e3; rw [if_pos rfl, if_pos rfl]; unfold Prog.eps; rw [if_neg e]
    ·rw [if_neg e3, if_neg e3]
theorem zD7 (p : Prog) (hp : p.Ok) {i : Nat} (hi : i < p.m) : (p.full i).length = p.n + 1 := by
 unfold Prog.full
 rw [List.length_append, hp.cols _ (zAD [] (by rw [hp.rows]; exact hi))]; rfl
theorem zJb (p : Prog) (hp : p.Ok) {i j : Nat} (hi : i < p.m) (hj : j < p.n + 1) : (p.whole i).getD j 0 = ((p.full i).getD j 0).num * ((p.fac i / ((p.full i).getD j 0).den : Nat) : Int) := by
 unfold Prog.whole zAk
 rw [zCK _ _ 0 _ _ (by rw [zD7 p hp hi]; exact hj)]
 rfl
theorem zHe (p : Prog) (hp : p.Ok) {i j : Nat} (hi : i < p.m) (hj : j < p.n + 1) : (((p.whole i).getD j 0 : Int) : Rat) = ((p.fac i : Nat) : Rat) * (p.full i).getD j 0 := by
 rw [zJb p hp hi hj]
 exact zMJ (zAD 0 (by rw [zD7 p hp hi]; exact hj))
theorem full_x (p : Prog) (hp : p.Ok) {i j : Nat} (hi : i < p.m) (hj : j < p.n) : (p.full i).getD j 0 = (p.A.getD i []).getD j 0 := by
 unfold Prog.full
 rw [zJz 0 (by rw [hp.cols _ (zAD [] (by rw [hp.rows]; exact hi))]; exact hj)]
theorem zOy (p : Prog) (hp : p.Ok) {i : Nat} (hi : i < p.m) : (p.full i).getD p.n 0 = p.B.getD i 0 := by
 unfold Prog.full
 have := hp.cols _ (zAD [] (show i < p.A.length by rw [hp.rows]; exact hi))
 show (p.A.getD i [] ++ [_]).getD p.C.length 0 = _
 rw [← this]
 exact zP8
theorem zKx (p : Prog) (hp : p.Ok) : zDe p.m p.N (zAO p) := by
 intro i hi
 rw [zIv p hi, zJb p hp hi (Nat.lt_succ_self _), zOy p hp hi]
 have h2 : (0 : Int) ≤ ((p.fac i / (p.B.getD i 0).den : Nat) : Int) := Int.natCast_nonneg _
 unfold Prog.eps
 split
 ·rename_i e
  have e2 : (p.B.getD i 0).num < 0 := by simpa using e
  have := Int.mul_nonneg (show 0 ≤ -(p.B.getD i 0).num by omega) h2
  rw [Int.neg_mul] at this
  omega
 ·rename_i e
  have e2 : ¬ (p.B.getD i 0).num < 0 := by simpa using e
  have := Int.mul_nonneg (show 0 ≤ (p.B.getD i 0).num by omega) h2
  omega
theorem zFH (f : Nat → Int) (a : Nat) : ∀ b, zw f (a + b) = zw f a + zw (fun k => f (a + k)) b
 | 0 => by show zw f a = zw f a + 0; omega
 | b + 1 => by
  show zw f (a + b) + f (a + b) = zw f a + (zw (fun k => f (a + k)) b + f (a + b))
  rw [zFH f a b]; omega
theorem zFa : ∀ {n : Nat} {f : Nat → Int}, (∀ i, i < n → 0 ≤ f i) → 0 ≤ zw f n
 | 0, f, _ => Int.le_refl 0
 | n + 1, f, h => by
  have h1 := zFa (n := n) (f := f) (fun i hi => h i (by omega))
  have h2 := h n (Nat.lt_succ_self n)
  show 0 ≤ zw f n + f n
  omega
theorem zMD : ∀ {n : Nat} {f : Nat → Int}, (∀ i, i < n → 0 ≤ f i) → zw f n = 0 → ∀ i, i < n → f i = 0
 | 0, f, _, _, i, hi => absurd hi (Nat.not_lt_zero i)
 | n + 1, f, h, h0, i, hi => by
  have h1 := zFa (n := n) (f := f) (fun i hi => h i (by omega))
  have h2 := h n (Nat.lt_succ_self n)
  have h0 : zw f n + f n = 0 := h0
  by_cases e : i = n
  ·rw [e]; omega
  ·exact zMD (n := n) (fun i hi => h i (by omega)) (by omega) i (by omega)
theorem zEt {m N w : Nat} {M : Tab} {s : St} (hi : Inv m N M s) (hf : zDe m N s) (hw : w ≤ N) : ∀ K, Inv m N M (zAc m N w s K) ∧ zDe m N (zAc m N w s K)
 | 0 => ⟨hi, hf⟩
 | K + 1 => by
  obtain ⟨h1, h2⟩ := zEt hi hf hw K
  show Inv m N M ((zBz m N w (zAc m N w s K)).getD _) ∧ zDe m N ((zBz m N w (zAc m N w s K)).getD _)
  cases hs : zBz m N w (zAc m N w s K) with
  | none => exact ⟨h1, h2⟩
  | some s' =>
   obtain ⟨c, r, g1, g2, g3, g4, rfl⟩ := zJV hs
   have := g4.pos
   exact ⟨h1.piv g4.lt (by omega) (by omega), h1.feas_step h2 (by omega) g4⟩
/-- the column that enters, or w -/
def zCG (m w : Nat) (s : St) : Nat := zCR s.rows m w 0
theorem zL6 {m N w : Nat} {s : St} (h : zBz m N w s = none) :
 (zCG m w s = w ∧ ∀ a, a < w → 0 ≤ at2 s.rows m a) ∨ (zCG m w s < w ∧ at2 s.rows m (zCG m w s) < 0 ∧ ∀ i, i < m → at2 s.rows i (zCG m w s) ≤ 0) := by
 unfold zBz at h
 obtain ⟨e1, e2, e3, e4⟩ := zE6 s.rows m w 0
 split at h
 ·rename_i h1
  exact .inl ⟨h1, fun a ha => e3 a (Nat.zero_le _) (by rw [h1]; exact ha)⟩
 ·split at h
  ·rename_i h1 _ hl
   exact .inr ⟨by unfold zCG; omega, e4 (by omega), zHy _ _ _ _ _ hl⟩
  ·cases h
/-- The vector of a column: it satisfies the conditions of the beginning. -/
def zBU (m : Nat) (s : St) (c j : Nat) : Int := (if j = c then s.den else 0) - zw (fun k => if j = s.basis.getD k 0 then at2 s.rows k c else 0) m
section
variable {m N w : Nat} {M : Tab} {s : St}
theorem Inv.vec (h : Inv m N M s) {c : Nat} (hc : c < N + 1) {i : Nat} (hi : i < m + 1) : zBu M N (zBU m s c) i = if i = m then at2 s.rows m c else 0 := by
 have := (h.ker (zBU m s c) (-(at2 s.rows m c))).2 (fun i hi => by
  rw [show zBu s.rows N (zBU m s c) i = at2 s.rows i c * s.den - zw (fun k => at2 s.rows i (s.basis.getD k 0) * at2 s.rows k c) m from zKn hc (fun k hk => by have := h.bc k hk; omega)]
  by_cases e : i = m
  ·subst e
   rw [if_pos rfl, zB3 (fun k hk => by rw [h.unit i k (by omega) hk, if_neg (by omega), Int.zero_mul]), Int.mul_neg, Int.mul_comm]
   omega
  ·rw [if_neg e]
   have e3 : ∀ k, k < m → at2 s.rows i (s.basis.getD k 0) * at2 s.rows k c = if k = i then s.den * at2 s.rows k c else 0 := by
    intro k hk
    rw [h.unit i k hi hk]
    by_cases e4 : i = k
    ·rw [if_pos e4, if_pos e4.symm]
    ·rw [if_neg e4, if_neg (fun q => e4 q.symm), Int.zero_mul]
   rw [zp e3, zCM (f := fun k => s.den * at2 s.rows k c) (by omega), Int.mul_comm]
   omega) i hi
 by_cases e : i = m
 ·rw [if_pos e] at this ⊢; omega
 ·rw [if_neg e] at this ⊢; omega
theorem Inv.vec_basic (h : Inv m N M s) {c k : Nat} (hk : k < m) : zBU m s c (s.basis.getD k 0) = (if s.basis.getD k 0 = c then s.den else 0) - at2 s.rows k c := by
 unfold zBU
 congr 1
 rw [zEP k hk (fun i hi hne => by rw [if_neg (fun e => hne (h.nodup hi hk e.symm))]), if_pos rfl]
theorem zGd {c j : Nat} (hn : ∀ k, k < m → s.basis.getD k 0 ≠ j) : zBU m s c j = if j = c then s.den else 0 := by
 unfold zBU
 rw [zB3 (fun k hk => by rw [if_neg (fun e => hn k hk e.symm)]), Int.sub_zero]
theorem Inv.vec_end (h : Inv m N M s) : zBU m s N N = s.den := by
 rw [zGd (fun k hk => by have := h.bc k hk; omega), if_pos rfl]
/-- the values are not negative -/
theorem Inv.vec_val (h : Inv m N M s) (hf : zDe m N s) {j : Nat} (hj : j < N) : zBU m s N j ≤ 0 := by
 by_cases hb : zCa m s j
 ·obtain ⟨k, hk, rfl⟩ := hb
  rw [h.vec_basic hk, if_neg (by omega)]
  have := hf k hk
  omega
 ·rw [zGd (fun k hk e => hb ⟨k, hk, e⟩), if_neg (by omega)]
  exact Int.le_refl 0
/-- a direction without an end -/
theorem Inv.vec_ray (h : Inv m N M s) {c : Nat} (hle : ∀ i, i < m → at2 s.rows i c ≤ 0) (j : Nat) : 0 ≤ zBU m s c j := by
 have hd := h.dp
 by_cases hb : zCa m s j
 ·obtain ⟨k, hk, rfl⟩ := hb
  rw [h.vec_basic hk]
  have := hle k hk
  split <;> omega
 ·rw [zGd (fun k hk e => hb ⟨k, hk, e⟩)]
  split <;> omega
end
theorem zLL {T : Tab} {m : Nat} (h : m ≤ T.length) (L L' : List Int) : zBI (zBI T m L) m L' = zBI T m L' := by
 unfold zBI
 congr 1
 rw [List.take_append_of_le_length (by rw [List.length_take]; omega), List.take_take, Nat.min_self]
theorem zNI {T : Tab} {m N : Nat} (h : m ≤ T.length) (k k' : Nat → Int) : zCP k m N (zCP k' m N T) = zCP k m N T := zLL h _ _
theorem zJm {k : Nat → Int} {m N : Nat} {s : St} (hT : m ≤ s.rows.length) (hf : zDe m N s) : zDe m N (recost k m N s) := fun i hi => by
 show 0 ≤ at2 (zBI _ _ _) i N
 rw [zGE hT _ hi]; exact hf i hi
theorem zIT {k : Nat → Int} {m N : Nat} {T : Tab} (hT : m ≤ T.length) (x : Nat → Int) : zBu (zCP k m N T) N x m = zw (fun j => k j * x j) (N + 1) := by
 unfold zBu
 refine zp (fun j hj => ?_)
 show at2 (zBI _ _ _) m j * _ = _
 rw [zIJ hT, zBA hj]
theorem cost_row {k : Nat → Int} {m N : Nat} {T : Tab} (hT : m ≤ T.length) (x : Nat → Int) {i : Nat} (hi : i < m) : zBu (zCP k m N T) N x i = zBu T N x i := by
 unfold zBu
 refine zp (fun j hj => ?_)
 show at2 (zBI _ _ _) i j * _ = _
 rw [zGE hT _ hi]
theorem zIS {k : Nat → Int} {m N : Nat} {T : Tab} (hT : m ≤ T.length) {j : Nat} (hj : j < N + 1) : at2 (zCP k m N T) m j = k j := by
 show at2 (zBI _ _ _) m j = _
 rw [zIJ hT, zBA hj]
theorem zGt {k : Nat → Int} {m N : Nat} {T : Tab} (hT : m ≤ T.length) {i : Nat} (hi : i < m) (j : Nat) : at2 (zCP k m N T) i j = at2 T i j := by
 show at2 (zBI _ _ _) i j = _
 rw [zGE hT _ hi]
theorem zRl (p : Prog) : (zAO p).rows.length = p.m + 1 := (zEz p).n
theorem zBF (p : Prog) : p.m ≤ (zAO p).rows.length := by rw [zRl]; exact Nat.le_succ _
/-- the costs of the first phase -/
def zCy (p : Prog) (j : Nat) : Int := if p.n + p.m ≤ j ∧ j < p.N then 1 else 0
theorem zKE (p : Prog) (j : Nat) : 0 ≤ zCy p j := by unfold zCy; split <;> omega
def ph1 (p : Prog) : St := recost (zCy p) p.m p.N (zAO p)
def M1 (p : Prog) : Tab := zCP (zCy p) p.m p.N (zAO p).rows
theorem zMp (p : Prog) : Inv p.m p.N (M1 p) (ph1 p) := (zEz p).recost (zCy p) (zBF p)
theorem zKY (p : Prog) (hp : p.Ok) : zDe p.m p.N (ph1 p) := zJm (zBF p) (zKx p hp)
/-- The first phase has no direction without an end. -/
theorem zNo {p : Prog} {s : St} (h : Inv p.m p.N (M1 p) s) {c : Nat} (hc : c < p.N) (hneg : at2 s.rows p.m c < 0) (hle : ∀ i, i < p.m → at2 s.rows i c ≤ 0) : False := by
 have h1 := h.vec (c := c) (i := p.m) (Nat.lt_succ_of_lt hc) (Nat.lt_succ_self _)
 have h2 := zIT (k := zCy p) (N := p.N) (zBF p) (zBU p.m s c)
 have h2 : zBu (M1 p) p.N (zBU p.m s c) p.m = zw (fun j => zCy p j * zBU p.m s c j) (p.N + 1) := h2
 rw [h1, if_pos rfl] at h2
 have h3 : 0 ≤ zw (fun j => zCy p j * zBU p.m s c j) (p.N + 1) := zFa (fun j _ => Int.mul_nonneg (zKE p j) (h.vec_ray hle j))
 omega
/-- its value -/
theorem zHY {p : Prog} {s : St} (h : Inv p.m p.N (M1 p) s) (hf : zDe p.m p.N s) :
 at2 s.rows p.m p.N ≤ 0 ∧ (at2 s.rows p.m p.N = 0 → ∀ i, i < p.m → p.n + p.m ≤ s.basis.getD i 0 → at2 s.rows i p.N = 0) := by
 have h1 := h.vec (c := p.N) (i := p.m) (Nat.lt_succ_self _) (Nat.lt_succ_self _)
 have h2 : zBu (M1 p) p.N (zBU p.m s p.N) p.m = zw (fun j => zCy p j * zBU p.m s p.N j) (p.N + 1) := zIT (k := zCy p) (N := p.N) (zBF p) (zBU p.m s p.N)
 rw [h1, if_pos rfl] at h2
 have hz : ∀ j, j < p.N + 1 → 0 ≤ zCy p j * -(zBU p.m s p.N j) := by
  intro j hj
  by_cases e : j = p.N
  ·have : zCy p j = 0 := by unfold zCy; rw [if_neg (by omega)]
   rw [this, Int.zero_mul]; exact Int.le_refl 0
  ·have := h.vec_val hf (j := j) (Nat.lt_of_le_of_ne (Nat.le_of_lt_succ hj) e)
   exact Int.mul_nonneg (zKE p j) (by omega)
 have h3 : zw (fun j => zCy p j * -(zBU p.m s p.N j)) (p.N + 1) = -(at2 s.rows p.m p.N) := by
  have : zw (fun j => zCy p j * -(zBU p.m s p.N j)) (p.N + 1) = zw (fun j => -1 * (zCy p j * zBU p.m s p.N j)) (p.N + 1) := zp (fun j _ => by rw [Int.mul_neg]; omega)
  rw [this, zBM, ← h2]; omega
 have h4 := zFa hz
 refine ⟨by omega, fun h0 i hi hb => ?_⟩
 have hbc := h.bc i hi
 have h5 := zMD hz (by rw [h3, h0]; rfl) (s.basis.getD i 0) (Nat.lt_succ_of_lt hbc)
 have h6 : zCy p (s.basis.getD i 0) = 1 := by unfold zCy; rw [if_pos ⟨hb, hbc⟩]
 rw [h6, Int.one_mul, h.vec_basic hi, if_neg (Nat.ne_of_lt hbc)] at h5
 omega
/-- the first element of a row that is not 0 -/
def nzN (T : Tab) (i : Nat) : Nat → Nat → Nat
 | 0, c => c
 | f + 1, c => if at2 T i c ≠ 0 then c else nzN T i f (c + 1)
theorem zQK (T : Tab) (i : Nat) : ∀ f c, c ≤ nzN T i f c ∧ nzN T i f c ≤ c + f ∧ (∀ a, c ≤ a → a < nzN T i f c → at2 T i a = 0) ∧ (nzN T i f c < c + f → at2 T i (nzN T i f c) ≠ 0)
 | 0, c => ⟨Nat.le_refl _, Nat.le_refl _, fun a h1 h2 => absurd h2 (by rw [nzN]; omega), fun h => absurd h (by rw [nzN]; omega)⟩
 | f + 1, c => by
  rw [nzN]
  by_cases h : at2 T i c ≠ 0
  ·rw [if_pos h]
   exact ⟨Nat.le_refl _, by omega, fun a h1 h2 => absurd h2 (by omega), fun _ => h⟩
  ·rw [if_neg h]
   obtain ⟨h1, h2, h3, h4⟩ := zQK T i f (c + 1)
   refine ⟨by omega, by omega, fun a ha hb => ?_, fun hb => h4 (by omega)⟩
   by_cases e : a = c
   ·subst e; omega
   ·exact h3 a (by omega) hb
/-- an artificial unknown leaves the basis -/
def zB1 (w : Nat) (s : St) (k : Nat) : St := if s.basis.getD k 0 < w then s else if nzN s.rows k w 0 = w then s else piv s k (nzN s.rows k w 0)
def zBS (w : Nat) (s : St) : Nat → St
 | 0 => s
 | k + 1 => zB1 w (zBS w s k) k
/-- artificial unknowns are 0; the first k are of no use any more -/
structure Dry (m N w : Nat) (s : St) (k : Nat) : Prop where
 z : ∀ i, i < m → w ≤ s.basis.getD i 0 → at2 s.rows i N = 0
 r : ∀ i, i < k → w ≤ s.basis.getD i 0 → ∀ j, j < w → at2 s.rows i j = 0
theorem zKJ {d x y : Int} (hd : 0 < d) (h : d * x = y) (hy : y = 0) : x = 0 := by
 rw [hy] at h
 rcases Int.mul_eq_zero.1 h with h1 | h1
 ·omega
 ·exact h1
theorem zOk {d x y : Int} (hd : 0 < d) (h : d * x = y) (hy : 0 ≤ y) : 0 ≤ x := Int.le_of_mul_le_mul_left (by rw [Int.mul_zero, h]; exact hy) hd
section
variable {m N w : Nat} {M : Tab} {s : St}
theorem Inv.drive (h : Inv m N M s) (hf : zDe m N s) {k : Nat} (hd : Dry m N w s k) (hk : k < m) (hw : w ≤ N) :
 Inv m N M (zB1 w s k) ∧ zDe m N (zB1 w s k) ∧ Dry m N w (zB1 w s k) (k + 1) := by
 unfold zB1
 obtain ⟨e1, e2, e3, e4⟩ := zQK s.rows k w 0
 by_cases hb : s.basis.getD k 0 < w
 ·rw [if_pos hb]
  refine ⟨h, hf, hd.z, fun i hi hb' => ?_⟩
  by_cases e : i = k
  ·rw [e] at hb'; omega
  ·exact hd.r i (by omega) hb'
 ·rw [if_neg hb]
  by_cases hn : nzN s.rows k w 0 = w
  ·rw [if_pos hn]
   refine ⟨h, hf, hd.z, fun i hi hb' => ?_⟩
   by_cases e : i = k
   ·rw [e]; exact fun j hj => e3 j (Nat.zero_le _) (by omega)
   ·exact hd.r i (by omega) hb'
  ·rw [if_neg hn]
   have hp := e4 (by omega)
   have hcw : nzN s.rows k w 0 < w := by omega
   generalize nzN s.rows k w 0 = c at *
   have hz := hd.z k hk (by omega)
   have hpz := zQc hp
   have hbas : ∀ i, (Sx.piv s k c).basis.getD i 0 = if i = k then c else s.basis.getD i 0 := fun i => zEx h hk i
   have hN : ∀ i, i < m → s.den * at2 (Sx.piv s k c).rows i N = at2 s.rows i N * (sgZ (at2 s.rows k c) * at2 s.rows k c) := by
    intro i hi
    rw [h.entry hk (show c < N by omega) hp (show i < m + 1 by omega) (Nat.lt_succ_self N), hz]
    by_cases e : i = k
    ·rw [if_pos e, e, hz, Int.mul_zero, Int.mul_zero, Int.zero_mul]
    ·rw [if_neg e, Int.mul_zero, Int.sub_zero, Int.mul_left_comm]
   refine ⟨h.piv hk (by omega) hp, fun i hi => zOk h.dp (hN i hi) (Int.mul_nonneg (hf i hi) (Int.le_of_lt hpz)), fun i hi hb' => ?_, fun i hi hb' j hj => ?_⟩
   ·rw [hbas] at hb'
    by_cases e : i = k
    ·rw [if_pos e] at hb'; omega
    ·rw [if_neg e] at hb'
     exact zKJ h.dp (hN i hi) (by rw [hd.z i hi hb', Int.zero_mul])
   ·rw [hbas] at hb'
    by_cases e : i = k
    ·rw [if_pos e] at hb'; omega
    ·rw [if_neg e] at hb'
     have q1 := hd.r i (by omega) hb' j hj
     have q2 := hd.r i (by omega) hb' c hcw
     refine zKJ h.dp (h.entry hk (show c < N by omega) hp (show i < m + 1 by omega) (show j < N + 1 by omega)) ?_
     rw [if_neg e, q1, q2, Int.zero_mul, Int.zero_mul]
     exact Int.mul_zero _
theorem Inv.drives (h : Inv m N M s) (hf : zDe m N s) (hd : ∀ i, i < m → w ≤ s.basis.getD i 0 → at2 s.rows i N = 0) (hw : w ≤ N) :
 ∀ k, k ≤ m → Inv m N M (zBS w s k) ∧ zDe m N (zBS w s k) ∧ Dry m N w (zBS w s k) k
 | 0, _ => ⟨h, hf, hd, fun i hi => absurd hi (Nat.not_lt_zero i)⟩
 | k + 1, hk => by
  obtain ⟨h1, h2, h3⟩ := Inv.drives h hf hd hw k (by omega)
  exact h1.drive h2 h3 (by omega) hw
theorem Inv.dry_step (h : Inv m N M s) (hd : Dry m N w s m) {r c : Nat} (hw : w ≤ N) (hc : c < w) (hl : Least s.rows s.basis c N m r) : Dry m N w (Sx.piv s r c) m := by
 have hp := hl.pos
 have hr := hl.lt
 have hbas : ∀ i, (Sx.piv s r c).basis.getD i 0 = if i = r then c else s.basis.getD i 0 := fun i => zEx h hr i
 have key : ∀ i, i < m → w ≤ (Sx.piv s r c).basis.getD i 0 → ∀ j, (j < w ∨ j = N) → at2 (Sx.piv s r c).rows i j = 0 := by
  intro i hi hb j hj
  rw [hbas] at hb
  by_cases e : i = r
  ·rw [if_pos e] at hb; omega
  ·rw [if_neg e] at hb
   have q1 : at2 s.rows i j = 0 := by
    rcases hj with hj | hj
    ·exact hd.r i hi hb j hj
    ·rw [hj]; exact hd.z i hi hb
   have q2 := hd.r i hi hb c hc
   refine zKJ h.dp (h.entry hr (show c < N by omega) (by omega) (show i < m + 1 by omega) (show j < N + 1 by omega)) ?_
   rw [if_neg e, q1, q2, Int.zero_mul, Int.zero_mul]
   exact Int.mul_zero _
 exact ⟨fun i hi hb => key i hi hb N (.inr Z), fun i hi hb j hj => key i hi hb j (.inl hj)⟩
theorem zNX (h : Inv m N M s) (hf : zDe m N s) (hd : Dry m N w s m) (hw : w ≤ N) : ∀ K, Dry m N w (zAc m N w s K) m
 | 0 => hd
 | K + 1 => by
  have h1 := zNX h hf hd hw K
  have h2 := (zEt h hf hw K).1
  show Dry m N w ((zBz m N w (zAc m N w s K)).getD _) m
  cases hs : zBz m N w (zAc m N w s K) with
  | none => exact h1
  | some s' =>
   obtain ⟨c, r, g1, g2, g3, g4, rfl⟩ := zJV hs
   exact h2.dry_step h1 hw g1 g4
theorem zOr {k : Nat → Int} (hT : m ≤ s.rows.length) (hd : Dry m N w s m) : Dry m N w (recost k m N s) m := by
 refine ⟨fun i hi hb => ?_, fun i hi hb j hj => ?_⟩
 ·show at2 (zBI _ _ _) i N = 0
  rw [zGE hT _ hi]; exact hd.z i hi hb
 ·show at2 (zBI _ _ _) i j = 0
  rw [zGE hT _ hi]; exact hd.r i hi hb j hj
end
/-- the costs of the second phase -/
def zBV (p : Prog) (j : Nat) : Int := if j < p.n then -((zAk p.C).getD j 0) else 0
def M2 (p : Prog) : Tab := zCP (zBV p) p.m p.N (zAO p).rows
/-- the table after K steps of the first phase -/
def zCD (p : Prog) (K : Nat) : St := zAc p.m p.N (p.n + p.m) (ph1 p) K
/-- the table before the second phase -/
def mid (p : Prog) (K : Nat) : St := if p.a = 0 then zAO p else zBS (p.n + p.m) (zCD p K) p.m
def ph2 (p : Prog) (K : Nat) : St := recost (zBV p) p.m p.N (mid p K)
def zDd (p : Prog) (K L : Nat) : St := zAc p.m p.N (p.n + p.m) (ph2 p K) L
theorem zFo (p : Prog) : p.n + p.m ≤ p.N := Nat.le_add_right _ _
theorem zEv (p : Prog) (hp : p.Ok) (K : Nat) : Inv p.m p.N (M1 p) (zCD p K) ∧ zDe p.m p.N (zCD p K) := zEt (zMp p) (zKY p hp) (zFo p) K
/-- The second phase begins well. -/
theorem mid_keep (p : Prog) (hp : p.Ok) (K : Nat) (h0 : 0 < p.a → at2 (zCD p K).rows p.m p.N = 0) :
 (∃ M, Inv p.m p.N M (mid p K) ∧ p.m ≤ M.length ∧ zCP (zBV p) p.m p.N M = M2 p) ∧ zDe p.m p.N (mid p K) ∧ Dry p.m p.N (p.n + p.m) (mid p K) p.m := by
 unfold mid
 by_cases e : p.a = 0
 ·rw [if_pos e]
  have hno : ∀ i, i < p.m → ¬ p.n + p.m ≤ (zAO p).basis.getD i 0 := by
   intro i hi
   have h1 := (zEz p).bc i hi
   have h2 : p.N = p.n + p.m + p.a := rfl
   omega
  exact ⟨⟨_, zEz p, zBF p, Z⟩, zKx p hp, fun i hi hb => absurd hb (hno i hi), fun i hi hb => absurd hb (hno i hi)⟩
 ·rw [if_neg e]
  obtain ⟨h1, h2⟩ := zEv p hp K
  obtain ⟨_, hz⟩ := zHY h1 h2
  obtain ⟨g1, g2, g3⟩ := h1.drives h2 (hz (h0 (by omega))) (zFo p) p.m (Nat.le_refl _)
  refine ⟨⟨_, g1, ?_, zNI (zBF p) _ _⟩, g2, g3⟩
  have : (M1 p).length = p.m + 1 := zJo (zBF p) _
  omega
theorem zKZ (p : Prog) (hp : p.Ok) (K : Nat) (h0 : 0 < p.a → at2 (zCD p K).rows p.m p.N = 0) :
 Inv p.m p.N (M2 p) (ph2 p K) ∧ zDe p.m p.N (ph2 p K) ∧ Dry p.m p.N (p.n + p.m) (ph2 p K) p.m := by
 obtain ⟨⟨M, h1, h2, h3⟩, h4, h5⟩ := mid_keep p hp K h0
 have hT : p.m ≤ (mid p K).rows.length := by rw [h1.n]; exact Nat.le_succ _
 have h6 := h1.recost (zBV p) h2
 rw [h3] at h6
 exact ⟨h6, zJm hT h4, zOr hT h5⟩
theorem zHc (p : Prog) (hp : p.Ok) (K L : Nat) (h0 : 0 < p.a → at2 (zCD p K).rows p.m p.N = 0) :
 Inv p.m p.N (M2 p) (zDd p K L) ∧ zDe p.m p.N (zDd p K L) ∧ Dry p.m p.N (p.n + p.m) (zDd p K L) p.m := by
 obtain ⟨h1, h2, h3⟩ := zKZ p hp K h0
 obtain ⟨h4, h5⟩ := zEt h1 h2 (zFo p) L
 exact ⟨h4, h5, zNX h1 h2 h3 (zFo p) L⟩
end Go.Ax.Sx
namespace Go.Ax.Sx
open Go.Ax.Dt Go.Ax.Rt Go.Ax.Bg
structure Res where
 kind : Nat
 X : List Rat
 Y : List Rat
 R : List Rat
 V : Rat
/-- elements at the places of the basis -/
def zBx (n : Nat) (β : List Nat) (f : Nat → Rat) (l : List Rat) : Nat → List Rat
 | 0 => l
 | k + 1 => if β.getD k 0 < n then (zBx n β f l k).set (β.getD k 0) (f k) else zBx n β f l k
theorem zDn (n : Nat) (β : List Nat) (f : Nat → Rat) (l : List Rat) : ∀ k, (zBx n β f l k).length = l.length
 | 0 => rfl
 | k + 1 => by
  rw [zBx]
  split
  ·rw [List.length_set, zDn n β f l k]
  ·exact zDn n β f l k
theorem zKd {n : Nat} {β : List Nat} {f : Nat → Rat} {l : List Rat} {j : Nat} : ∀ {K : Nat}, (∀ k, k < K → β.getD k 0 ≠ j) → (zBx n β f l K).getD j 0 = l.getD j 0
 | 0, _ => rfl
 | K + 1, h => by
  have h1 := zKd (n := n) (f := f) (l := l) (K := K) (fun k hk => h k (by omega))
  rw [zBx]
  split
  ·rw [getD_set, if_neg (fun e => h K (Nat.lt_succ_self K) e.1.symm)]; exact h1
  ·exact h1
theorem zH3 {n : Nat} {β : List Nat} {f : Nat → Rat} {l : List Rat} {k : Nat} (hl : l.length = n) (hlt : β.getD k 0 < n) :
 ∀ {K : Nat}, (∀ i, i < K → β.getD i 0 = β.getD k 0 → i = k) → k < K → (zBx n β f l K).getD (β.getD k 0) 0 = f k
 | 0, _, hk => absurd hk (Nat.not_lt_zero k)
 | K + 1, hi, hk => by
  rw [zBx]
  by_cases e : k = K
  ·subst e
   rw [if_pos hlt, getD_set, if_pos ⟨rfl, by rw [zDn, hl]; exact hlt⟩]
  ·have h1 := zH3 (f := f) hl hlt (K := K) (fun i h => hi i (by omega)) (by omega)
   have hne : β.getD K 0 ≠ β.getD k 0 := fun q => e (hi K (Nat.lt_succ_self K) q).symm
   split
   ·rw [getD_set, if_neg (fun q => hne q.1.symm)]; exact h1
   ·exact h1
def zBk (p : Prog) (s : St) : List Rat := zBx p.n s.basis (fun k => Rat.divInt (at2 s.rows k p.N) s.den) (List.replicate p.n 0) p.m
def zFL (n c : Nat) : List Rat := if c < n then (List.replicate n 0).set c 1 else List.replicate n 0
def zHg (p : Prog) (s : St) (c : Nat) : List Rat := zBx p.n s.basis (fun k => Rat.divInt (-(at2 s.rows k c)) s.den) (zFL p.n c) p.m
def yL (p : Prog) (s : St) (d : Int) : List Rat := (List.range p.m).map (fun i => Rat.divInt (at2 s.rows p.m (p.n + i)) d * ((p.fac i : Nat) : Rat))
/-- the factor of the costs -/
def Prog.fc (p : Prog) : Nat := zCs 1 p.C
/-- what the program returns after K and L steps -/
def zDc (p : Prog) (K L : Nat) : Res :=
 if 0 < p.a ∧ at2 (zCD p K).rows p.m p.N < 0 then ⟨1, [], yL p (zCD p K) (zCD p K).den, [], 0⟩
 else if zCG p.m (p.n + p.m) (zDd p K L) < p.n + p.m then ⟨2, zBk p (zDd p K L), [], zHg p (zDd p K L) (zCG p.m (p.n + p.m) (zDd p K L)), 0⟩
 else ⟨0, zBk p (zDd p K L), yL p (zDd p K L) ((zDd p K L).den * (p.fc : Nat)), [], Rat.divInt (at2 (zDd p K L).rows p.m p.N) ((zDd p K L).den * (p.fc : Nat))⟩
structure Stops (p : Prog) (K L : Nat) : Prop where
 one : 0 < p.a → zBz p.m p.N (p.n + p.m) (zCD p K) = none
 two : ¬ (0 < p.a ∧ at2 (zCD p K).rows p.m p.N < 0) → zBz p.m p.N (p.n + p.m) (zDd p K L) = none
theorem zG4 {p : Prog} (hp : p.Ok) {K : Nat} (h : ¬ (0 < p.a ∧ at2 (zCD p K).rows p.m p.N < 0)) : 0 < p.a → at2 (zCD p K).rows p.m p.N = 0 := by
 intro ha
 obtain ⟨h1, h2⟩ := zEv p hp K
 have := (zHY h1 h2).1
 have : ¬ at2 (zCD p K).rows p.m p.N < 0 := fun q => h ⟨ha, q⟩
 omega
/-- The algorithm ends. -/
theorem runs (p : Prog) (hp : p.Ok) : ∃ K L, Stops p K L := by
 obtain ⟨K, hK⟩ := ends (zMp p) (zKY p hp) (zFo p)
 by_cases h : 0 < p.a ∧ at2 (zCD p K).rows p.m p.N < 0
 ·exact ⟨K, 0, fun _ => hK, fun q => absurd h q⟩
 ·obtain ⟨h1, h2, _⟩ := zKZ p hp K (zG4 hp h)
  obtain ⟨L, hL⟩ := ends h1 h2 (zFo p)
  exact ⟨K, L, fun _ => hK, fun _ => hL⟩
/-- A result with its proof. -/
inductive Good (p : Prog) : Res → Prop
 | best {X Y : List Rat} {V : Rat} (hx : X.length = p.n) (hy : Y.length = p.m) (x0 : ∀ j, j < p.n → 0 ≤ X.getD j 0) (y0 : ∀ i, i < p.m → 0 ≤ Y.getD i 0)
  (ax : ∀ i, i < p.m → zAM (p.A.getD i []) X ≤ p.B.getD i 0) (ya : ∀ j, j < p.n → p.C.getD j 0 ≤ zAM (zBo p.A j) Y) (cx : zAM p.C X = V) (yb : zAM p.B Y = V) : Good p ⟨0, X, Y, [], V⟩
 | none {Y : List Rat} (hm : 0 < p.m) (hy : Y.length = p.m) (y0 : ∀ i, i < p.m → 0 ≤ Y.getD i 0) (ya : ∀ j, j < p.n → 0 ≤ zAM (zBo p.A j) Y) (yb : zAM p.B Y < 0) : Good p ⟨1, [], Y, [], 0⟩
 | free {X R : List Rat} (hn : 0 < p.n) (hx : X.length = p.n) (hr : R.length = p.n) (x0 : ∀ j, j < p.n → 0 ≤ X.getD j 0) (r0 : ∀ j, j < p.n → 0 ≤ R.getD j 0)
  (ax : ∀ i, i < p.m → zAM (p.A.getD i []) X ≤ p.B.getD i 0) (ar : ∀ i, i < p.m → zAM (p.A.getD i []) R ≤ 0) (cr : 0 < zAM p.C R) : Good p ⟨2, X, [], R, 0⟩
theorem mul_le0 {a x : Rat} (ha : 0 < a) (h : a * x ≤ 0) : x ≤ 0 := Rat.le_of_mul_le_mul_right (c := a) (by rw [Rat.zero_mul, Rat.mul_comm]; exact h) ha
theorem zIh {a x : Rat} (ha : 0 < a) (h : 0 ≤ a * x) : 0 ≤ x := Rat.le_of_mul_le_mul_right (c := a) (by rw [Rat.zero_mul, Rat.mul_comm x]; exact h) ha
theorem zF1 {k : Nat} (h : 0 < k) : (0 : Rat) < (k : Rat) := by
 have h1 : ((k : Int) : Rat) = (k : Rat) := Rat.intCast_natCast k
 rw [← h1]; exact zEE (by omega)
theorem zJy (p : Prog) (i : Nat) : 0 < p.fac i := zIa _ 1 (by decide)
theorem zHv (p : Prog) : 0 < p.fc := zIa _ 1 (by decide)
theorem zQD {x : Int} (h : x ≤ 0) : (x : Rat) ≤ 0 := (Rat.intCast_le_intCast (a := x) (b := 0)).2 h
theorem zHT {x : Int} (h : 0 ≤ x) : (0 : Rat) ≤ (x : Rat) := (Rat.intCast_le_intCast (a := 0) (b := x)).2 h
theorem zMe {x : Int} (h : x < 0) : (x : Rat) < 0 := (Rat.intCast_lt_intCast (a := x) (b := 0)).2 h
theorem zE5 {x d : Int} (h : d ≠ 0) : Rat.divInt x d * (d : Rat) = (x : Rat) := by rw [Rat.divInt_eq_div, Rat.div_mul_cancel (zJ0 h)]
section
variable {p : Prog} {k : Nat → Int} {s : St}
/-- the sum of a condition -/
theorem zRm {x : Nat → Int} {i : Nat} (hi : i < p.m) (ha : ∀ q, q < p.a → x (p.n + p.m + q) = 0) :
 zBu (zAO p).rows p.N x i = p.eps i * (zw (fun j => (p.whole i).getD j 0 * x j) p.n + x (p.n + i) + (p.whole i).getD p.n 0 * x p.N) := by
 have e1 : ∀ j, j < p.n → at2 (zAO p).rows i j * x j = p.eps i * ((p.whole i).getD j 0 * x j) := fun j hj => by rw [zJ7 p hi hj, Int.mul_assoc]
 have e2 : ∀ q, q < p.m → at2 (zAO p).rows i (p.n + q) * x (p.n + q) = if q = i then p.eps i * x (p.n + q) else 0 := fun q hq => by
  rw [zIw p hi hq]
  by_cases e : i = q
  ·rw [if_pos e, if_pos e.symm]
  ·rw [if_neg e, if_neg (fun h => e h.symm), Int.zero_mul]
 have e3 : ∀ q, q < p.a → at2 (zAO p).rows i (p.n + p.m + q) * x (p.n + p.m + q) = 0 := fun q hq => by rw [ha q hq, Int.mul_zero]
 show zw (fun j => at2 (zAO p).rows i j * x j) (p.n + p.m + p.a) + at2 (zAO p).rows i p.N * x p.N = _
 rw [zFH _ (p.n + p.m) p.a, zFH _ p.n p.m, zB3 e3, zp e1, zp e2, zBM, zCM (f := fun q => p.eps i * x (p.n + q)) hi, zIv p hi, Int.mul_add, Int.mul_add, Int.mul_assoc]
 omega
/-- the conditions, for the vector of a column -/
theorem prim (h : Inv p.m p.N (zCP k p.m p.N (zAO p).rows) s) (hd : Dry p.m p.N (p.n + p.m) s p.m) {c : Nat} (hc : c < p.n + p.m ∨ c = p.N) {i : Nat} (hi : i < p.m) :
 zw (fun j => (p.whole i).getD j 0 * zBU p.m s c j) p.n + zBU p.m s c (p.n + i) + (p.whole i).getD p.n 0 * zBU p.m s c p.N = 0 := by
 have hw := zFo p
 have hcN : c < p.N + 1 := by omega
 have h1 := h.vec hcN (i := i) (by omega)
 rw [if_neg (Nat.ne_of_lt hi), cost_row (zBF p) _ hi, zRm hi] at h1
 ·have h2 := zMZ p i
  generalize zw (fun j => (p.whole i).getD j 0 * zBU p.m s c j) p.n + zBU p.m s c (p.n + i) + (p.whole i).getD p.n 0 * zBU p.m s c p.N = z at *
  have h3 : p.eps i * (p.eps i * z) = 0 := by rw [h1, Int.mul_zero]
  rw [← Int.mul_assoc, h2, Int.one_mul] at h3
  exact h3
 ·intro q hq
  have hlt : p.n + p.m + q < p.N := Nat.add_lt_add_left hq _
  by_cases hb : zCa p.m s (p.n + p.m + q)
  ·obtain ⟨b, hbm, hbe⟩ := hb
   have h2 := h.vec_basic (c := c) hbm
   rw [hbe, if_neg (by omega)] at h2
   rw [h2]
   have : at2 s.rows b c = 0 := by
    rcases hc with hc | hc
    ·exact hd.r b hbm (by omega) c hc
    ·rw [hc]; exact hd.z b hbm (by omega)
   omega
  ·rw [zGd (fun b hb' e => hb ⟨b, hb', e⟩), if_neg (by omega)]
/-- the costs, told by the rows -/
theorem zOG (hk : ∀ i, i < p.m → k (p.n + i) = 0) : Slack p.m p.N p.n (zCP k p.m p.N (zAO p).rows) p.eps := by
 have hs := zOH p
 refine ⟨hs.lt, hs.sq, fun i q hi hq => ?_, fun q hq => ?_⟩
 ·rw [zGt (zBF p) hi]; exact hs.at' i q hi hq
 ·rw [zIS (zBF p) (by have := hs.lt; omega)]; exact hk q hq
theorem dual_x (h : Inv p.m p.N (zCP k p.m p.N (zAO p).rows) s) (hk : ∀ i, i < p.m → k (p.n + i) = 0) {j : Nat} (hj : j < p.n) :
 at2 s.rows p.m j = zw (fun q => at2 s.rows p.m (p.n + q) * (p.whole q).getD j 0) p.m + s.den * k j := by
 have hw := zFo p
 have hjN : j < p.N + 1 := by omega
 rw [h.combo (zOG hk) (Nat.lt_succ_self _) hjN, if_pos rfl, zIS (zBF p) hjN]
 congr 1
 refine zp (fun q hq => ?_)
 rw [zGt (zBF p) hq, zJ7 p hq hj, ← Int.mul_assoc (p.eps q), zMZ, Int.one_mul]
theorem dual_r (h : Inv p.m p.N (zCP k p.m p.N (zAO p).rows) s) (hk : ∀ i, i < p.m → k (p.n + i) = 0) :
 at2 s.rows p.m p.N = zw (fun q => at2 s.rows p.m (p.n + q) * (p.whole q).getD p.n 0) p.m + s.den * k p.N := by
 rw [h.combo (zOG hk) (Nat.lt_succ_self _) (Nat.lt_succ_self _), if_pos rfl, zIS (zBF p) (Nat.lt_succ_self _)]
 congr 1
 refine zp (fun q hq => ?_)
 rw [zGt (zBF p) hq, zIv p hq, ← Int.mul_assoc (p.eps q), zMZ, Int.one_mul]
theorem a_len (hp : p.Ok) {i : Nat} (hi : i < p.m) : (p.A.getD i []).length = p.n := hp.cols _ (zAD [] (by rw [hp.rows]; exact hi))
theorem zQX (hp : p.Ok) {i : Nat} (hi : i < p.m) {x : Nat → Int} {X : List Rat} {d : Rat} (hX : ∀ j, j < p.n → X.getD j 0 * d = ((x j : Int) : Rat)) :
 ((zw (fun j => (p.whole i).getD j 0 * x j) p.n : Int) : Rat) = ((p.fac i : Nat) : Rat) * zAM (p.A.getD i []) X * d := by
 rw [zGB, zBE (a_len hp hi), ← zDq, ← zC4]
 refine zAX (fun j hj => ?_)
 have hj' : j < p.n + 1 := by omega
 rw [Rat.intCast_mul, ← hX j hj, zHe p hp hi hj', full_x p hp hi hj]
 grind
theorem zLE {C : List Rat} {j : Nat} (hj : j < C.length) : (((zAk C).getD j 0 : Int) : Rat) = ((zCs 1 C : Nat) : Rat) * C.getD j 0 := by
 unfold zAk
 rw [zCK _ _ 0 _ _ hj]
 exact zMJ (zAD 0 hj)
theorem zPw {x : Nat → Int} {X : List Rat} {d : Rat} (hX : ∀ j, j < p.n → X.getD j 0 * d = ((x j : Int) : Rat)) :
 ((zw (fun j => (zAk p.C).getD j 0 * x j) p.n : Int) : Rat) = ((p.fc : Nat) : Rat) * zAM p.C X * d := by
 rw [zGB, zBE (a := p.C) (n := p.n) rfl, ← zDq, ← zC4]
 refine zAX (fun j hj => ?_)
 rw [Rat.intCast_mul, ← hX j hj, zLE hj]
 show ((p.fc : Nat) : Rat) * _ * _ = _
 grind
theorem zPu (hp : p.Ok) {j : Nat} (hj : j < p.n) {y : Nat → Int} {Y : List Rat} {d : Rat} (hY : ∀ q, q < p.m → Y.getD q 0 * d = ((y q : Int) : Rat) * ((p.fac q : Nat) : Rat)) :
 ((zw (fun q => y q * (p.whole q).getD j 0) p.m : Int) : Rat) = zAM (zBo p.A j) Y * d := by
 rw [zGB, zBE (n := p.m) (by rw [zCH]; exact hp.rows), ← zC4]
 refine zAX (fun q hq => ?_)
 have h1 := hY q hq
 have hj' : j < p.n + 1 := by omega
 rw [Rat.intCast_mul, zHe p hp hq hj', full_x p hp hq hj, zDg]
 grind
theorem zQV (hp : p.Ok) {y : Nat → Int} {Y : List Rat} {d : Rat} (hY : ∀ q, q < p.m → Y.getD q 0 * d = ((y q : Int) : Rat) * ((p.fac q : Nat) : Rat)) :
 ((zw (fun q => y q * (p.whole q).getD p.n 0) p.m : Int) : Rat) = zAM p.B Y * d := by
 rw [zGB, zBE (a := p.B) (n := p.m) rfl, ← zC4]
 refine zAX (fun q hq => ?_)
 have h1 := hY q hq
 rw [Rat.intCast_mul, zHe p hp hq (Nat.lt_succ_self _), zOy p hp hq]
 grind
theorem zLD (p : Prog) (s : St) : (zBk p s).length = p.n := by unfold zBk; rw [zDn, List.length_replicate]
theorem zG7 (n c : Nat) : (zFL n c).length = n := by
 unfold zFL
 split
 ·rw [List.length_set, List.length_replicate]
 ·rw [List.length_replicate]
theorem ray_len (p : Prog) (s : St) (c : Nat) : (zHg p s c).length = p.n := by unfold zHg; rw [zDn, zG7]
theorem y_len (p : Prog) (s : St) (d : Int) : (yL p s d).length = p.m := by simp [yL]
theorem zJ5 (n j : Nat) : (List.replicate n (0 : Rat)).getD j 0 = 0 := by
 simp only [List.getD, List.getElem?_replicate]
 split <;> rfl
theorem zIG {M : Tab} (h : Inv p.m p.N M s) {j : Nat} (hj : j < p.n) : (zBk p s).getD j 0 * (s.den : Rat) = ((-(zBU p.m s p.N j) : Int) : Rat) := by
 have hw := zFo p
 have hd : s.den ≠ 0 := by have := h.dp; omega
 unfold zBk
 by_cases hb : zCa p.m s j
 ·obtain ⟨b, hbm, rfl⟩ := hb
  rw [zH3 (by rw [List.length_replicate]) hj (fun i hi e => h.nodup hi hbm e) hbm, zE5 hd, h.vec_basic hbm, if_neg (by omega)]
  congr 1; omega
 ·rw [zKd (fun b hb' e => hb ⟨b, hb', e⟩), zJ5, Rat.zero_mul, zGd (fun b hb' e => hb ⟨b, hb', e⟩), if_neg (by omega)]
  rfl
theorem zMt {M : Tab} (h : Inv p.m p.N M s) {c : Nat} (hc : at2 s.rows p.m c < 0) {j : Nat} (hj : j < p.n) : (zHg p s c).getD j 0 * (s.den : Rat) = ((zBU p.m s c j : Int) : Rat) := by
 have hd : s.den ≠ 0 := by have := h.dp; omega
 have hnb : ¬ zCa p.m s c := fun hb => by have := h.cost_basic hb; omega
 unfold zHg
 by_cases hb : zCa p.m s j
 ·have hjc : j ≠ c := fun e => hnb (e ▸ hb)
  obtain ⟨b, hbm, rfl⟩ := hb
  rw [zH3 (zG7 _ _) hj (fun i hi e => h.nodup hi hbm e) hbm, zE5 hd, h.vec_basic hbm, if_neg hjc]
  congr 1; omega
 ·rw [zKd (fun b hb' e => hb ⟨b, hb', e⟩), zGd (fun b hb' e => hb ⟨b, hb', e⟩)]
  unfold zFL
  by_cases e : j = c
  ·subst e
   rw [if_pos hj, if_pos rfl, getD_set, if_pos ⟨rfl, by rw [List.length_replicate]; exact hj⟩, Rat.one_mul]
  ·rw [if_neg e]
   have : (if c < p.n then (List.replicate p.n (0 : Rat)).set c 1 else List.replicate p.n 0).getD j 0 = 0 := by
    split
    ·rw [getD_set, if_neg (fun q => e q.1), zJ5]
    ·exact zJ5 _ _
   rw [this, Rat.zero_mul]
   rfl
theorem y_get {d : Int} (hd : d ≠ 0) {i : Nat} (hi : i < p.m) : (yL p s d).getD i 0 * (d : Rat) = ((at2 s.rows p.m (p.n + i) : Int) : Rat) * ((p.fac i : Nat) : Rat) := by
 have : (yL p s d).getD i 0 = Rat.divInt (at2 s.rows p.m (p.n + i)) d * ((p.fac i : Nat) : Rat) := by
  have hi : i < p.B.length := hi
  simp [yL, List.getD, hi]
 rw [this, Rat.mul_assoc, Rat.mul_comm ((p.fac i : Nat) : Rat), ← Rat.mul_assoc, zE5 hd]
/-- the values satisfy the conditions -/
theorem zGC (hp : p.Ok) (h : Inv p.m p.N (zCP k p.m p.N (zAO p).rows) s) (hf : zDe p.m p.N s) (hd : Dry p.m p.N (p.n + p.m) s p.m) :
 (∀ j, j < p.n → 0 ≤ (zBk p s).getD j 0) ∧ ∀ i, i < p.m → zAM (p.A.getD i []) (zBk p s) ≤ p.B.getD i 0 := by
 have hw := zFo p
 have hdp := zEE h.dp
 refine ⟨fun j hj => ?_, fun i hi => ?_⟩
 ·have h1 := zIG h hj
  have h2 := h.vec_val hf (j := j) (by omega)
  refine zIh hdp ?_
  rw [Rat.mul_comm, h1]
  exact zHT (by omega)
 ·have h1 := prim h hd (c := p.N) (.inr rfl) hi
  rw [h.vec_end] at h1
  have h2 := zQX hp hi (x := fun j => -(zBU p.m s p.N j)) (X := zBk p s) (fun j hj => zIG h hj)
  have h3 : zw (fun j => (p.whole i).getD j 0 * -(zBU p.m s p.N j)) p.n = -(zw (fun j => (p.whole i).getD j 0 * zBU p.m s p.N j) p.n) := by
   have : zw (fun j => (p.whole i).getD j 0 * -(zBU p.m s p.N j)) p.n = zw (fun j => -1 * ((p.whole i).getD j 0 * zBU p.m s p.N j)) p.n := zp (fun j _ => by rw [Int.mul_neg]; omega)
   rw [this, zBM]; omega
  have h2 : ((zw (fun j => (p.whole i).getD j 0 * -(zBU p.m s p.N j)) p.n : Int) : Rat) = ((p.fac i : Nat) : Rat) * zAM (p.A.getD i []) (zBk p s) * (s.den : Rat) := h2
  rw [h3] at h2
  have h4 := h.vec_val hf (j := p.n + i) (by omega)
  have h5 : -(zw (fun j => (p.whole i).getD j 0 * zBU p.m s p.N j) p.n) = zBU p.m s p.N (p.n + i) + (p.whole i).getD p.n 0 * s.den := by omega
  rw [h5, Rat.intCast_add, Rat.intCast_mul, zHe p hp hi (Nat.lt_succ_self _), zOy p hp hi] at h2
  have h6 := zQD h4
  have hpos : (0 : Rat) < ((p.fac i : Nat) : Rat) * (s.den : Rat) := Rat.mul_pos (zF1 (zJy p i)) hdp
  refine Rat.le_of_mul_le_mul_right ?_ hpos
  grind
theorem zQp (hp : p.Ok) (h : Inv p.m p.N (M2 p) s) (hf : zDe p.m p.N s) (hd : Dry p.m p.N (p.n + p.m) s p.m) (hc : ∀ a, a < p.n + p.m → 0 ≤ at2 s.rows p.m a) :
 Good p ⟨0, zBk p s, yL p s (s.den * (p.fc : Nat)), [], Rat.divInt (at2 s.rows p.m p.N) (s.den * (p.fc : Nat))⟩ := by
 have hw := zFo p
 have hdp := zEE h.dp
 have hfp := zF1 (zHv p)
 have hD : s.den * (p.fc : Int) ≠ 0 := by
  have h1 := h.dp
  have h2 := zHv p
  have := Int.mul_pos h1 (show (0 : Int) < (p.fc : Int) by omega)
  omega
 have hDr : ((s.den * (p.fc : Nat) : Int) : Rat) = (s.den : Rat) * ((p.fc : Nat) : Rat) := by rw [Rat.intCast_mul]; rfl
 have hpos : (0 : Rat) < (s.den : Rat) * ((p.fc : Nat) : Rat) := Rat.mul_pos hdp hfp
 have hY := fun q (hq : q < p.m) => y_get (p := p) (s := s) hD hq
 have hk : ∀ i, i < p.m → zBV p (p.n + i) = 0 := fun i hi => by unfold zBV; rw [if_neg (by omega)]
 have hkN : zBV p p.N = 0 := by unfold zBV; rw [if_neg (by omega)]
 obtain ⟨v1, v2⟩ := zGC hp h hf hd
 refine .best (zLD p s) (y_len p s _) v1 (fun i hi => ?_) v2 (fun j hj => ?_) ?_ ?_
 ·have h1 := hY i hi
  rw [hDr] at h1
  refine zIh hpos ?_
  rw [Rat.mul_comm, h1]
  exact Rat.mul_nonneg (zHT (hc _ (by omega))) (Rat.le_of_lt (zF1 (zJy p i)))
 ·have h1 := zPu hp hj hY
  have h2 := dual_x h hk hj
  have hkj : zBV p j = -((zAk p.C).getD j 0) := by unfold zBV; rw [if_pos hj]
  rw [hkj] at h2
  have h3 := hc j (by omega)
  have h4 : zw (fun q => at2 s.rows p.m (p.n + q) * (p.whole q).getD j 0) p.m = at2 s.rows p.m j + s.den * (zAk p.C).getD j 0 := by
   rw [Int.mul_neg] at h2; omega
  rw [h4, hDr, Rat.intCast_add, Rat.intCast_mul, zLE hj] at h1
  have h5 := zHT h3
  refine Rat.le_of_mul_le_mul_right ?_ hpos
  have e : ((zCs 1 p.C : Nat) : Rat) = ((p.fc : Nat) : Rat) := rfl
  rw [e] at h1
  grind
 ·have h1 := zPw (p := p) (x := fun j => -(zBU p.m s p.N j)) (X := zBk p s) (fun j hj => zIG h hj)
  have h2 := h.vec (c := p.N) (i := p.m) (Nat.lt_succ_self _) (Nat.lt_succ_self _)
  rw [if_pos rfl] at h2
  have h3 : zBu (M2 p) p.N (zBU p.m s p.N) p.m = zw (fun j => zBV p j * zBU p.m s p.N j) (p.N + 1) := zIT (zBF p) _
  have h4 : zw (fun j => zBV p j * zBU p.m s p.N j) (p.N + 1) = zw (fun j => (zAk p.C).getD j 0 * -(zBU p.m s p.N j)) p.n := by
   rw [show p.N + 1 = p.n + (p.m + p.a + 1) by show p.n + p.m + p.a + 1 = _; omega, zFH, zB3 (f := fun q => zBV p (p.n + q) * zBU p.m s p.N (p.n + q)) (fun q _ => by
    show zBV p (p.n + q) * _ = 0
    unfold zBV
    rw [if_neg (by omega), Int.zero_mul]), Int.add_zero]
   exact zp (fun j hj => by
    show zBV p j * _ = _
    unfold zBV
    rw [if_pos hj, Int.neg_mul, Int.mul_neg])
  rw [h4] at h3
  have h1 : ((zw (fun j => (zAk p.C).getD j 0 * -(zBU p.m s p.N j)) p.n : Int) : Rat) = _ := h1
  rw [← h3, h2] at h1
  have h5 : Rat.divInt (at2 s.rows p.m p.N) (s.den * (p.fc : Nat)) * ((s.den : Rat) * ((p.fc : Nat) : Rat)) = ((at2 s.rows p.m p.N : Int) : Rat) := by rw [← hDr]; exact zE5 hD
  refine Rat.le_antisymm (Rat.le_of_mul_le_mul_right ?_ hpos) (Rat.le_of_mul_le_mul_right ?_ hpos) <;> grind
 ·have h1 := zQV hp hY
  have h2 := dual_r h hk
  rw [hkN, Int.mul_zero, Int.add_zero] at h2
  rw [← h2, hDr] at h1
  have h5 : Rat.divInt (at2 s.rows p.m p.N) (s.den * (p.fc : Nat)) * ((s.den : Rat) * ((p.fc : Nat) : Rat)) = ((at2 s.rows p.m p.N : Int) : Rat) := by rw [← hDr]; exact zE5 hD
  refine Rat.le_antisymm (Rat.le_of_mul_le_mul_right ?_ hpos) (Rat.le_of_mul_le_mul_right ?_ hpos) <;> grind
theorem zRK (hp : p.Ok) (h : Inv p.m p.N (M1 p) s) (hm : 0 < p.m) (hc : ∀ a, a < p.n + p.m → 0 ≤ at2 s.rows p.m a) (hv : at2 s.rows p.m p.N < 0) : Good p ⟨1, [], yL p s s.den, [], 0⟩ := by
 have hw := zFo p
 have hdp := zEE h.dp
 have hD : s.den ≠ 0 := by have := h.dp; omega
 have hY := fun q (hq : q < p.m) => y_get (p := p) (s := s) hD hq
 have hk : ∀ i, i < p.m → zCy p (p.n + i) = 0 := fun i hi => by unfold zCy; rw [if_neg (by omega)]
 have hkN : zCy p p.N = 0 := by unfold zCy; rw [if_neg (by omega)]
 refine .none hm (y_len p s _) (fun i hi => ?_) (fun j hj => ?_) ?_
 ·refine zIh hdp ?_
  rw [Rat.mul_comm, hY i hi]
  exact Rat.mul_nonneg (zHT (hc _ (by omega))) (Rat.le_of_lt (zF1 (zJy p i)))
 ·have h1 := zPu hp hj hY
  have h2 := dual_x h hk hj
  have hkj : zCy p j = 0 := by unfold zCy; rw [if_neg (by omega)]
  rw [hkj, Int.mul_zero, Int.add_zero] at h2
  rw [← h2] at h1
  refine zIh hdp ?_
  rw [Rat.mul_comm, ← h1]
  exact zHT (hc j (by omega))
 ·have h1 := zQV hp hY
  have h2 := dual_r h hk
  rw [hkN, Int.mul_zero, Int.add_zero] at h2
  rw [← h2] at h1
  have h3 := zMe hv
  refine Rat.not_le.1 (fun h4 => Rat.not_le.2 h3 ?_)
  rw [h1]
  exact Rat.mul_nonneg h4 (Rat.le_of_lt hdp)
theorem zQ5 (hp : p.Ok) (h : Inv p.m p.N (M2 p) s) (hf : zDe p.m p.N s) (hd : Dry p.m p.N (p.n + p.m) s p.m) {c : Nat} (hcw : c < p.n + p.m) (hneg : at2 s.rows p.m c < 0) (hle : ∀ i, i < p.m → at2 s.rows i c ≤ 0) :
 Good p ⟨2, zBk p s, [], zHg p s c, 0⟩ := by
 have hw := zFo p
 have hdp := zEE h.dp
 obtain ⟨v1, v2⟩ := zGC hp h hf hd
 have hN : zBU p.m s c p.N = 0 := by rw [zGd (fun b hb => by have := h.bc b hb; omega), if_neg (by omega)]
 have hcost : ((at2 s.rows p.m c : Int) : Rat) = -(((p.fc : Nat) : Rat) * zAM p.C (zHg p s c) * (s.den : Rat)) := by
  have h1 := zPw (p := p) (x := fun j => zBU p.m s c j) (X := zHg p s c) (fun j hj => zMt h hneg hj)
  have h2 := h.vec (c := c) (i := p.m) (by omega) (Nat.lt_succ_self _)
  rw [if_pos rfl] at h2
  have h3 : zBu (M2 p) p.N (zBU p.m s c) p.m = zw (fun j => zBV p j * zBU p.m s c j) (p.N + 1) := zIT (zBF p) _
  have h4 : zw (fun j => zBV p j * zBU p.m s c j) (p.N + 1) = -(zw (fun j => (zAk p.C).getD j 0 * zBU p.m s c j) p.n) := by
   rw [show p.N + 1 = p.n + (p.m + p.a + 1) by show p.n + p.m + p.a + 1 = _; omega, zFH, zB3 (f := fun q => zBV p (p.n + q) * zBU p.m s c (p.n + q)) (fun q _ => by
    show zBV p (p.n + q) * _ = 0
    unfold zBV
    rw [if_neg (by omega), Int.zero_mul]), Int.add_zero]
   have : zw (fun j => zBV p j * zBU p.m s c j) p.n = zw (fun j => -1 * ((zAk p.C).getD j 0 * zBU p.m s c j)) p.n := zp (fun j hj => by
    unfold zBV
    rw [if_pos hj, Int.neg_mul]; omega)
   rw [this, zBM]; omega
  rw [h4, h2] at h3
  have h1 : ((zw (fun j => (zAk p.C).getD j 0 * zBU p.m s c j) p.n : Int) : Rat) = _ := h1
  rw [← h1, h3, Rat.intCast_neg]
 have hn : 0 < p.n := by
  apply Classical.byContradiction
  intro h0
  have e : zAM p.C (zHg p s c) = 0 := by
   rw [zBE (a := p.C) (n := p.n) rfl, show p.n = 0 by omega]; rfl
  rw [e, Rat.mul_zero, Rat.zero_mul] at hcost
  have := zMe hneg
  rw [hcost] at this
  exact absurd this (by decide +kernel)
 refine .free hn (zLD p s) (ray_len p s c) v1 (fun j hj => ?_) v2 (fun i hi => ?_) ?_
 ·refine zIh hdp ?_
  rw [Rat.mul_comm, zMt h hneg hj]
  exact zHT (h.vec_ray hle j)
 ·have h1 := prim h hd (c := c) (.inl hcw) hi
  rw [hN, Int.mul_zero, Int.add_zero] at h1
  have h2 := zQX hp hi (x := fun j => zBU p.m s c j) (X := zHg p s c) (fun j hj => zMt h hneg hj)
  have h4 := h.vec_ray hle (p.n + i)
  have h5 : zw (fun j => (p.whole i).getD j 0 * zBU p.m s c j) p.n ≤ 0 := by omega
  have h2 : ((zw (fun j => (p.whole i).getD j 0 * zBU p.m s c j) p.n : Int) : Rat) = _ := h2
  have h6 := zQD h5
  rw [h2] at h6
  have hpos : (0 : Rat) < ((p.fac i : Nat) : Rat) * (s.den : Rat) := Rat.mul_pos (zF1 (zJy p i)) hdp
  refine mul_le0 hpos ?_
  grind
 ·have h1 := zMe hneg
  rw [hcost] at h1
  have hpos : (0 : Rat) < ((p.fc : Nat) : Rat) * (s.den : Rat) := Rat.mul_pos (zF1 (zHv p)) hdp
  refine Rat.not_le.1 (fun h4 => Rat.not_le.2 h1 ?_)
  have h5 := Rat.mul_nonneg (show (0 : Rat) ≤ -(zAM p.C (zHg p s c)) by grind) (Rat.le_of_lt hpos)
  grind
end
/-- Each result is proved. -/
theorem zN6 {p : Prog} (hp : p.Ok) {K L : Nat} (hs : Stops p K L) : Good p (zDc p K L) := by
 unfold zDc
 by_cases h0 : 0 < p.a ∧ at2 (zCD p K).rows p.m p.N < 0
 ·rw [if_pos h0]
  obtain ⟨h1, h2⟩ := zEv p hp K
  have hm : 0 < p.m := by
   have := zKD p.B p.B.length
   have h3 : 0 < zGg p.B := h0.1
   show 0 < p.B.length
   exact Nat.lt_of_lt_of_le h3 this
  rcases zL6 (hs.one h0.1) with ⟨_, h3⟩ | ⟨h3, h4, h5⟩
  ·exact zRK hp h1 hm h3 h0.2
  ·exact (zNo h1 (Nat.lt_of_lt_of_le h3 (zFo p)) h4 h5).elim
 ·rw [if_neg h0]
  obtain ⟨h1, h2, h3⟩ := zHc p hp K L (zG4 hp h0)
  rcases zL6 (hs.two h0) with ⟨g1, g2⟩ | ⟨g1, g2, g3⟩
  ·rw [if_neg (by omega)]
   exact zQp hp h1 h2 h3 g2
  ·rw [if_pos g1]
   exact zQ5 hp h1 h2 h3 g1 g2 g3
end Go.Ax.Sx
namespace Go.Ax.Sx
open Go.Ax.Dt Go.Ax.Rt Go.Ax.Bg
/-- numbers of at most k digits -/
structure Prog.Dig (p : Prog) (k : Nat) : Prop where
 a : ∀ r ∈ p.A, ∀ q ∈ r, D k q
 b : ∀ q ∈ p.B, D k q
 c : ∀ q ∈ p.C, D k q
def Prog.E (p : Prog) (k : Nat) : Nat := k + k * (p.n + 1)
def Prog.T (p : Prog) (k : Nat) : Nat := (p.E k + 2) * (p.m + 1)
def Prog.W (p : Prog) (k : Nat) : Nat := p.T k + 2 + 2 * (k * (p.n + 1))
section
variable {p : Prog} {k : Nat}
theorem zOx (hp : p.Ok) (hk : p.Dig k) {i : Nat} (hi : i < p.m) : ∀ q ∈ p.full i, D k q := by
 intro q hq
 rcases List.mem_append.1 hq with h | h
 ·exact hk.a _ (zAD [] (by rw [hp.rows]; exact hi)) q h
 ·rw [List.mem_singleton.1 h]; exact hk.b _ (zAD 0 hi)
theorem zOR (hp : p.Ok) (hk : p.Dig k) {i j : Nat} (hi : i < p.m) (hj : j < p.n + 1) : ((p.whole i).getD j 0).natAbs ≤ 10 ^ p.E k := by
 have h1 := zMI (zOx hp hk hi)
 rw [zD7 p hp hi] at h1
 exact h1 _ (zAD 0 (by rw [zGe, zD7 p hp hi]; exact hj))
theorem zJa (hk : p.Dig k) {j : Nat} (hj : j < p.n) : ((zAk p.C).getD j 0).natAbs ≤ 10 ^ p.E k := by
 refine Nat.le_trans (zMI hk.c _ (zAD 0 (by rw [zGe]; exact hj))) (Nat.pow_le_pow_right (by decide) ?_)
 exact Nat.add_le_add_left (Nat.mul_le_mul_left k (Nat.le_succ p.n)) k
theorem zHO (p : Prog) (i : Nat) : (p.eps i).natAbs = 1 := by unfold Prog.eps; split <;> rfl
theorem zBs (n : Nat) : 1 ≤ 10 ^ n := Nat.pow_pos (by decide)
theorem zL5 (hp : p.Ok) (hk : p.Dig k) {i j : Nat} (hi : i < p.m) (hj : j < p.N + 1) : (at2 (zAO p).rows i j).natAbs ≤ 10 ^ p.E k := by
 have h1 := zBs (p.E k)
 by_cases c1 : j < p.n
 ·rw [zJ7 p hi c1, Int.natAbs_mul, zHO, Nat.one_mul]
  exact zOR hp hk hi (by omega)
 ·by_cases c2 : j < p.n + p.m
  ·obtain ⟨q, rfl⟩ : ∃ q, j = p.n + q := ⟨j - p.n, by omega⟩
   rw [zIw p hi (by omega)]
   split
   ·rw [zHO]; exact h1
   ·exact Nat.zero_le _
  ·by_cases c3 : j < p.N
   ·obtain ⟨q, rfl⟩ : ∃ q, j = p.n + p.m + q := ⟨j - (p.n + p.m), by omega⟩
    rw [zMw p hi (Nat.lt_of_add_lt_add_left (show p.n + p.m + q < p.n + p.m + p.a from c3))]
    split
    ·exact h1
    ·exact Nat.zero_le _
   ·obtain rfl : j = p.N := by omega
    rw [zIv p hi, Int.natAbs_mul, zHO, Nat.one_mul]
    exact zOR hp hk hi (Nat.lt_succ_self _)
theorem M_abs (hp : p.Ok) (hk : p.Dig k) {f : Nat → Int} (hf : ∀ j, j < p.N + 1 → (f j).natAbs ≤ 10 ^ p.E k) : ∀ i j, i < p.m + 1 → j < p.N + 1 → (at2 (zCP f p.m p.N (zAO p).rows) i j).natAbs ≤ 10 ^ p.E k := by
 intro i j hi hj
 by_cases e : i = p.m
 ·rw [e, zIS (zBF p) hj]; exact hf j hj
 ·have hi' : i < p.m := Nat.lt_of_le_of_ne (Nat.le_of_lt_succ hi) e
  rw [zGt (zBF p) hi']; exact zL5 hp hk hi' hj
theorem zOV (hp : p.Ok) (hk : p.Dig k) : ∀ i j, i < p.m + 1 → j < p.N + 1 → (at2 (M1 p) i j).natAbs ≤ 10 ^ p.E k :=
 M_abs hp hk (fun j _ => by
  have h1 := zBs (p.E k)
  unfold zCy
  split
  ·exact h1
  ·exact Nat.zero_le _)
theorem zGk (hp : p.Ok) (hk : p.Dig k) : ∀ i j, i < p.m + 1 → j < p.N + 1 → (at2 (M2 p) i j).natAbs ≤ 10 ^ p.E k :=
 M_abs hp hk (fun j _ => by
  unfold zBV
  split
  ·rename_i h
   rw [Int.natAbs_neg]; exact zJa hk h
  ·exact Nat.zero_le _)
/-- the elements of each table -/
theorem zEq {M : Tab} {s : St} (h : Inv p.m p.N M s) (hm : p.m + 1 ≤ 40) (hM : ∀ i j, i < p.m + 1 → j < p.N + 1 → (at2 M i j).natAbs ≤ 10 ^ p.E k) :
 (∀ i j, i < p.m + 1 → j < p.N + 1 → (at2 s.rows i j).natAbs ≤ 10 ^ p.T k) ∧ s.den.natAbs ≤ 10 ^ p.T k := by
 obtain ⟨h1, h2⟩ := h.bound (zBs (p.E k)) hM
 have h3 := zP0 (k := p.E k) hm
 exact ⟨fun i j hi hj => Nat.le_trans (h1 i j hi hj) h3, Nat.le_trans h2 h3⟩
theorem zCw {x n : Nat} (h : x ≤ 10 ^ n) : x < 10 ^ (n + 1) := Nat.lt_of_le_of_lt h (Nat.pow_lt_pow_right (by decide) (Nat.lt_succ_self n))
theorem nat_D {x n : Nat} (h : x ≤ 10 ^ n) : D (n + 1) ((x : Nat) : Rat) := by
 refine ⟨?_, ?_⟩
 ·have : (((x : Nat) : Rat)).num = (x : Int) := rfl
  rw [this, Int.natAbs_natCast]; exact zCw h
 ·have : (((x : Nat) : Rat)).den = 1 := rfl
  rw [this]
  exact Nat.lt_of_lt_of_le (show 1 < 10 ^ 1 by decide) (Nat.pow_le_pow_right (by decide) (Nat.le_add_left 1 n))
theorem zOv (hp : p.Ok) (hk : p.Dig k) {i : Nat} (hi : i < p.m) : p.fac i ≤ 10 ^ (k * (p.n + 1)) := by
 have := zIZ (p.full i) 1 (fun q hq => (zOx hp hk hi q hq).2)
 rw [Nat.one_mul, zD7 p hp hi] at this
 exact this
theorem fc_le (hk : p.Dig k) : p.fc ≤ 10 ^ (k * p.n) := by
 have := zIZ p.C 1 (fun q hq => (hk.c q hq).2)
 rw [Nat.one_mul] at this
 exact this
theorem zIm {P : Rat → Prop} {n : Nat} {β : List Nat} {f : Nat → Rat} {l : List Rat} (hl : ∀ q ∈ l, P q) : ∀ {K : Nat}, (∀ i, i < K → P (f i)) → ∀ q ∈ zBx n β f l K, P q
 | 0, _, q, hq => hl q hq
 | K + 1, hf, q, hq => by
  have h1 := zIm (n := n) (β := β) hl (K := K) (fun i hi => hf i (by omega))
  rw [zBx] at hq
  split at hq
  ·rcases List.mem_or_eq_of_mem_set hq with h | h
   ·exact h1 q h
   ·rw [h]; exact hf K (Nat.lt_succ_self K)
  ·exact h1 q hq
theorem zMz (n : Nat) : D (n + 1) 0 := nat_D (x := 0) (Nat.zero_le _)
theorem zHk (n : Nat) : D (n + 1) 1 := nat_D (x := 1) (zBs n)
theorem zOQ {M : Tab} {s : St} (h : Inv p.m p.N M s) (hm : p.m + 1 ≤ 40) (hM : ∀ i j, i < p.m + 1 → j < p.N + 1 → (at2 M i j).natAbs ≤ 10 ^ p.E k) : ∀ q ∈ zBk p s, D (p.T k + 1) q := by
 obtain ⟨h1, h2⟩ := zEq h hm hM
 have hd := h.dp
 refine zIm (fun q hq => ?_) (fun i hi => zET (by omega) (zCw (h1 i p.N (by omega) (Nat.lt_succ_self _))) (zCw h2))
 rw [List.eq_of_mem_replicate hq]; exact zMz _
theorem ray_D {M : Tab} {s : St} (h : Inv p.m p.N M s) (hm : p.m + 1 ≤ 40) (hM : ∀ i j, i < p.m + 1 → j < p.N + 1 → (at2 M i j).natAbs ≤ 10 ^ p.E k) {c : Nat} (hc : c < p.N) : ∀ q ∈ zHg p s c, D (p.T k + 1) q := by
 obtain ⟨h1, h2⟩ := zEq h hm hM
 have hd := h.dp
 have h0 : ∀ q ∈ List.replicate p.n (0 : Rat), D (p.T k + 1) q := fun q hq => by rw [List.eq_of_mem_replicate hq]; exact zMz _
 refine zIm (fun q hq => ?_) (fun i hi => zET (by omega) (by rw [Int.natAbs_neg]; exact zCw (h1 i c (by omega) (by omega))) (zCw h2))
 unfold zFL at hq
 split at hq
 ·rcases List.mem_or_eq_of_mem_set hq with h' | h'
  ·exact h0 q h'
  ·rw [h']; exact zHk _
 ·exact h0 q hq
theorem y_D {M : Tab} {s : St} (hp : p.Ok) (hk : p.Dig k) (h : Inv p.m p.N M s) (hm : p.m + 1 ≤ 40) (hM : ∀ i j, i < p.m + 1 → j < p.N + 1 → (at2 M i j).natAbs ≤ 10 ^ p.E k) {f : Nat} (hf0 : 0 < f) (hf : f ≤ 10 ^ (k * p.n)) : ∀ q ∈ yL p s (s.den * (f : Nat)), D (p.W k) q := by
 obtain ⟨h1, h2⟩ := zEq h hm hM
 have hd := h.dp
 intro q hq
 obtain ⟨i, hi, rfl⟩ := List.mem_map.1 hq
 have hi : i < p.m := by simpa using hi
 have hD : s.den * (f : Nat) ≠ 0 := by
  have := Int.mul_pos hd (show (0 : Int) < ((f : Nat) : Int) by omega)
  omega
 have hw := zFo p
 have hden : (s.den * (f : Nat)).natAbs ≤ 10 ^ (p.T k + k * p.n) := by
  rw [Int.natAbs_mul, Int.natAbs_natCast, Nat.pow_add]
  exact Nat.mul_le_mul h2 hf
 have a1 : D (p.T k + k * p.n + 1) (Rat.divInt (at2 s.rows p.m (p.n + i)) (s.den * (f : Nat))) :=
  zET hD (zCw (Nat.le_trans (h1 p.m (p.n + i) (Nat.lt_succ_self _) (by omega)) (Nat.pow_le_pow_right (by decide) (Nat.le_add_right _ _)))) (zCw hden)
 refine (a1.mul (nat_D (zOv hp hk hi))).mono ?_
 unfold Prog.W
 have : k * p.n ≤ k * (p.n + 1) := Nat.mul_le_mul_left k (Nat.le_succ p.n)
 omega
theorem v_D {M : Tab} {s : St} (h : Inv p.m p.N M s) (hm : p.m + 1 ≤ 40) (hM : ∀ i j, i < p.m + 1 → j < p.N + 1 → (at2 M i j).natAbs ≤ 10 ^ p.E k) {f : Nat} (hf0 : 0 < f) (hf : f ≤ 10 ^ (k * p.n)) : D (p.W k) (Rat.divInt (at2 s.rows p.m p.N) (s.den * (f : Nat))) := by
 obtain ⟨h1, h2⟩ := zEq h hm hM
 have hd := h.dp
 have hD : s.den * (f : Nat) ≠ 0 := by
  have := Int.mul_pos hd (show (0 : Int) < ((f : Nat) : Int) by omega)
  omega
 have hden : (s.den * (f : Nat)).natAbs ≤ 10 ^ (p.T k + k * p.n) := by
  rw [Int.natAbs_mul, Int.natAbs_natCast, Nat.pow_add]
  exact Nat.mul_le_mul h2 hf
 have a1 : D (p.T k + k * p.n + 1) (Rat.divInt (at2 s.rows p.m p.N) (s.den * (f : Nat))) :=
  zET hD (zCw (Nat.le_trans (h1 p.m p.N (Nat.lt_succ_self _) (Nat.lt_succ_self _)) (Nat.pow_le_pow_right (by decide) (Nat.le_add_right _ _)))) (zCw hden)
 refine a1.mono ?_
 unfold Prog.W
 have : k * p.n ≤ k * (p.n + 1) := Nat.mul_le_mul_left k (Nat.le_succ p.n)
 omega
/-- All numbers of a result are short. -/
theorem run_D (hp : p.Ok) (hk : p.Dig k) (hm : p.m + 1 ≤ 40) {K L : Nat} (hs : Stops p K L) :
 (∀ q ∈ (zDc p K L).X, D (p.W k) q) ∧ (∀ q ∈ (zDc p K L).Y, D (p.W k) q) ∧ (∀ q ∈ (zDc p K L).R, D (p.W k) q) ∧ D (p.W k) (zDc p K L).V := by
 have hTW : p.T k + 1 ≤ p.W k := by unfold Prog.W; omega
 have h0 : D (p.W k) 0 := (zMz (p.T k)).mono hTW
 have hnil : ∀ q ∈ ([] : List Rat), D (p.W k) q := fun q hq => by simp at hq
 unfold zDc
 by_cases h : 0 < p.a ∧ at2 (zCD p K).rows p.m p.N < 0
 ·rw [if_pos h]
  obtain ⟨h1, h2⟩ := zEv p hp K
  have h3 := y_D hp hk h1 hm (zOV hp hk) (f := 1) (by decide) (zBs _)
  have e : (zCD p K).den * ((1 : Nat) : Int) = (zCD p K).den := by omega
  rw [e] at h3
  exact ⟨hnil, h3, hnil, h0⟩
 ·rw [if_neg h]
  obtain ⟨h1, h2, h3⟩ := zHc p hp K L (zG4 hp h)
  by_cases h4 : zCG p.m (p.n + p.m) (zDd p K L) < p.n + p.m
  ·rw [if_pos h4]
   exact ⟨fun q hq => (zOQ h1 hm (zGk hp hk) q hq).mono hTW, hnil, fun q hq => (ray_D h1 hm (zGk hp hk) (Nat.lt_of_lt_of_le h4 (zFo p)) q hq).mono hTW, h0⟩
  ·rw [if_neg h4]
   exact ⟨fun q hq => (zOQ h1 hm (zGk hp hk) q hq).mono hTW, y_D hp hk h1 hm (zGk hp hk) (zHv p) (fc_le hk), hnil, v_D h1 hm (zGk hp hk) (zHv p) (fc_le hk)⟩
end
end Go.Ax.Sx
namespace Go.Ax.Sx
open Go.Ax.Dt Go.Ax.Rt Go.Ax.Bg
theorem zFY {f g : Nat → Rat} : ∀ {n : Nat}, (∀ i, i < n → f i ≤ g i) → zAU f n ≤ zAU g n
 | 0, _ => Rat.le_refl
 | n + 1, h => by
  have h1 := zFY (n := n) (fun i hi => h i (by omega))
  have h2 := h n (Nat.lt_succ_self n)
  show zAU f n + f n ≤ zAU g n + g n
  grind
theorem zOL (f : Nat → Rat) (n : Nat) : zAU (fun i => -(f i)) n = -(zAU f n) := by
 have h := zDq (-1) f n
 have e : zAU (fun i => -(f i)) n = zAU (fun i => -1 * f i) n := zAX (fun i _ => by grind)
 rw [e, h]; grind
section
variable {p : Prog}
/-- the columns times the rows -/
theorem zIz (hp : p.Ok) (x y : List Rat) : zAU (fun j => zAM (zBo p.A j) y * x.getD j 0) p.n = zAU (fun i => y.getD i 0 * zAM (p.A.getD i []) x) p.m := by
 have e1 : ∀ j, j < p.n → zAM (zBo p.A j) y * x.getD j 0 = zAU (fun i => (p.A.getD i []).getD j 0 * y.getD i 0 * x.getD j 0) p.m := fun j hj => by
  rw [zBE (n := p.m) (by rw [zCH]; exact hp.rows), ← zC4]
  exact zAX (fun i hi => by rw [zDg])
 have e2 : ∀ i, i < p.m → y.getD i 0 * zAM (p.A.getD i []) x = zAU (fun j => (p.A.getD i []).getD j 0 * y.getD i 0 * x.getD j 0) p.n := fun i hi => by
  rw [zBE (a_len hp hi), ← zDq]
  exact zAX (fun j hj => by grind)
 rw [zAX e1, zAX e2]
 exact zMA _ _ _
def Prim (p : Prog) (x : List Rat) : Prop := (∀ j, j < p.n → 0 ≤ x.getD j 0) ∧ ∀ i, i < p.m → zAM (p.A.getD i []) x ≤ p.B.getD i 0
def Dual (p : Prog) (y : List Rat) : Prop := (∀ i, i < p.m → 0 ≤ y.getD i 0) ∧ ∀ j, j < p.n → p.C.getD j 0 ≤ zAM (zBo p.A j) y
def RayP (p : Prog) (x : List Rat) : Prop := (∀ j, j < p.n → 0 ≤ x.getD j 0) ∧ (∀ i, i < p.m → zAM (p.A.getD i []) x ≤ 0) ∧ 0 < zAM p.C x
def RayD (p : Prog) (y : List Rat) : Prop := (∀ i, i < p.m → 0 ≤ y.getD i 0) ∧ (∀ j, j < p.n → 0 ≤ zAM (zBo p.A j) y) ∧ zAM p.B y < 0
theorem zDm {a b c : Rat} (hc : 0 ≤ c) (h : a ≤ b) : a * c ≤ b * c := Rat.mul_le_mul_of_nonneg_right h hc
theorem c_dot (p : Prog) (x : List Rat) : zAM p.C x = zAU (fun j => p.C.getD j 0 * x.getD j 0) p.n := zBE rfl
theorem b_dot (p : Prog) (y : List Rat) : zAM p.B y = zAU (fun i => p.B.getD i 0 * y.getD i 0) p.m := zBE rfl
/-- Weak duality. -/
theorem weak (hp : p.Ok) {x y : List Rat} (hx : Prim p x) (hy : Dual p y) : zAM p.C x ≤ zAM p.B y := by
 have h1 : zAM p.C x ≤ zAU (fun j => zAM (zBo p.A j) y * x.getD j 0) p.n := by
  rw [c_dot]
  exact zFY (fun j hj => zDm (hx.1 j hj) (hy.2 j hj))
 rw [zIz hp] at h1
 refine Rat.le_trans h1 ?_
 rw [b_dot]
 exact zFY (fun i hi => by rw [Rat.mul_comm]; exact zDm (hy.1 i hi) (hx.2 i hi))
theorem weak_ray (hp : p.Ok) {x y : List Rat} (hx : RayP p x) (hy : Dual p y) : False := by
 have h1 : zAM p.C x ≤ zAU (fun j => zAM (zBo p.A j) y * x.getD j 0) p.n := by
  rw [c_dot]
  exact zFY (fun j hj => zDm (hx.1 j hj) (hy.2 j hj))
 rw [zIz hp] at h1
 have h2 : zAU (fun i => y.getD i 0 * zAM (p.A.getD i []) x) p.m ≤ zAU (fun _ => 0) p.m :=
  zFY (fun i hi => by
   have := zDm (hy.1 i hi) (hx.2.1 i hi)
   rw [Rat.mul_comm]; rwa [Rat.zero_mul] at this)
 rw [zGA] at h2
 exact Rat.not_le.2 hx.2.2 (Rat.le_trans h1 h2)
theorem zRz (hp : p.Ok) {x y : List Rat} (hx : Prim p x) (hy : RayD p y) : False := by
 have h1 : 0 ≤ zAU (fun j => zAM (zBo p.A j) y * x.getD j 0) p.n := zFZ (fun j hj => Rat.mul_nonneg (hy.2.1 j hj) (hx.1 j hj))
 rw [zIz hp] at h1
 have h2 : zAU (fun i => y.getD i 0 * zAM (p.A.getD i []) x) p.m ≤ zAM p.B y := by
  rw [b_dot]
  exact zFY (fun i hi => by rw [Rat.mul_comm]; exact zDm (hy.1 i hi) (hx.2 i hi))
 exact Rat.not_le.2 hy.2.2 (Rat.le_trans h1 h2)
end
section
variable {p : Prog}
/-- No vector that satisfies the conditions has a greater value. -/
theorem bounds (hp : p.Ok) {r : Res} (hr : Good p r) {x : List Rat} (hx : Prim p x) : (r.kind = 0 → zAM p.C x ≤ r.V) ∧ (r.kind = 0 ∨ r.kind = 2) := by
 cases hr with
 | best hx' hy x0 y0 ax ya cx yb =>
  refine ⟨fun _ => ?_, .inl Z⟩
  have := weak hp hx ⟨y0, ya⟩
  rw [yb] at this
  exact this
 | none hm hy y0 ya yb => exact (zRz hp hx ⟨y0, ya, yb⟩).elim
 | free hn hx' hr x0 r0 ax ar cr => exact ⟨fun h => absurd h (by show ¬ (2 : Nat) = 0; omega), .inr rfl⟩
end
end Go.Ax.Sx
namespace Go.Ax.Rt
open Go.Ax.Bg Go.Ax.Dt
theorem dig_D {k : Nat} {q : Rat} (h1 : (Lib.decDigits q.num.natAbs).length ≤ k) (h2 : (Lib.decDigits q.den).length ≤ k) : D k q :=
 ⟨Nat.lt_of_lt_of_le (zEr _) (Nat.pow_le_pow_right (by decide) h1), Nat.lt_of_lt_of_le (zEr _) (Nat.pow_le_pow_right (by decide) h2)⟩
theorem zI3 {m : List (List zn)} (h : zGi m = 0) : ∀ r ∈ inM m, r.length = zAJ m ∧ ∀ q ∈ r, D 2000 q := by
 have hM := zEu h
 intro r hr
 refine ⟨zKR hM r hr, ?_⟩
 obtain ⟨x, hx, rfl⟩ := List.mem_map.1 hr
 intro q hq
 obtain ⟨s, hs, rfl⟩ := List.mem_map.1 hq
 have hf := (IsQ.self (hM.ok x hx s hs)).fit
 unfold zBp at hf
 rw [Bool.and_eq_true, decide_eq_true_eq, decide_eq_true_eq] at hf
 exact dig_D hf.1 hf.2
end Go.Ax.Rt
namespace Go.Ax.Sx
open Go.Ax.Dt Go.Ax.Rt Go.Ax.Bg
structure Prob where
 A : List (List zn)
 B : List zn
 C : List zn
def Prob.prog (P : Prob) : Prog := ⟨inM P.A, P.B.map zv, P.C.map zv⟩
/-- the form of a result -/
def lensP (P : Prob) (k x y r : Nat) : Prop := x = (if k = 1 then 0 else P.C.length) ∧ y = (if k = 2 then 0 else P.B.length) ∧ r = (if k = 2 then P.C.length else 0)
instance (P : Prob) (k x y r : Nat) : Decidable (lensP P k x y r) := inferInstanceAs (Decidable (_ ∧ _))
def zQI (l : List Rat) : Bool := l.all (fun q => decide (0 ≤ q))
theorem zJM {l : List Rat} {n : Nat} (hl : l.length = n) (h : ∀ j, j < n → 0 ≤ l.getD j 0) : zQI l = true := by
 unfold zQI
 rw [List.all_eq_true]
 intro q hq
 obtain ⟨i, hi, rfl⟩ := List.getElem_of_mem hq
 have := h i (by omega)
 rw [zDz 0 hi] at this
 exact decide_eq_true this
section
variable {P : Prob}
theorem zQH : IsQ [45, 49] (-1) := by decide +kernel
end
end Go.Ax.Sx
namespace Go.Ax.Sx
open Go.Ax.Dt Go.Ax.Rt Go.Ax.Bg
section
variable {P : Prob}
end
/-- the opposite number -/
def negT (s : zn) : zn := zt (-(zv s))
theorem fit_neg {q : Rat} (h : zBp q = true) : zBp (-q) = true := by
 unfold zBp at h ⊢
 have e1 : (-q).num.natAbs = q.num.natAbs := by
  show (-q.num).natAbs = _
  rw [Int.natAbs_neg]
 have e2 : (-q).den = q.den := rfl
 rw [e1, e2]; exact h
theorem negT_is {s : zn} (h : zCf s = 0) : IsQ (negT s) (-(zv s)) := zGM (fit_neg (IsQ.self h).fit)
theorem negT_one {s : zn} (h : zCf s = 0) : oneR (fun x => -x) s = (negT s, 0) := by
 rw [IsQ.one _ (IsQ.self h)]
 exact (negT_is h).out
end Go.Ax.Sx
namespace Go.Ax.Mg
open Go.Ax.Dt Go.Ax.Rt Go.Ax.Bg Go.Ax.Sx
/-- Mixed strategies x of the rows and y of the columns with the value v. -/
structure Sad (M : List (List Rat)) (w : Nat) (v : Rat) (x y : List Rat) : Prop where
 xl : x.length = M.length
 yl : y.length = w
 x0 : ∀ i, i < M.length → 0 ≤ x.getD i 0
 y0 : ∀ j, j < w → 0 ≤ y.getD j 0
 xs : zAU (fun i => x.getD i 0) M.length = 1
 ys : zAU (fun j => y.getD j 0) w = 1
 up : ∀ i, i < M.length → zAM (M.getD i []) y ≤ v
 lo : ∀ j, j < w → v ≤ zAM (zBo M j) x
theorem zCg {n i : Nat} {c : Rat} (h : i < n) : (List.replicate n c).getD i 0 = c := by simp [List.getD, h]
def oneP (M : List (List Rat)) (w : Nat) : Prog := ⟨M, List.replicate M.length 1, List.replicate w 1⟩
theorem oneP_n (M : List (List Rat)) (w : Nat) : (oneP M w).n = w := List.length_replicate ..
theorem oneP_m (M : List (List Rat)) (w : Nat) : (oneP M w).m = M.length := List.length_replicate ..
theorem oneP_Ok {M : List (List Rat)} {w : Nat} (hM : ∀ r ∈ M, r.length = w) : (oneP M w).Ok :=
 ⟨(List.length_replicate ..).symm, fun r hr => by rw [hM r hr]; exact (List.length_replicate ..).symm⟩
/-- what the rows receive -/
def payN (M : List (List Rat)) (x y : List Rat) : Rat := zAU (fun i => x.getD i 0 * zAM (M.getD i []) y) M.length
section
variable {M : List (List Rat)} {w : Nat} {v v' : Rat} {x y x' y' : List Rat}
theorem pay_cols (hM : ∀ r ∈ M, r.length = w) (x y : List Rat) : zAU (fun j => zAM (zBo M j) x * y.getD j 0) w = payN M x y := by
 have h := zIz (oneP_Ok hM) y x
 rw [oneP_n, oneP_m] at h
 exact h
theorem Sad.low (h : Sad M w v x y) (hM : ∀ r ∈ M, r.length = w) {z : List Rat} (z0 : ∀ j, j < w → 0 ≤ z.getD j 0) (zs : zAU (fun j => z.getD j 0) w = 1) : v ≤ payN M x z := by
 rw [← pay_cols hM]
 have h1 : zAU (fun j => v * z.getD j 0) w ≤ zAU (fun j => zAM (zBo M j) x * z.getD j 0) w := zFY (fun j hj => zDm (z0 j hj) (h.lo j hj))
 rw [zDq, zs, Rat.mul_one] at h1
 exact h1
theorem Sad.high (h : Sad M w v x y) {z : List Rat} (z0 : ∀ i, i < M.length → 0 ≤ z.getD i 0) (zs : zAU (fun i => z.getD i 0) M.length = 1) : payN M z y ≤ v := by
 have h1 : payN M z y ≤ zAU (fun i => v * z.getD i 0) M.length := zFY (fun i hi => by
  rw [Rat.mul_comm]; exact zDm (z0 i hi) (h.up i hi))
 rw [zDq, zs, Rat.mul_one] at h1
 exact h1
/-- the value is unique -/
theorem Sad.uniq (h : Sad M w v x y) (h' : Sad M w v' x' y') (hM : ∀ r ∈ M, r.length = w) : v = v' :=
 Rat.le_antisymm (Rat.le_trans (h.low hM h'.y0 h'.ys) (h'.high h.x0 h.xs)) (Rat.le_trans (h'.low hM h.y0 h.ys) (h.high h'.x0 h'.xs))
end
def zAu (a : Rat) (l : List Rat) : Rat := l.foldl (fun a q => if zC7 q a < 0 then q else a) a
def zGN (M : List (List Rat)) : Rat := M.foldl zAu ((M.getD 0 []).getD 0 0)
theorem zPr {a b : Rat} : zC7 a b < 0 ↔ a < b := by
 unfold zC7
 split
 ·rename_i h; exact ⟨fun _ => h, fun _ => by omega⟩
 ·rename_i h
  split
  ·exact ⟨fun h2 => absurd h2 (by omega), fun h2 => absurd h2 h⟩
  ·exact ⟨fun h2 => absurd h2 (by omega), fun h2 => absurd h2 h⟩
theorem zLo : ∀ (l : List Rat) (a : Rat), zAu a l ≤ a ∧ ∀ q ∈ l, zAu a l ≤ q
 | [], a => ⟨Rat.le_refl, fun q hq => absurd hq (List.not_mem_nil)⟩
 | b :: l, a => by
  obtain ⟨h1, h2⟩ := zLo l (if zC7 b a < 0 then b else a)
  have e : zAu a (b :: l) = zAu (if zC7 b a < 0 then b else a) l := rfl
  rw [e]
  by_cases hc : zC7 b a < 0
  ·rw [if_pos hc] at h1 h2 ⊢
   have hba := Rat.le_of_lt (zPr.1 hc)
   refine ⟨Rat.le_trans h1 hba, fun q hq => ?_⟩
   rcases List.mem_cons.1 hq with rfl | hq
   ·exact h1
   ·exact h2 q hq
  ·rw [if_neg hc] at h1 h2 ⊢
   have hab : a ≤ b := Rat.not_lt.1 (fun q => hc (zPr.2 q))
   refine ⟨h1, fun q hq => ?_⟩
   rcases List.mem_cons.1 hq with rfl | hq
   ·exact Rat.le_trans h1 hab
   ·exact h2 q hq
theorem zLn : ∀ (M : List (List Rat)) (a : Rat), M.foldl zAu a ≤ a ∧ ∀ r ∈ M, ∀ q ∈ r, M.foldl zAu a ≤ q
 | [], a => ⟨Rat.le_refl, fun q hq => absurd hq (List.not_mem_nil)⟩
 | r :: M, a => by
  obtain ⟨h1, h2⟩ := zLn M (zAu a r)
  obtain ⟨h3, h4⟩ := zLo r a
  refine ⟨Rat.le_trans h1 h3, fun s hs q hq => ?_⟩
  rcases List.mem_cons.1 hs with rfl | hs
  ·exact Rat.le_trans h1 (h4 q hq)
  ·exact h2 s hs q hq
theorem least_le (M : List (List Rat)) : ∀ r ∈ M, ∀ q ∈ r, zGN M ≤ q := (zLn M _).2
theorem zJK {P : Rat → Prop} : ∀ (l : List Rat) (a : Rat), P a → (∀ q ∈ l, P q) → P (zAu a l)
 | [], a, ha, _ => ha
 | b :: l, a, ha, h => by
  have e : zAu a (b :: l) = zAu (if zC7 b a < 0 then b else a) l := rfl
  rw [e]
  refine zJK l _ ?_ (fun q hq => h q (List.mem_cons_of_mem _ hq))
  split
  ·exact h b (List.mem_cons_self ..)
  ·exact ha
theorem zHU {P : Rat → Prop} : ∀ (M : List (List Rat)) (a : Rat), P a → (∀ r ∈ M, ∀ q ∈ r, P q) → P (M.foldl zAu a)
 | [], a, ha, _ => ha
 | r :: M, a, ha, h => zHU M _ (zJK r a ha (h r (List.mem_cons_self ..))) (fun s hs => h s (List.mem_cons_of_mem _ hs))
def zDr (M : List (List Rat)) : Rat := 1 - zGN M
/-- the linear program of a game -/
def zAV (M : List (List Rat)) (w : Nat) : Prog := ⟨M.map (fun r => r.map (fun q => q + zDr M)), List.replicate M.length 1, List.replicate w 1⟩
/-- value, rows, columns -/
def zAl (M : List (List Rat)) (w K L : Nat) : Rat × List Rat × List Rat :=
 let r := zDc (zAV M w) K L
 (1 / r.V - zDr M, r.Y.map (fun q => q / r.V), r.X.map (fun q => q / r.V))
section
variable {M : List (List Rat)} {w : Nat}
theorem zId (M : List (List Rat)) (w : Nat) : (zAV M w).n = w := List.length_replicate ..
theorem zIc (M : List (List Rat)) (w : Nat) : (zAV M w).m = M.length := List.length_replicate ..
theorem zFz (hM : ∀ r ∈ M, r.length = w) : (zAV M w).Ok := by
 refine ⟨?_, fun r hr => ?_⟩
 ·show (M.map _).length = (List.replicate _ _).length
  rw [List.length_map, List.length_replicate]
 ·obtain ⟨s, hs, rfl⟩ := List.mem_map.1 hr
  show (s.map _).length = (List.replicate _ _).length
  rw [List.length_map, List.length_replicate, hM s hs]
theorem zJI {i : Nat} (hi : i < M.length) : (zAV M w).A.getD i [] = (M.getD i []).map (fun q => q + zDr M) := zCK _ M [] [] i hi
theorem zKO (hM : ∀ r ∈ M, r.length = w) {i j : Nat} (hi : i < M.length) (hj : j < w) : ((zAV M w).A.getD i []).getD j 0 = (M.getD i []).getD j 0 + zDr M := by
 rw [zJI hi]
 exact zCK _ _ 0 0 j (by rw [hM _ (zAD [] hi)]; exact hj)
theorem zNT (hM : ∀ r ∈ M, r.length = w) {i j : Nat} (hi : i < M.length) (hj : j < w) : 1 ≤ ((zAV M w).A.getD i []).getD j 0 := by
 rw [zKO hM hi hj]
 have hr := zAD (l := M) [] hi
 have h := least_le M _ hr ((M.getD i []).getD j 0) (zAD 0 (by rw [hM _ hr]; exact hj))
 unfold zDr
 grind
theorem zQ7 (hM : ∀ r ∈ M, r.length = w) {i : Nat} (hi : i < M.length) (x : List Rat) :
 zAM ((zAV M w).A.getD i []) x = zAM (M.getD i []) x + zDr M * zAU (fun j => x.getD j 0) w := by
 have hl : (M.getD i []).length = w := hM _ (zAD [] hi)
 have hl' : ((zAV M w).A.getD i []).length = w := by rw [zJI hi, List.length_map, hl]
 rw [zBE hl', zBE hl, ← zDq, ← zIx]
 exact zAX (fun j hj => by rw [zKO hM hi hj]; grind)
theorem zQ6 (hM : ∀ r ∈ M, r.length = w) {j : Nat} (hj : j < w) (y : List Rat) :
 zAM (zBo (zAV M w).A j) y = zAM (zBo M j) y + zDr M * zAU (fun i => y.getD i 0) M.length := by
 have hl : (zBo M j).length = M.length := zCH M j
 have hl' : (zBo (zAV M w).A j).length = M.length := by
  rw [zCH]; exact List.length_map ..
 rw [zBE hl', zBE hl, ← zDq, ← zIx]
 exact zAX (fun i hi => by rw [zDg, zDg, zKO hM hi hj]; grind)
theorem zKz : ∀ {n : Nat} {f : Nat → Rat}, (∀ i, i < n → 0 ≤ f i) → zAU f n ≤ 0 → ∀ i, i < n → f i = 0
 | 0, f, _, _, i, hi => absurd hi (Nat.not_lt_zero i)
 | n + 1, f, h, hs, i, hi => by
  have h1 : 0 ≤ zAU f n := zFZ (fun i hi => h i (by omega))
  have h2 := h n (Nat.lt_succ_self n)
  have h3 : zAU f n + f n ≤ 0 := hs
  by_cases e : i = n
  ·subst e; grind
  ·exact zKz (n := n) (fun i hi => h i (by omega)) (by grind) i (by omega)
theorem sum_ge : ∀ {n : Nat} {f : Nat → Rat}, (∀ i, i < n → 0 ≤ f i) → ∀ i, i < n → f i ≤ zAU f n
 | 0, f, _, i, hi => absurd hi (Nat.not_lt_zero i)
 | n + 1, f, h, i, hi => by
  have h1 : 0 ≤ zAU f n := zFZ (fun i hi => h i (by omega))
  have h2 := h n (Nat.lt_succ_self n)
  show f i ≤ zAU f n + f n
  by_cases e : i = n
  ·subst e; grind
  ·have := sum_ge (n := n) (fun i hi => h i (by omega)) i (by omega)
   grind
theorem zNl (n : Nat) (x : List Rat) : zAM (List.replicate n 1) x = zAU (fun j => x.getD j 0) n := by
 rw [zBE List.length_replicate]
 exact zAX (fun j hj => by rw [zCg hj, Rat.one_mul])
theorem zIV (l : List Rat) (V : Rat) (i : Nat) : (l.map (fun q => q / V)).getD i 0 = l.getD i 0 * V⁻¹ := by
 by_cases h : i < l.length
 ·rw [zCK (fun q => q / V) l 0 0 i h, Rat.div_def]
 ·have e1 : (l.map (fun q => q / V)).getD i 0 = 0 := by simp [List.getD, h]
  have e2 : l.getD i 0 = 0 := by simp [List.getD, h]
  rw [e1, e2, Rat.zero_mul]
theorem zP3 (a l : List Rat) (V : Rat) : zAM a (l.map (fun q => q / V)) = zAM a l * V⁻¹ := by
 unfold zAM
 rw [← zC4]
 exact zAX (fun i _ => by rw [zIV]; grind)
/-- The linear program of a game has a best solution; it gives strategies with the value. -/
theorem zLf (hM : ∀ r ∈ M, r.length = w) (hw : 0 < w) (hm : 0 < M.length) {r : Res} (g : Sx.Good (zAV M w) r) :
 r.kind = 0 ∧ 0 < r.V ∧ r.X.length = w ∧ r.Y.length = M.length ∧ Sad M w (1 / r.V - zDr M) (r.Y.map (fun q => q / r.V)) (r.X.map (fun q => q / r.V)) := by
 have hok := zFz hM
 have en := zId M w
 have em := zIc M w
 have hk : r.kind = 0 ∨ r.kind = 2 := by
  refine (bounds hok g (x := List.replicate w 0) ⟨fun j hj => ?_, fun i hi => ?_⟩).2
  ·rw [en] at hj
   rw [zCg hj]; exact Rat.le_refl
  ·rw [em] at hi
   have e : zAM ((zAV M w).A.getD i []) (List.replicate w 0) = 0 := by
    unfold zAM
    refine Eq.trans (zAX (g := fun _ => 0) (fun j _ => ?_)) (zGA _)
    rw [zJ5, Rat.mul_zero]
   have e2 : (zAV M w).B.getD i 0 = 1 := zCg hi
   rw [e, e2]
   decide
 have hdual : Dual (zAV M w) (List.replicate M.length 1) := by
  refine ⟨fun i hi => ?_, fun j hj => ?_⟩
  ·rw [em] at hi
   rw [zCg hi]; decide
  ·rw [en] at hj
   have e2 : (zAV M w).C.getD j 0 = 1 := zCg hj
   have hl' : (zBo (zAV M w).A j).length = M.length := by
    rw [zCH]; exact List.length_map ..
   rw [e2, zBE hl']
   have h0 : ∀ i, i < M.length → 0 ≤ (zBo (zAV M w).A j).getD i 0 * (List.replicate M.length (1 : Rat)).getD i 0 := fun i hi => by
    rw [zCg hi, Rat.mul_one, zDg]
    exact Rat.le_trans (by decide) (zNT hM hi hj)
   refine Rat.le_trans ?_ (sum_ge h0 0 hm)
   rw [zCg hm, Rat.mul_one, zDg]
   exact zNT hM hm hj
 cases g with
 | none => rcases hk with h | h <;> cases h
 | free hn hx hr x0 r0 ax ar cr => exact (weak_ray hok (x := _) ⟨r0, ar, cr⟩ hdual).elim
 | @best X Y V hx hy x0 y0 ax ya cx yb =>
  rw [en] at hx x0 ya
  rw [em] at hy y0 ax
  have cx' : zAU (fun j => X.getD j 0) w = V := by rw [← zNl]; exact cx
  have yb' : zAU (fun i => Y.getD i 0) M.length = V := by rw [← zNl]; exact yb
  have hV : 0 < V := by
   refine Rat.not_le.1 (fun hV => ?_)
   rw [← yb'] at hV
   have h0 := zKz y0 hV
   have h1 := ya 0 hw
   have e2 : (zAV M w).C.getD 0 0 = 1 := zCg hw
   rw [e2, zBE (n := M.length) (by rw [zCH]; exact List.length_map ..)] at h1
   rw [zAX (g := fun _ => 0) (fun i hi => by rw [h0 i hi, Rat.mul_zero]), zGA] at h1
   exact absurd h1 (by decide)
  have hne : V ≠ 0 := fun e => by rw [e] at hV; exact Rat.lt_irrefl hV
  have hu : V * V⁻¹ = 1 := Rat.mul_inv_cancel V hne
  have hu0 : 0 ≤ V⁻¹ := Rat.le_of_lt (Rat.inv_pos.2 hV)
  refine ⟨Z, hV, hx, hy, ?_⟩
  refine ⟨by rw [List.length_map, hy], by rw [List.length_map, hx], fun i hi => ?_, fun j hj => ?_, ?_, ?_, fun i hi => ?_, fun j hj => ?_⟩
  ·rw [zIV]; exact Rat.mul_nonneg (y0 i hi) hu0
  ·rw [zIV]; exact Rat.mul_nonneg (x0 j hj) hu0
  ·rw [zAX (g := fun i => Y.getD i 0 * V⁻¹) (fun i _ => zIV _ _ _), zC4, yb']; exact hu
  ·rw [zAX (g := fun i => X.getD i 0 * V⁻¹) (fun i _ => zIV _ _ _), zC4, cx']; exact hu
  ·rw [zP3, Rat.div_def, Rat.one_mul]
   have h1 := ax i hi
   have e2 : (zAV M w).B.getD i 0 = 1 := zCg hi
   rw [e2, zQ7 hM hi, cx'] at h1
   have h2 := zDm hu0 (show zAM (M.getD i []) X ≤ 1 - zDr M * V by grind)
   have e3 : (1 - zDr M * V) * V⁻¹ = V⁻¹ - zDr M * (V * V⁻¹) := by grind
   rw [e3, hu, Rat.mul_one] at h2
   exact h2
  ·rw [zP3, Rat.div_def, Rat.one_mul]
   have h1 := ya j hj
   have e2 : (zAV M w).C.getD j 0 = 1 := zCg hj
   rw [e2, zQ6 hM hj, yb'] at h1
   have h2 := zDm hu0 (show 1 - zDr M * V ≤ zAM (zBo M j) Y by grind)
   have e3 : (1 - zDr M * V) * V⁻¹ = V⁻¹ - zDr M * (V * V⁻¹) := by grind
   rw [e3, hu, Rat.mul_one] at h2
   exact h2
end
section
variable {M : List (List Rat)} {w : Nat} {v : Rat} {x y : List Rat}
/-- elements multiplied by a number and increased by another one -/
def zCm (by' more : Rat) (M : List (List Rat)) : List (List Rat) := M.map (fun r => r.map (fun q => q * by' + more))
theorem zPf (a b : Rat) (hM : ∀ r ∈ M, r.length = w) {i j : Nat} (hi : i < M.length) (hj : j < w) : ((zCm a b M).getD i []).getD j 0 = (M.getD i []).getD j 0 * a + b := by
 have e : (zCm a b M).getD i [] = (M.getD i []).map (fun q => q * a + b) := zCK _ M [] [] i hi
 rw [e]
 exact zCK _ _ 0 0 j (by rw [hM _ (zAD [] hi)]; exact hj)
theorem zII (a b : Rat) (M : List (List Rat)) : (zCm a b M).length = M.length := List.length_map ..
theorem zGl (a b : Rat) (hM : ∀ r ∈ M, r.length = w) : ∀ r ∈ zCm a b M, r.length = w := fun r hr => by
 obtain ⟨s, hs, rfl⟩ := List.mem_map.1 hr
 rw [List.length_map, hM s hs]
/-- the players exchanged -/
theorem Sad.turn (h : Sad M w v x y) (hM : ∀ r ∈ M, r.length = w) : Sad (zCm (-1) 0 (zC5 M w)) M.length (-v) y x := by
 have hl : (zCm (-1) 0 (zC5 M w)).length = w := by rw [zII, zLV]
 have hC : ∀ r ∈ zC5 M w, r.length = M.length := fun r hr => by
  obtain ⟨k, _, rfl⟩ := List.mem_map.1 hr
  exact zCH M k
 have hget : ∀ i j, i < M.length → j < w → ((zCm (-1) 0 (zC5 M w)).getD j []).getD i 0 = -((M.getD i []).getD j 0) := fun i j hi hj => by
  rw [zPf _ _ hC (by rw [zLV]; exact hj) hi, zQr M hj, zDg]
  grind
 refine ⟨by rw [hl]; exact h.yl, h.xl, by rw [hl]; exact h.y0, h.x0, by rw [hl]; exact h.ys, h.xs, fun j hj => ?_, fun i hi => ?_⟩
 ·rw [hl] at hj
  have e : zAM ((zCm (-1) 0 (zC5 M w)).getD j []) x = -(zAM (zBo M j) x) := by
   rw [zBE (n := M.length) (zGl _ _ hC _ (zAD [] (by rw [hl]; exact hj))), zBE (n := M.length) (zCH M j), ← zOL]
   exact zAX (fun i hi => by rw [hget i j hi hj, zDg]; grind)
  rw [e]
  have := h.lo j hj
  grind
 ·have e : zAM (zBo (zCm (-1) 0 (zC5 M w)) i) y = -(zAM (M.getD i []) y) := by
   rw [zBE (n := w) (by rw [zCH, hl]), zBE (n := w) (hM _ (zAD [] hi)), ← zOL]
   exact zAX (fun j hj => by rw [zDg, hget i j hi hj]; grind)
  rw [e]
  have := h.up i hi
  grind
end
def skip (i j : Nat) : Nat := if j < i then j else j + 1
section
variable {M : List (List Rat)} {w : Nat} {v : Rat} {x y : List Rat}
end
end Go.Ax.Mg
namespace Go.Ax.Rt
open Go.Ax.Bg
structure TNode where
 kind : Int
 player : Int
 info : Int
 next : List Int
 odds : List zn
 pay : zn
 deriving DecidableEq
def node0 : TNode := ⟨0, 0, 0, [], [], []⟩
abbrev Tree := List TNode
/-- how often a node is named -/
def named (t : Tree) (k : Nat) : Nat := ((t.flatMap TNode.next).filter (fun x => decide (x = (k : Int)))).length
/-- Is it the player's move, in an information set? -/
def own (p : Int) (n : TNode) : Bool := decide (n.kind = 2) && decide (n.player = p)
def inSet (p i : Int) (n : TNode) : Bool := own p n && decide (n.info = i)
/-- the first node of an information set -/
def firstIn (t : Tree) (p i : Int) : Nat := t.findIdx (inSet p i)
def infosOf (t : Tree) (p : Int) : List Int := ((List.range 10).map (fun i : Nat => (i : Int))).filter (fun i => t.any (inSet p i))
def zKB (t : Tree) (p i : Int) : Nat := (t.getD (firstIn t p i) node0).next.length
structure RSeq where
 info : Int
 choice : Int
 before : Int
 deriving DecidableEq
def seq0 : RSeq := ⟨-1, -1, -1⟩
structure RForm where
 seqs : List RSeq
 pos : List Int
 first : List (Int × Nat)
def lookA (m : List (Int × Nat)) (k : Int) : Option Nat := (m.find? (fun x => decide (x.1 = k))).map Prod.snd
def newSeqs (n : TNode) (b : Int) : List RSeq := (List.range n.next.length).map (fun k : Nat => ⟨n.info, (k : Int), b⟩)
def zJt (p : Int) (n : TNode) (i : Nat) (f : RForm) : RForm :=
 if own p n = true ∧ lookA f.first n.info = none then ⟨f.seqs ++ newSeqs n (f.pos.getD i 0), f.pos, f.first ++ [(n.info, f.seqs.length)]⟩ else f
def zQa (v : Nat → Int) : List Int → Nat → List Int → List Int
 | [], _, a => a
 | c :: r, k, a => zQa v r (k + 1) (a.set c.toNat (v k))
def nextV (p : Int) (n : TNode) (i : Nat) (f : RForm) (k : Nat) : Int := if own p n = true then (((lookA f.first n.info).getD 0 : Nat) : Int) + (k : Int) else f.pos.getD i 0
def stepF (p : Int) (n : TNode) (i : Nat) (f : RForm) : RForm := ⟨(zJt p n i f).seqs, zQa (nextV p n i (zJt p n i f)) n.next 0 (zJt p n i f).pos, (zJt p n i f).first⟩
def formN (t : Tree) (p : Int) : Nat → RForm
 | 0 => ⟨[seq0], List.replicate t.length 0, []⟩
 | i + 1 => stepF p (t.getD i node0) i (formN t p i)
def seqsOf (t : Tree) (p : Int) : List RSeq := (formN t p t.length).seqs
theorem zMB (q : Rat) : ∀ (l : List Rat) (acc : Rat), zIy acc (l ++ [q]) = zIy acc l + q
 | [], acc => rfl
 | a :: r, acc => by rw [List.cons_append, zIy, zIy, zMB q r]
theorem zL9 : ∀ (m : Nat) (l : List Rat), m ≤ l.length → zAU (fun c => l.getD c 0) m = zIy 0 (l.take m)
 | 0, l, _ => rfl
 | m + 1, l, h => by
  rw [zAU, zL9 m l (by omega), List.take_succ_eq_append_getElem (by omega), zMB, zDz 0 (by omega)]
end Go.Ax.Rt
namespace Go.Ax.Mg
open Go.Ax.Dt Go.Ax.Rt Go.Ax.Bg Go.Ax.Sx
/-- a number with the denominator d and a small numerator -/
def zJp (B : Nat) (d : Int) (q : Rat) : Prop := ∃ x : Int, x.natAbs ≤ B ∧ q = Rat.divInt x d
theorem zJp.zero (B : Nat) (d : Int) : zJp B d 0 := ⟨0, Nat.zero_le _, (Rat.zero_divInt d).symm⟩
/-- whole rows with at most e digits, factors with at most f digits -/
structure Fine (p : Prog) (e f : Nat) : Prop where
 w : ∀ i j, i < p.m → j < p.n + 1 → ((p.whole i).getD j 0).natAbs ≤ 10 ^ e
 c : ∀ j, j < p.n → ((zAk p.C).getD j 0).natAbs ≤ 10 ^ e
 fa : ∀ i, i < p.m → p.fac i ≤ 10 ^ f
 fc : p.fc ≤ 10 ^ f
theorem zPW {p : Prog} {e f : Nat} (hk : Fine p e f) {i j : Nat} (hi : i < p.m) (hj : j < p.N + 1) : (at2 (zAO p).rows i j).natAbs ≤ 10 ^ e := by
 have h1 := zBs e
 by_cases c1 : j < p.n
 ·rw [zJ7 p hi c1, Int.natAbs_mul, zHO, Nat.one_mul]
  exact hk.w _ _ hi (by omega)
 ·by_cases c2 : j < p.n + p.m
  ·obtain ⟨q, rfl⟩ : ∃ q, j = p.n + q := ⟨j - p.n, by omega⟩
   rw [zIw p hi (by omega)]
   split
   ·rw [zHO]; exact h1
   ·exact Nat.zero_le _
  ·by_cases c3 : j < p.N
   ·obtain ⟨q, rfl⟩ : ∃ q, j = p.n + p.m + q := ⟨j - (p.n + p.m), by omega⟩
    rw [zMw p hi (Nat.lt_of_add_lt_add_left (show p.n + p.m + q < p.n + p.m + p.a from c3))]
    split
    ·exact h1
    ·exact Nat.zero_le _
   ·obtain rfl : j = p.N := by omega
    rw [zIv p hi, Int.natAbs_mul, zHO, Nat.one_mul]
    exact hk.w _ _ hi (Nat.lt_succ_self _)
theorem M2_fine {p : Prog} {e f : Nat} (hk : Fine p e f) : ∀ i j, i < p.m + 1 → j < p.N + 1 → (at2 (M2 p) i j).natAbs ≤ 10 ^ e := by
 intro i j hi hj
 unfold M2
 by_cases c : i = p.m
 ·rw [c, zIS (zBF p) hj]
  unfold zBV
  split
  ·rename_i h
   rw [Int.natAbs_neg]; exact hk.c _ h
  ·exact Nat.zero_le _
 ·have hi' : i < p.m := Nat.lt_of_le_of_ne (Nat.le_of_lt_succ hi) c
  rw [zGt (zBF p) hi']; exact zPW hk hi' hj
theorem run_frac {p : Prog} {e f : Nat} (hp : p.Ok) (hk : Fine p e f) (hm : p.m + 1 ≤ 40) {K L : Nat} (h0 : (zDc p K L).kind = 0) :
 ∃ d t : Int, 0 < d ∧ d.natAbs ≤ 10 ^ ((e + 2) * (p.m + 1) + f) ∧ t.natAbs ≤ 10 ^ ((e + 2) * (p.m + 1)) ∧ (zDc p K L).V = Rat.divInt t d ∧
  (∀ q ∈ (zDc p K L).X, zJp (10 ^ ((e + 2) * (p.m + 1) + f)) d q) ∧ ∀ q ∈ (zDc p K L).Y, zJp (10 ^ ((e + 2) * (p.m + 1) + f)) d q := by
 unfold zDc at h0 ⊢
 by_cases h : 0 < p.a ∧ at2 (zCD p K).rows p.m p.N < 0
 ·rw [if_pos h] at h0; cases h0
 rw [if_neg h] at h0 ⊢
 by_cases h4 : zCG p.m (p.n + p.m) (zDd p K L) < p.n + p.m
 ·rw [if_pos h4] at h0; cases h0
 rw [if_neg h4]
 obtain ⟨h1, _, _⟩ := zHc p hp K L (zG4 hp h)
 obtain ⟨a1, a2⟩ := h1.bound (zBs e) (M2_fine hk)
 have a3 := zP0 (k := e) hm
 have b1 : ∀ i j, i < p.m + 1 → j < p.N + 1 → (at2 (zDd p K L).rows i j).natAbs ≤ 10 ^ ((e + 2) * (p.m + 1)) := fun i j hi hj => Nat.le_trans (a1 i j hi hj) a3
 have b2 := Nat.le_trans a2 a3
 have hd := h1.dp
 have hf := zHv p
 have hw := zFo p
 generalize zDd p K L = s at *
 have hfz : ((p.fc : Nat) : Int) ≠ 0 := by omega
 refine ⟨s.den * (p.fc : Nat), at2 s.rows p.m p.N, Int.mul_pos hd (by omega), ?_, b1 _ _ (Nat.lt_succ_self _) (Nat.lt_succ_self _), Z, ?_, ?_⟩
 ·rw [Int.natAbs_mul, Int.natAbs_natCast, Nat.pow_add]
  exact Nat.mul_le_mul b2 hk.fc
 ·refine zIm (fun q hq => ?_) (fun i hi => ?_)
  ·rw [List.eq_of_mem_replicate hq]; exact zJp.zero _ _
  ·refine ⟨at2 s.rows i p.N * (p.fc : Nat), ?_, (Rat.divInt_mul_right hfz).symm⟩
   rw [Int.natAbs_mul, Int.natAbs_natCast, Nat.pow_add]
   exact Nat.mul_le_mul (b1 _ _ (by omega) (Nat.lt_succ_self _)) hk.fc
 ·intro q hq
  obtain ⟨i, hi, rfl⟩ := List.mem_map.1 hq
  have hi : i < p.m := by simpa using hi
  refine ⟨at2 s.rows p.m (p.n + i) * (p.fac i : Nat), ?_, ?_⟩
  ·rw [Int.natAbs_mul, Int.natAbs_natCast, Nat.pow_add]
   exact Nat.mul_le_mul (b1 _ _ (Nat.lt_succ_self _) (by omega)) (hk.fa i hi)
  ·generalize s.den * ((p.fc : Nat) : Int) = dd
   rw [Rat.divInt_eq_div, Rat.divInt_eq_div, Rat.intCast_mul, Rat.div_def, Rat.div_def, Rat.intCast_natCast, Rat.mul_assoc, Rat.mul_assoc, Rat.mul_comm ((dd : Int) : Rat)⁻¹]
theorem frac_div {B : Nat} {d t : Int} (hd : d ≠ 0) (ht : t ≠ 0) {q : Rat} (h : zJp B d q) : zJp B t (q / Rat.divInt t d) := by
 obtain ⟨x, hx, rfl⟩ := h
 refine ⟨x, hx, ?_⟩
 have hdr : ((d : Int) : Rat) ≠ 0 := zJ0 hd
 have htr : ((t : Int) : Rat) ≠ 0 := zJ0 ht
 have e1 : (t : Rat) * (t : Rat)⁻¹ = 1 := Rat.mul_inv_cancel _ htr
 have e2 : (d : Rat) * (d : Rat)⁻¹ = 1 := Rat.mul_inv_cancel _ hdr
 have e : Rat.divInt x d = Rat.divInt x t * Rat.divInt t d := by
  rw [Rat.divInt_eq_div, Rat.divInt_eq_div, Rat.divInt_eq_div, Rat.div_def, Rat.div_def, Rat.div_def]
  grind
 have hne : Rat.divInt t d ≠ 0 := fun q => by
  rw [Rat.divInt_eq_div, Rat.div_def] at q
  have : (t : Rat) * (d : Rat)⁻¹ * (d : Rat) = 0 := by rw [q, Rat.zero_mul]
  have : (t : Rat) = 0 := by grind
  exact htr this
 rw [e]
 exact Rat.mul_div_cancel hne
theorem frac_D {B k : Nat} {d : Int} (hd : d ≠ 0) {q : Rat} (h : zJp B d q) (h1 : B < 10 ^ k) (h2 : d.natAbs < 10 ^ k) : D k q := by
 obtain ⟨x, hx, rfl⟩ := h
 exact zET hd (Nat.lt_of_le_of_lt hx h1) h2
theorem frac_add (x y d : Int) : Rat.divInt x d + Rat.divInt y d = Rat.divInt (x + y) d := by
 rw [Rat.divInt_eq_div, Rat.divInt_eq_div, Rat.divInt_eq_div, Rat.div_def, Rat.div_def, Rat.div_def, Rat.intCast_add]
 grind
/-- sums of numbers with one denominator -/
theorem zOJ {B k : Nat} {t : Int} (ht : t ≠ 0) (hk : k ≤ 2000) (h2 : t.natAbs < 10 ^ k) : ∀ (l : List Rat) (a : Int), (∀ q ∈ l, zJp B t q) → a.natAbs + B * l.length < 10 ^ k → (zHD (Rat.divInt a t) l).2 = 0
 | [], a, _, _ => rfl
 | q :: r, a, h, hb => by
  obtain ⟨x, hx, rfl⟩ := h q (List.mem_cons_self ..)
  rw [List.length_cons, Nat.mul_add, Nat.mul_one] at hb
  have h3 := Int.natAbs_add_le a x
  rw [zHD, frac_add, if_pos ((zET ht (show (a + x).natAbs < 10 ^ k by omega) h2).fit hk)]
  exact zOJ ht hk h2 r (a + x) (fun q hq => h q (List.mem_cons_of_mem _ hq)) (by omega)
theorem odds_com {qs : List Rat} (hn : qs.length ≤ 256) (hf : ∀ q ∈ qs, zBp q = true) (hs : (zHD 0 qs).2 = 0) (h0 : ∀ q ∈ qs, 0 ≤ q) (h1 : zIy 0 qs = 1) : zEc (qs.map zt) = 0 := by
 have v1 : (qs.map zt).map zv = qs := by
  rw [List.map_map]
  conv => rhs; rw [← List.map_id qs]
  exact List.map_congr_left (fun q hq => (zGM (hf q hq)).2)
 have v2 : zDv (qs.map zt) = 0 := zJu (fun s hs => by
  obtain ⟨q, hq, rfl⟩ := List.mem_map.1 hs
  exact (zGM (hf q hq)).1)
 have v3 : zHE (qs.map zt) = (1, 0) := by
  unfold zHE
  rw [if_neg (by rw [List.length_map]; omega), if_pos v2, v1]
  have := zMC qs 0 hs
  rw [h1] at this
  exact Prod.ext this hs
 have v4 : (qs.map zt).any zDb = false := by
  rw [List.any_eq_false]
  intro s hs'
  obtain ⟨q, hq, rfl⟩ := List.mem_map.1 hs'
  have e := zGM (hf q hq)
  have := (zJM e.1).2 (by rw [e.2]; exact h0 q hq)
  simp [this]
 unfold zEc posE
 rw [v3, v4]; rfl
theorem zGz {N : Nat} : ∀ (l : List Rat) (f : Nat), f ∣ N → (∀ q ∈ l, q.den ∣ N) → zCs f l ∣ N
 | [], f, h, _ => h
 | a :: r, f, h, hq => by
  rw [zCs]
  refine zGz r _ ?_ (fun q hq' => hq q (List.mem_cons_of_mem _ hq'))
  have e : f * (a.den / Nat.gcd f a.den) = Nat.lcm f a.den := by
   unfold Nat.lcm
   rw [Nat.mul_div_assoc _ (Nat.gcd_dvd_right f a.den)]
  rw [e]
  exact Nat.lcm_dvd h (hq a (List.mem_cons_self ..))
def zLx : List Rat → Nat
 | [] => 1
 | q :: r => q.den * zLx r
theorem zLz : ∀ l, 0 < zLx l
 | [] => Nat.zero_lt_one
 | q :: r => Nat.mul_pos q.den_pos (zLz r)
theorem zLy : ∀ {l : List Rat}, ∀ q ∈ l, q.den ∣ zLx l
 | [], q, h => absurd h List.not_mem_nil
 | a :: r, q, h => by
  rcases List.mem_cons.1 h with rfl | h
  ·exact Nat.dvd_mul_right _ _
  ·exact Nat.dvd_trans (zLy q h) (Nat.dvd_mul_left _ _)
theorem zNs {k : Nat} : ∀ {l : List Rat}, (∀ q ∈ l, D k q) → zLx l ≤ 10 ^ (k * l.length)
 | [], _ => by rw [List.length_nil, Nat.mul_zero]; exact Nat.le_refl _
 | a :: r, h => by
  rw [List.length_cons, Nat.mul_add, Nat.mul_one, Nat.add_comm, Nat.pow_add]
  exact Nat.mul_le_mul (Nat.le_of_lt (h a (List.mem_cons_self ..)).2) (zNs (fun q hq => h q (List.mem_cons_of_mem _ hq)))
/-- an element of the program: (q - c) a + 1 -/
theorem zOt {k : Nat} {q c a : Rat} (hq : D k q) (hc : D k c) (ha : D k a) :
 ((q * a + 1) - c * a).num.natAbs ≤ 10 ^ (3 * k + 1) ∧ ((q * a + 1) - c * a).den ∣ q.den * (c.den * a.den) := by
 have e : (q * a + 1) - c * a = Rat.divInt ((q.num * c.den - c.num * q.den) * a.num + (q.den * (c.den * a.den) : Nat)) ((q.den * (c.den * a.den) : Nat) : Int) := by
  have n1 : q * (q.den : Rat) = (q.num : Rat) := zJ1 q
  have n2 : c * (c.den : Rat) = (c.num : Rat) := zJ1 c
  have n3 : a * (a.den : Rat) = (a.num : Rat) := zJ1 a
  have hne : (((q.den * (c.den * a.den) : Nat) : Int) : Rat) ≠ 0 := zJ0 (by
   have := Nat.mul_pos q.den_pos (Nat.mul_pos c.den_pos a.den_pos)
   omega)
  rw [Rat.divInt_eq_div]
  have h : ((q * a + 1) - c * a) * (((q.den * (c.den * a.den) : Nat) : Int) : Rat) = (((q.num * c.den - c.num * q.den) * a.num + (q.den * (c.den * a.den) : Nat) : Int) : Rat) := by
   rw [Rat.intCast_add, Rat.intCast_mul, Rat.intCast_sub, Rat.intCast_mul, Rat.intCast_mul, Rat.intCast_natCast, Rat.intCast_natCast, Rat.intCast_natCast, Rat.natCast_mul, Rat.natCast_mul, ← n1, ← n2, ← n3]
   grind
  rw [← h]
  exact (Rat.mul_div_cancel hne).symm
 have hpos : ((q.den * (c.den * a.den) : Nat) : Int) ≠ 0 := by
  have := Nat.mul_pos q.den_pos (Nat.mul_pos c.den_pos a.den_pos)
  omega
 obtain ⟨e1, e2, _⟩ := zGJ ((q.num * c.den - c.num * q.den) * a.num + (q.den * (c.den * a.den) : Nat)) _ hpos
 rw [e]
 refine ⟨?_, ?_⟩
 ·rw [e1]
  refine Nat.le_trans (Nat.div_le_self _ _) ?_
  have b1 : q.num.natAbs * c.den ≤ 10 ^ k * 10 ^ k := Nat.mul_le_mul (Nat.le_of_lt hq.1) (Nat.le_of_lt hc.2)
  have b2 : c.num.natAbs * q.den ≤ 10 ^ k * 10 ^ k := Nat.mul_le_mul (Nat.le_of_lt hc.1) (Nat.le_of_lt hq.2)
  have b3 : q.den * (c.den * a.den) ≤ 10 ^ k * (10 ^ k * 10 ^ k) := Nat.mul_le_mul (Nat.le_of_lt hq.2) (Nat.mul_le_mul (Nat.le_of_lt hc.2) (Nat.le_of_lt ha.2))
  have s1 := Int.natAbs_add_le ((q.num * c.den - c.num * q.den) * a.num) ((q.den * (c.den * a.den) : Nat) : Int)
  have s2 : (q.num * c.den - c.num * q.den).natAbs ≤ 10 ^ k * 10 ^ k + 10 ^ k * 10 ^ k := by
   have := Int.natAbs_sub_le (q.num * c.den) (c.num * q.den)
   rw [Int.natAbs_mul, Int.natAbs_mul, Int.natAbs_natCast, Int.natAbs_natCast] at this
   omega
  have s3 : ((q.num * c.den - c.num * q.den) * a.num).natAbs ≤ (10 ^ k * 10 ^ k + 10 ^ k * 10 ^ k) * 10 ^ k := by
   rw [Int.natAbs_mul]
   exact Nat.mul_le_mul s2 (Nat.le_of_lt ha.1)
  rw [Int.natAbs_natCast] at s1
  have e3 : 10 ^ (3 * k + 1) = 10 ^ k * (10 ^ k * 10 ^ k) * 10 := by
   rw [Nat.pow_succ, show 3 * k = k + (k + k) by omega, Nat.pow_add, Nat.pow_add]
  have e4 : (10 ^ k * 10 ^ k + 10 ^ k * 10 ^ k) * 10 ^ k = 10 ^ k * (10 ^ k * 10 ^ k) + 10 ^ k * (10 ^ k * 10 ^ k) := by
   rw [Nat.add_mul, Nat.mul_assoc]
  rw [e3]
  omega
 ·rw [e2]
  exact Nat.div_dvd_of_dvd (by
   refine Nat.dvd_trans (Nat.gcd_dvd_right _ _) ?_
   rw [Int.natAbs_natCast]; exact Nat.dvd_refl _)
section
variable {M : List (List Rat)} {w : Nat}
theorem zL2 {n : Nat} : zCs 1 (List.replicate n (1 : Rat)) = 1 := by
 have := zGz (N := 1) (List.replicate n (1 : Rat)) 1 (Nat.dvd_refl _) (fun q hq => by rw [List.eq_of_mem_replicate hq]; exact Nat.dvd_refl _)
 exact Nat.dvd_one.1 this
/-- the least element of a shifted game is the shifted one of some element -/
theorem zLp (a b : Rat) {k : Nat} (hw : 0 < w) (hm : 0 < M.length) (hM : ∀ r ∈ M, r.length = w) (hD : ∀ r ∈ M, ∀ q ∈ r, D k q) : ∃ c, D k c ∧ zGN (zCm a b M) = c * a + b := by
 refine zHU (P := fun x => ∃ c, D k c ∧ x = c * a + b) (zCm a b M) _ ?_ ?_
 ·have hr := zAD (l := M) [] hm
  exact ⟨(M.getD 0 []).getD 0 0, hD _ hr _ (zAD 0 (by rw [hM _ hr]; exact hw)), zPf a b hM hm hw⟩
 ·intro r hr q hq
  obtain ⟨s, hs, rfl⟩ := List.mem_map.1 hr
  obtain ⟨c, hc, rfl⟩ := List.mem_map.1 hq
  exact ⟨c, hD s hs c hc, Z⟩
theorem zQ8 (a b : Rat) {k : Nat} (hw : 0 < w) (hm : 0 < M.length) (hM : ∀ r ∈ M, r.length = w) (hD : ∀ r ∈ M, ∀ q ∈ r, D k q) (ha : D k a) :
 Fine (zAV (zCm a b M) w) (k * (w + 2) + (3 * k + 1)) (k * (w + 2)) := by
 obtain ⟨c, hc, hl⟩ := zLp a b hw hm hM hD
 have en := zId (zCm a b M) w
 have em : (zAV (zCm a b M) w).m = M.length := by rw [zIc, zII]
 have hok := zFz (zGl a b hM)
 have hM' := zGl a b hM
 -- the elements of a row and its right side
 have hel : ∀ i, i < M.length → ∀ q ∈ (zAV (zCm a b M) w).full i, q.num.natAbs ≤ 10 ^ (3 * k + 1) ∧ q.den ∣ zLx (M.getD i []) * (c.den * a.den) := by
  intro i hi q hq
  rcases List.mem_append.1 hq with h | h
  ·rw [zJI (by rw [zII]; exact hi)] at h
   obtain ⟨x, hx, rfl⟩ := List.mem_map.1 h
   have e : (zCm a b M).getD i [] = (M.getD i []).map (fun q => q * a + b) := zCK _ M [] [] i hi
   rw [e] at hx
   obtain ⟨y, hy, rfl⟩ := List.mem_map.1 hx
   have hy' := hD _ (zAD [] hi) y hy
   obtain ⟨g1, g2⟩ := zOt hy' hc ha
   have e2 : y * a + b + zDr (zCm a b M) = (y * a + 1) - c * a := by
    unfold zDr; rw [hl]; grind
   rw [e2]
   exact ⟨g1, Nat.dvd_trans g2 (Nat.mul_dvd_mul_right (zLy y hy) _)⟩
  ·rw [List.mem_singleton.1 h]
   have e2 : (zAV (zCm a b M) w).B.getD i 0 = 1 := zCg (by rw [zII]; exact hi)
   rw [e2]
   exact ⟨zBs _, Nat.one_dvd _⟩
 have hN : ∀ i, i < M.length → zLx (M.getD i []) * (c.den * a.den) ≤ 10 ^ (k * (w + 2)) := fun i hi => by
  have h1 := zNs (k := k) (hD _ (zAD [] hi))
  rw [hM _ (zAD [] hi)] at h1
  have h2 : c.den * a.den ≤ 10 ^ k * 10 ^ k := Nat.mul_le_mul (Nat.le_of_lt hc.2) (Nat.le_of_lt ha.2)
  rw [Nat.mul_add, Nat.pow_add, show k * 2 = k + k by omega, Nat.pow_add]
  exact Nat.mul_le_mul h1 h2
 have hfac : ∀ i, i < M.length → (zAV (zCm a b M) w).fac i ≤ 10 ^ (k * (w + 2)) := fun i hi => by
  refine Nat.le_trans (Nat.le_of_dvd (Nat.mul_pos (zLz _) (Nat.mul_pos c.den_pos a.den_pos)) ?_) (hN i hi)
  exact zGz _ 1 (Nat.one_dvd _) (fun q hq => (hel i hi q hq).2)
 refine ⟨fun i j hi hj => ?_, fun j hj => ?_, fun i hi => ?_, ?_⟩
 ·rw [zJb _ hok hi hj, Int.natAbs_mul, Int.natAbs_natCast, Nat.pow_add, Nat.mul_comm]
  rw [em] at hi
  have hin : ((zAV (zCm a b M) w).full i).getD j 0 ∈ (zAV (zCm a b M) w).full i := zAD 0 (by rw [zD7 _ hok (by rw [em]; exact hi)]; exact hj)
  exact Nat.mul_le_mul (Nat.le_trans (Nat.div_le_self _ _) (hfac i hi)) (hel i hi _ hin).1
 ·have e : (zAk (zAV (zCm a b M) w).C).getD j 0 = 1 := by
   have hx : (zAk (List.replicate w (1 : Rat))).getD j 0 = 1 := by
    rw [en] at hj
    unfold zAk
    rw [zCK _ _ 0 _ _ (by rw [List.length_replicate]; exact hj), zCg hj, zL2]
    rfl
   exact hx
  rw [e]; exact zBs _
 ·rw [em] at hi; exact hfac i hi
 ·have e : (zAV (zCm a b M) w).fc = 1 := zL2
  rw [e]; exact zBs _
/-- The results of a small game. -/
structure Small (M : List (List Rat)) (w K L : Nat) : Prop where
 sad : Sad M w (zAl M w K L).1 (zAl M w K L).2.1 (zAl M w K L).2.2
 v : D 1300 (zAl M w K L).1
 r : ∀ q ∈ (zAl M w K L).2.1, D 1320 q
 c : ∀ q ∈ (zAl M w K L).2.2, D 1320 q
 rs : zEc ((zAl M w K L).2.1.map zt) = 0
 cs : zEc ((zAl M w K L).2.2.map zt) = 0
theorem ten5 {k : Nat} : 10 ^ k * 5 < 10 ^ (k + 1) := by
 rw [Nat.pow_succ]
 have := zBs k
 omega
theorem zPA {l : List Rat} {n : Nat} (hl : l.length = n) (h : ∀ i, i < n → 0 ≤ l.getD i 0) : ∀ q ∈ l, 0 ≤ q := by
 intro q hq
 obtain ⟨i, hi, rfl⟩ := List.mem_iff_getElem.1 hq
 have := h i (by omega)
 simpa [List.getD, hi] using this
theorem sum_all {l : List Rat} {n : Nat} (hl : l.length = n) : zAU (fun i => l.getD i 0) n = zIy 0 l := by
 rw [zL9 n l (by omega), List.take_of_length_le (by omega)]
theorem zOz (a b : Rat) (hM : ∀ r ∈ M, r.length = w) (hw : 0 < w) (hm : 0 < M.length) (hw5 : w ≤ 5) (hm5 : M.length ≤ 5) (hD : ∀ r ∈ M, ∀ q ∈ r, D 12 q) (ha : D 12 a) (hb : D 12 b) {K L : Nat}
 (hs : Stops (zAV (zCm a b M) w) K L) : Small (zCm a b M) w K L := by
 have hM' := zGl a b hM
 have hl' := zII a b M
 have hok := zFz hM'
 obtain ⟨g0, gV, gX, gY, gS⟩ := zLf hM' hw (by rw [hl']; exact hm) (zN6 hok hs)
 have en := zId (zCm a b M) w
 have em : (zAV (zCm a b M) w).m = M.length := by rw [zIc, hl']
 have hfine := zQ8 a b hw hm hM hD ha
 obtain ⟨d, t, d0, d1, t1, eV, fX, fY⟩ := run_frac hok hfine (by rw [em]; omega) g0
 rw [em] at d1 t1 fX fY
 have hdz : d ≠ 0 := by omega
 have hT : (12 * (w + 2) + (3 * 12 + 1) + 2) * (M.length + 1) ≤ 738 := Nat.le_trans (Nat.mul_le_mul (show 12 * (w + 2) + (3 * 12 + 1) + 2 ≤ 123 by omega) (show M.length + 1 ≤ 6 by omega)) (by decide)
 generalize (12 * (w + 2) + (3 * 12 + 1) + 2) * (M.length + 1) = T at *
 obtain ⟨e1, he1⟩ : ∃ e : Nat, e = 1200 := ⟨_, rfl⟩
 obtain ⟨e2, he2⟩ : ∃ e : Nat, e = 1310 := ⟨_, rfl⟩
 obtain ⟨e3, he3⟩ : ∃ e : Nat, e = 1320 := ⟨_, rfl⟩
 have hd1 : d.natAbs ≤ 10 ^ e1 := Nat.le_trans d1 (Nat.pow_le_pow_right (by decide) (by omega))
 have ht1 : t.natAbs ≤ 10 ^ e1 := Nat.le_trans t1 (Nat.pow_le_pow_right (by decide) (by omega))
 have htz : t ≠ 0 := fun e => by
  rw [eV, e, Rat.zero_divInt] at gV
  exact Rat.lt_irrefl gV
 have hlt : e1 < e3 := by omega
 have ht2 : t.natAbs < 10 ^ e3 := Nat.lt_of_le_of_lt ht1 (Nat.pow_lt_pow_right (a := 10) (m := e1) (n := e3) (by decide) hlt)
 have hB : 10 ^ (T + 12 * (w + 2)) ≤ 10 ^ e2 := Nat.pow_le_pow_right (by decide) (by omega)
 have mono : ∀ {l : List Rat}, (∀ q ∈ l, zJp (10 ^ (T + 12 * (w + 2))) d q) → ∀ q ∈ l.map (fun q => q / (zDc (zAV (zCm a b M) w) K L).V), zJp (10 ^ e2) t q := fun hl q hq => by
  obtain ⟨a, ha, rfl⟩ := List.mem_map.1 hq
  rw [eV]
  obtain ⟨x, hx, e⟩ := frac_div hdz htz (hl a ha)
  exact ⟨x, Nat.le_trans hx hB, e⟩
 have mX := mono fX
 have mY := mono fY
 have hb2 : 10 ^ e2 < 10 ^ e3 := Nat.pow_lt_pow_right (by decide) (by omega)
 have dX : ∀ q ∈ (zAl (zCm a b M) w K L).2.2, D 1320 q := fun q hq => (frac_D htz (mX q hq) hb2 ht2).mono (by omega)
 have dY : ∀ q ∈ (zAl (zCm a b M) w K L).2.1, D 1320 q := fun q hq => (frac_D htz (mY q hq) hb2 ht2).mono (by omega)
 have sum : ∀ (l : List Rat) (n : Nat), l.length = n → n ≤ 5 → (∀ q ∈ l, zJp (10 ^ e2) t q) → (∀ q ∈ l, D 1320 q) → (∀ i, i < n → 0 ≤ l.getD i 0) → zAU (fun i => l.getD i 0) n = 1 → zEc (l.map zt) = 0 := fun l n hl hn hf hd h0 h1 => by
  refine odds_com (by omega) (fun q hq => (hd q hq).fit (by decide)) ?_ (zPA hl h0) (by rw [← sum_all hl]; exact h1)
  have := zOJ (B := 10 ^ e2) (k := e3) htz (by omega) ht2 l 0 hf (by
   refine Nat.lt_of_le_of_lt ?_ (Nat.lt_of_lt_of_le (ten5 (k := e2)) (Nat.pow_le_pow_right (by decide) (by omega)))
   rw [Int.natAbs_zero, Nat.zero_add]
   exact Nat.mul_le_mul_left _ (by omega))
  rwa [Rat.zero_divInt] at this
 refine ⟨gS, ?_, dY, dX, sum _ _ gS.xl (by rw [hl']; exact hm5) mY dY gS.x0 gS.xs, sum _ _ gS.yl hw5 mX dX gS.y0 gS.ys⟩
 have h1 : D 1201 (Rat.divInt t d) := (zET hdz (zCw ht1) (zCw hd1)).mono (by omega)
 have h2 : D 1202 (1 / (zDc (zAV (zCm a b M) w) K L).V) := by
  rw [eV]
  exact ((zHk 0).div h1 (by rw [← eV]; intro e; rw [e] at gV; exact Rat.lt_irrefl gV)).mono (by decide)
 obtain ⟨c, hc, hl⟩ := zLp a b hw hm hM hD
 have h3 : D 39 (zDr (zCm a b M)) := by
  unfold zDr; rw [hl]
  exact ((zHk 0).sub ((hc.mul ha).add hb)).mono (by decide)
 exact (h2.sub h3).mono (by decide)
end
end Go.Ax.Mg
namespace Go.Ax.Rt
open Go.Ax.Bg
abbrev firstF (t : Tree) (p : Int) : List (Int × Nat) := (formN t p t.length).first
/-- The choices from e on belong to whole sets. -/
structure Bnd (t : Tree) (p : Int) (e : Nat) : Prop where
 one : 1 ≤ e
 le : e ≤ (seqsOf t p).length
 whole : ∀ x ∈ firstF t p, x.2 < e → x.2 + zKB t p x.1 ≤ e
structure Blk (t : Tree) (p : Int) (e : Nat) (x : Int × Nat) (b : Nat) : Prop where
 mem : x ∈ firstF t p
 info : x.1 ∈ infosOf t p
 one : 1 ≤ x.2
 w1 : 1 ≤ zKB t p x.1
 fin : x.2 + zKB t p x.1 = e
 lt : b < x.2
 bnd : Bnd t p x.2
 seqs : ∀ c, c < zKB t p x.1 → (seqsOf t p).getD (x.2 + c) seq0 = ⟨x.1, (c : Int), (b : Int)⟩
end Go.Ax.Rt
namespace Go.Ax.Rt
open Go.Ax.Bg Go.Ax.Idx
theorem zOK : ∀ (qs : List Rat) (acc : Rat), (zHD acc qs).2 = 0 → (zHD acc qs).1 = zIy acc qs
 | [], acc, _ => rfl
 | q :: r, acc, h => by
  rw [zHD] at h ⊢
  rw [zIy]
  split at h
  ·rename_i hf
   rw [if_pos hf]
   exact zOK r _ h
  ·cases h
theorem zHV {l : List zn} (h : zEc l = 0) : l.length ≤ 256 ∧ (∀ s ∈ l, zCf s = 0) ∧ zIy 0 (l.map zv) = 1 ∧ ∀ q ∈ l.map zv, 0 ≤ q ∧ D 2000 q := by
 unfold zEc at h
 split at h
 case isFalse h1 => exact absurd h h1
 rename_i h1
 split at h
 case isFalse => cases h
 rename_i h2
 unfold posE at h1
 split at h1
 ·cases h1
 rename_i h3
 have h4 : l.any zDb = false := by
  cases hb : l.any zDb
  ·rfl
  ·exact absurd ⟨h1, hb⟩ h3
 unfold zHE at h1 h2
 split at h1
 ·cases h1
 rename_i h5
 split at h1
 case isFalse h6 => exact absurd h1 h6
 rename_i h6
 rw [if_neg h5, if_pos h6] at h2
 have h7 := zCb h6
 refine ⟨by omega, h7, ?_, fun q hq => ?_⟩
 ·have := zOK _ _ h1
  rw [this] at h2
  unfold zC7 at h2
  split at h2
  ·cases h2
  ·split at h2
   ·rename_i e; exact e
   ·cases h2
 ·obtain ⟨s, hs, rfl⟩ := List.mem_map.1 hq
  have hn := (zJM (h7 s hs)).1 (by rw [List.any_eq_false] at h4; simpa using h4 s hs)
  refine ⟨hn, ?_⟩
  have hf := (IsQ.self (h7 s hs)).fit
  unfold zBp at hf
  rw [Bool.and_eq_true, decide_eq_true_eq, decide_eq_true_eq] at hf
  exact dig_D hf.1 hf.2
end Go.Ax.Rt
namespace Go.Ax.Mg
open Go.Ax.Dt Go.Ax.Rt Go.Ax.Bg Go.Ax.Sx
abbrev ResG := zn × List zn × List zn
def zMx (g : Rat × List Rat × List Rat) : ResG := (zt g.1, g.2.1.map zt, g.2.2.map zt)
def zLd (g : Rat × List Rat × List Rat) : Bool := (g.1 :: (g.2.1 ++ g.2.2)).all zBp
/-- matgame.Solve -/
def zFG (m : List (List zn)) (K L : Nat) : ResG × Int :=
 if zAx m ≠ 0 then (([], [], []), zAx m) else if zLd (zAl (inM m) (zAJ m) K L) = true then (zMx (zAl (inM m) (zAJ m) K L), 0) else (([], [], []), 2)
def zEp (m : List (List zn)) (r c : List zn) : Int := if r.length ≠ m.length ∨ c.length ≠ zAJ m then 3 else if zEc r ≠ 0 then zEc r else zEc c
/-- matgame.Pay -/
def payG (m : List (List zn)) (r c : List zn) : zn × Int :=
 if zAx m ≠ 0 then ([], zAx m) else if zEp m r c ≠ 0 then ([], zEp m r c) else zH0 (zAM (r.map zv) ((inM m).map (fun row => zAM row (c.map zv))))
/-- matgame.Verify -/
def verG (m : List (List zn)) (v : zn) (r c : List zn) : Int :=
 if zAx m ≠ 0 then zAx m else if zEp m r c ≠ 0 then zEp m r c else if zCf v ≠ 0 then zCf v
 else if (inM m).any (fun row => decide (0 < zC7 (zAM row (c.map zv)) (zv v))) = true then 16
 else if (zC5 (inM m) c.length).any (fun col => decide (zC7 (zAM col (r.map zv)) (zv v) < 0)) = true then 16 else 0
/-- is row i less than row o in all its elements? -/
def zIC (x : List (List Rat)) (i o : Nat) : Bool := (List.range (x.getD i []).length).all (fun k => decide (0 < zC7 ((x.getD o []).getD k 0) ((x.getD i []).getD k 0)))
def domL (x : List (List Rat)) : List Nat := (List.range x.length).filter (fun i => (List.range x.length).any (fun o => zIC x i o))
theorem zLR {l : List Rat} (h : ∀ q ∈ l, zBp q = true) : (l.map zt).map zv = l := by
 rw [List.map_map]
 conv => rhs; rw [← List.map_id l]
 exact List.map_congr_left (fun q hq => (zGM (h q hq)).2)
theorem aff_id (M : List (List Rat)) : zCm 1 0 M = M := by
 unfold zCm
 conv => rhs; rw [← List.map_id M]
 refine List.map_congr_left (fun r _ => ?_)
 conv => rhs; rw [id, ← List.map_id r]
 exact List.map_congr_left (fun q _ => by rw [Rat.mul_one, Rat.add_zero]; rfl)
theorem zNS {m : List (List zn)} {p q : Nat} (h : IsM m p q) (hp : 0 < p) (hp' : p ≤ 12) (hq : 0 < q) (hq' : q ≤ 12) : zAx m = 0 := by
 have hne : m ≠ [] := fun e => by have := h.rows; rw [e] at this; exact absurd this (by show ¬ 0 = p; omega)
 unfold zAx
 rw [if_neg (by rw [h.rows]; omega), if_neg (fun c => c (zMh h)), if_neg (by rw [h.wid hne]; omega), if_neg (by rw [h.wid hne]; omega)]
/-- what a good game gives -/
structure IsG (m : List (List zn)) : Prop where
 is : IsM m m.length (zAJ m)
 w : 0 < zAJ m
 w12 : zAJ m ≤ 12
 l : 0 < m.length
 l12 : m.length ≤ 12
theorem zE9 {m : List (List zn)} (h : zAx m = 0) : IsG m := by
 obtain ⟨h1, h2, h3, h4, h5⟩ := zE7 h
 exact ⟨zEu h1, by omega, h4, List.length_pos_iff.2 h5, h2⟩
theorem IsG.rows {m : List (List zn)} (h : IsG m) : ∀ r ∈ inM m, r.length = zAJ m := zKR h.is
/-- what the results of a solved game are -/
structure Solv (m : List (List zn)) (K L : Nat) : Prop where
 g : IsG m
 eq : zFG m K L = (zMx (zAl (inM m) (zAJ m) K L), 0)
 sad : Sad (inM m) (zAJ m) (zAl (inM m) (zAJ m) K L).1 (zAl (inM m) (zAJ m) K L).2.1 (zAl (inM m) (zAJ m) K L).2.2
 v : IsQ (zt (zAl (inM m) (zAJ m) K L).1) (zAl (inM m) (zAJ m) K L).1
 vD : D 1300 (zAl (inM m) (zAJ m) K L).1
 r : ((zAl (inM m) (zAJ m) K L).2.1.map zt).map zv = (zAl (inM m) (zAJ m) K L).2.1
 c : ((zAl (inM m) (zAJ m) K L).2.2.map zt).map zv = (zAl (inM m) (zAJ m) K L).2.2
 rs : zEc ((zAl (inM m) (zAJ m) K L).2.1.map zt) = 0
 cs : zEc ((zAl (inM m) (zAJ m) K L).2.2.map zt) = 0
theorem solv_of {m : List (List zn)} {K L : Nat} (hg : zAx m = 0) (S : Small (inM m) (zAJ m) K L) : Solv m K L := by
 have f1 : ∀ q ∈ (zAl (inM m) (zAJ m) K L).2.1, zBp q = true := fun q hq => (S.r q hq).fit (by decide)
 have f2 : ∀ q ∈ (zAl (inM m) (zAJ m) K L).2.2, zBp q = true := fun q hq => (S.c q hq).fit (by decide)
 have f0 : zBp (zAl (inM m) (zAJ m) K L).1 = true := S.v.fit (by decide)
 have hf : zLd (zAl (inM m) (zAJ m) K L) = true := by
  unfold zLd
  rw [List.all_eq_true]
  intro q hq
  rcases List.mem_cons.1 hq with rfl | hq
  ·exact f0
  ·rcases List.mem_append.1 hq with hq | hq
   ·exact f1 q hq
   ·exact f2 q hq
 refine ⟨zE9 hg, ?_, S.sad, zGM f0, S.v, zLR f1, zLR f2, S.rs, S.cs⟩
 unfold zFG
 rw [if_neg (fun q => q hg), if_pos hf]
/-- small games -/
theorem zL3 (a b : Rat) {m m' : List (List zn)} {K L : Nat} (hg : zAx m' = 0) (hM : inM m' = zCm a b (inM m)) (hc : ∀ r ∈ inM m, r.length = zAJ m') (hl : 0 < m.length) (hw5 : zAJ m' ≤ 5) (hl5 : m.length ≤ 5)
 (hD : ∀ r ∈ inM m, ∀ q ∈ r, D 12 q) (ha : D 12 a) (hb : D 12 b) (hs : Stops (zAV (inM m') (zAJ m')) K L) : Solv m' K L := by
 have h := zE9 hg
 refine solv_of hg ?_
 rw [hM] at hs ⊢
 exact zOz a b hc h.w (by rw [zEA]; exact hl) hw5 (by rw [zEA]; exact hl5) hD ha hb hs
theorem zMG {m : List (List zn)} {K L n : Nat} (hn : n ≤ 5) (hg : zAx m = 0) (ht : zJX n 12 m = true) (hs : Stops (zAV (inM m) (zAJ m)) K L) : Solv m K L := by
 have h := zE9 hg
 obtain ⟨t1, t2⟩ := zHb ht
 have hne : m ≠ [] := List.length_pos_iff.1 h.l
 have hw : zAJ m ≤ 5 := by
  have := (t2 _ (zAD (l := m) [] h.l)).1
  show (m.getD 0 []).length ≤ 5
  omega
 exact zL3 1 0 hg (aff_id _).symm h.rows h.l hw (by omega) (inM_D h.is (fun v hv => (t2 v hv).2) (by decide)) ((zHk 0).mono (by decide)) ((zMz 0).mono (by decide)) hs
/-- a payment that is returned -/
theorem pay_ok {m : List (List zn)} {r c : List zn} (h : (payG m r c).2 = 0) : zEp m r c = 0 ∧ IsQ (payG m r c).1 (zAM (r.map zv) ((inM m).map (fun row => zAM row (c.map zv)))) := by
 unfold payG at h ⊢
 split at h
 ·rename_i h1; exact absurd h h1
 split at h
 ·rename_i h1; exact absurd h h1
 rename_i h1 h2
 rw [if_neg h1, if_neg h2]
 refine ⟨Classical.not_not.1 h2, ?_⟩
 unfold zH0 at h ⊢
 split at h
 ·rename_i h3
  rw [if_pos h3]; exact zGM h3
 ·cases h
theorem zL7 {m : List (List zn)} {r c : List zn} (h : zEp m r c = 0) : r.length = m.length ∧ c.length = zAJ m ∧ zEc r = 0 ∧ zEc c = 0 := by
 unfold zEp at h
 split at h
 ·cases h
 split at h
 ·rename_i h1; exact absurd h h1
 rename_i h1 h2
 exact ⟨Classical.not_not.1 (fun q => h1 (.inl q)), Classical.not_not.1 (fun q => h1 (.inr q)), Classical.not_not.1 h2, h⟩
def zJS (a b : zn) (q : zn) : zn := zt (zv q * zv a + zv b)
def zBT (a b : zn) (m : List (List zn)) : List (List zn) := m.map (fun r => r.map (zJS a b))
/-- a text of a number is good with a and b -/
def zJd (a b q : zn) : Prop := ∃ p s, zI0 (fun x y => x * y) q a = (p, 0) ∧ zI0 (fun x y => x + y) p b = (s, 0) ∧ s = zJS a b q ∧ IsQ s (zv q * zv a + zv b)
theorem zNV {a b q : zn} {k : Nat} (ha : zCf a = 0) (hb : zCf b = 0) (hq : zCf q = 0) (da : D k (zv a)) (db : D k (zv b)) (dq : D 1300 (zv q)) (hk : k ≤ 100) : zJd a b q := by
 have h1 : D 1400 (zv q * zv a) := (dq.mul da).mono (by omega)
 have h2 : D 1600 (zv q * zv a + zv b) := (h1.add db).mono (by omega)
 have i1 := zGM (h1.fit (by decide))
 have i2 := zGM (h2.fit (by decide))
 refine ⟨zt (zv q * zv a), zt (zv q * zv a + zv b), ?_, ?_, Z, i2⟩
 ·rw [IsQ.two _ (IsQ.self hq) (IsQ.self ha)]; exact i1.out
 ·rw [IsQ.two _ i1 (IsQ.self hb)]; exact i2.out
theorem zKu {a b : zn} {m : List (List zn)} {p q : Nat} (h : IsM m p q) (hg : ∀ r ∈ m, ∀ s ∈ r, zJd a b s) : IsM (zBT a b m) p q ∧ inM (zBT a b m) = zCm (zv a) (zv b) (inM m) := by
 refine ⟨⟨by unfold zBT; rw [List.length_map]; exact h.rows, fun r hr => ?_, h.sp, fun hne => h.sq (fun e => hne (by rw [e]; rfl)), fun r hr s hs => ?_⟩, ?_⟩
 ·obtain ⟨t, ht, rfl⟩ := List.mem_map.1 hr
  rw [List.length_map]; exact h.cols t ht
 ·obtain ⟨t, ht, rfl⟩ := List.mem_map.1 hr
  obtain ⟨u, hu, rfl⟩ := List.mem_map.1 hs
  obtain ⟨_, _, _, _, e, hi⟩ := hg t ht u hu
  rw [← e]; exact hi.1
 ·unfold inM zBT zCm
  rw [List.map_map, List.map_map]
  refine List.map_congr_left (fun r hr => ?_)
  show (r.map (zJS a b)).map zv = (r.map zv).map _
  rw [List.map_map, List.map_map]
  refine List.map_congr_left (fun s hs => ?_)
  obtain ⟨_, _, _, _, e, hi⟩ := hg r hr s hs
  show zv (zJS a b s) = zv s * zv a + zv b
  rw [← e]; exact hi.2
theorem wid_of {m : List (List zn)} {p q : Nat} (h : IsM m p q) (hp : 0 < p) : zAJ m = q := h.wid (fun e => by have := h.rows; rw [e] at this; exact absurd this (by show ¬ 0 = p; omega))
/-- MatgameTurns -/
theorem zQF {m : List (List zn)} {K L K' L' : Nat} (hg : zAx m = 0) (ht : zJX 5 12 m = true)
 (hs : Stops (zAV (inM m) (zAJ m)) K L) (hs' : Stops (zAV (inM (zBT [45, 49] [48] (zAw m))) (zAJ (zBT [45, 49] [48] (zAw m)))) K' L') :
 zGc m = (zAw m, 0) ∧ (∀ r ∈ zAw m, ∀ s ∈ r, zJd [45, 49] [48] s) ∧ zAx (zBT [45, 49] [48] (zAw m)) = 0 ∧ Solv m K L ∧ Solv (zBT [45, 49] [48] (zAw m)) K' L' ∧
  zCf (zFG m K L).1.1 = 0 ∧ (zFG (zBT [45, 49] [48] (zAw m)) K' L').1.1 = negT (zFG m K L).1.1 := by
 have h := zE9 hg
 obtain ⟨t1, t2⟩ := zHb ht
 have na : IsQ [45, 49] (-1) := zQH
 have nb : IsQ [48] 0 := by decide +kernel
 have da : D 12 (zv [45, 49]) := na.dig (show 2 ≤ 12 by decide) (by decide) |> fun d => by rw [na.2]; exact d
 have db : D 12 (zv [48]) := nb.dig (show 1 ≤ 12 by decide) (by decide) |> fun d => by rw [nb.2]; exact d
 have hp : m.length ≠ 0 := by have := h.l; omega
 have j1 := zLj h.is hp
 have j2 := zLi h.is hp
 have hD := inM_D h.is (fun v hv => (t2 v hv).2) (by decide)
 have hw5 : zAJ m ≤ 5 := by
  have := (t2 _ (zAD (l := m) [] h.l)).1
  show (m.getD 0 []).length ≤ 5
  omega
 have hDc : ∀ r ∈ inM (zAw m), ∀ q ∈ r, D 12 q := by
  rw [j2]
  intro r hr q hq
  obtain ⟨k, hk, rfl⟩ := List.mem_map.1 hr
  obtain ⟨s, hs, rfl⟩ := List.mem_map.1 hq
  exact hD s hs _ (zAD 0 (by rw [h.rows s hs]; simpa using hk))
 have hgs : ∀ r ∈ zAw m, ∀ s ∈ r, zJd [45, 49] [48] s := fun r hr s hs => zNV na.1 nb.1 (j1.ok r hr s hs) da db ((hDc _ (List.mem_map.2 ⟨r, hr, rfl⟩) _ (List.mem_map.2 ⟨s, hs, rfl⟩)).mono (by decide)) (by decide)
 obtain ⟨i1, i2⟩ := zKu j1 hgs
 have hw := wid_of i1 h.w
 have hg' : zAx (zBT [45, 49] [48] (zAw m)) = 0 := zNS i1 h.w h.w12 h.l h.l12
 have S := zMG (by decide) hg ht hs
 have S' := zL3 (zv [45, 49]) (zv [48]) hg' i2 (by rw [hw]; exact zKR j1) (by rw [j1.rows]; exact h.w) (by rw [hw]; omega) (by rw [j1.rows]; exact hw5) hDc da db hs'
 have hv : IsQ (zFG m K L).1.1 (zAl (inM m) (zAJ m) K L).1 := by rw [S.eq]; exact S.v
 refine ⟨?_, hgs, hg', S, S', hv.1, ?_⟩
 ·unfold zGc
  rw [if_neg (fun q => q (zMh h.is))]
 rw [S'.eq]
 show zt _ = zt _
 rw [hv.2]
 congr 1
 have s1 := S.sad.turn h.rows
 have s2 := S'.sad
 rw [hw, i2, na.2, nb.2, j2] at s2 ⊢
 rw [zEA] at s1
 exact s2.uniq s1 (zGl _ _ (fun r hr => by
  obtain ⟨k, _, rfl⟩ := List.mem_map.1 hr
  rw [zCH, zEA]))
section
variable {M : List (List Rat)} {w k : Nat}
theorem zQE (hw : 0 < w) (hm : 0 < M.length) (hM : ∀ r ∈ M, r.length = w) (hD : ∀ r ∈ M, ∀ q ∈ r, D k q) : D k (zGN M) :=
 zHU (P := fun q => D k q) M _ (hD _ (zAD [] hm) _ (zAD 0 (by rw [hM _ (zAD [] hm)]; exact hw))) hD
theorem addM_D (hw : 0 < w) (hm : 0 < M.length) (hM : ∀ r ∈ M, r.length = w) (hD : ∀ r ∈ M, ∀ q ∈ r, D k q) : D (k + 2) (zDr M) := by
 unfold zDr
 exact ((zHk 0).sub (zQE hw hm hM hD)).mono (by omega)
theorem zLe (hw : 0 < w) (hm : 0 < M.length) (hM : ∀ r ∈ M, r.length = w) (hD : ∀ r ∈ M, ∀ q ∈ r, D k q) : (zAV M w).Dig (2 * k + 3) := by
 have ha := addM_D hw hm hM hD
 refine ⟨fun r hr q hq => ?_, fun q hq => ?_, fun q hq => ?_⟩
 ·obtain ⟨s, hs, rfl⟩ := List.mem_map.1 hr
  obtain ⟨c, hc, rfl⟩ := List.mem_map.1 hq
  exact ((hD s hs c hc).add ha).mono (by omega)
 ·obtain ⟨_, rfl⟩ := List.mem_replicate.1 hq
  exact (zHk 0).mono (by omega)
 ·obtain ⟨_, rfl⟩ := List.mem_replicate.1 hq
  exact (zHk 0).mono (by omega)
/-- what the program of a game gives -/
structure Ran (M : List (List Rat)) (w K L : Nat) : Prop where
 kind : (zDc (zAV M w) K L).kind = 0
 pos : (zDc (zAV M w) K L).V ≠ 0
 xl : (zDc (zAV M w) K L).X.length = w
 yl : (zDc (zAV M w) K L).Y.length = M.length
 xd : ∀ q ∈ (zDc (zAV M w) K L).X, D 30000 q
 yd : ∀ q ∈ (zDc (zAV M w) K L).Y, D 30000 q
 vd : D 30000 (zDc (zAV M w) K L).V
theorem ran (hw : 0 < w) (hw12 : w ≤ 12) (hm : 0 < M.length) (hm12 : M.length ≤ 12) (hM : ∀ r ∈ M, r.length = w) (hD : ∀ r ∈ M, ∀ q ∈ r, D k q) (hk : k ≤ 48) {K L : Nat} (hs : Stops (zAV M w) K L) : Ran M w K L := by
 have hok := zFz hM
 obtain ⟨g0, gV, gX, gY, _⟩ := zLf hM hw hm (zN6 hok hs)
 have en := zId M w
 have em := zIc M w
 obtain ⟨d1, d2, _, d4⟩ := run_D hok (zLe hw hm hM hD) (by rw [em]; omega) hs
 have hW : (zAV M w).W (2 * k + 3) ≤ 30000 := by
  unfold Prog.W Prog.T Prog.E
  rw [en, em]
  have h1 : (2 * k + 3) * (w + 1) ≤ 99 * 13 := Nat.mul_le_mul (by omega) (by omega)
  have h2 : (2 * k + 3 + (2 * k + 3) * (w + 1) + 2) * (M.length + 1) ≤ 1388 * 13 := Nat.mul_le_mul (by omega) (by omega)
  omega
 exact ⟨g0, fun e => by rw [e] at gV; exact Rat.lt_irrefl gV, gX, gY, fun q hq => (d1 q hq).mono hW, fun q hq => (d2 q hq).mono hW, d4.mono hW⟩
end
end Go.Ax.Mg
namespace Go.Ax.Mg
open Go.Ax.Dt Go.Ax.Rt Go.Ax.Bg Go.Ax.Sx
theorem zCu {α : Type} (l : List α) (d : α) {i : Nat} (h : i < l.length) : l.take (i + 1) = l.take i ++ [l.getD i d] := by
 rw [List.take_succ_eq_append_getElem h]
 simp [List.getD, h]
theorem zNZ (a : Rat) (l : List Rat) {j : Nat} (h : j < l.length) : zAu a (l.take (j + 1)) = if zC7 (l.getD j 0) (zAu a (l.take j)) < 0 then l.getD j 0 else zAu a (l.take j) := by
 rw [zCu l 0 h]
 unfold zAu
 rw [List.foldl_append]; rfl
theorem zNY (a : Rat) (M : List (List Rat)) {i : Nat} (h : i < M.length) : (M.take (i + 1)).foldl zAu a = zAu ((M.take i).foldl zAu a) (M.getD i []) := by
 rw [zCu M [] h, List.foldl_append]; rfl
/-- the row of the program -/
def zFK (c : Rat) (l : List Rat) : List Rat := l.map (fun q => q + c)
theorem zQj (c : Rat) (l : List Rat) {j : Nat} (h : j < l.length) : zFK c (l.take (j + 1)) = zFK c (l.take j) ++ [l.getD j 0 + c] := by
 unfold zFK
 rw [zCu l 0 h, List.map_append]; rfl
theorem zM1 (c : Rat) (l : List Rat) : (zFK c l).length = l.length := List.length_map ..
theorem zQk (c : Rat) (M : List (List Rat)) {i : Nat} (h : i < M.length) : (M.take (i + 1)).map (zFK c) = (M.take i).map (zFK c) ++ [zFK c (M.getD i [])] := by
 rw [zCu M [] h, List.map_append]; rfl
theorem zLt (i : Nat) : List.replicate (i + 1) (1 : Rat) = List.replicate i 1 ++ [1] := List.replicate_succ'
def zFf (v : Rat) (l : List Rat) : List Rat := l.map (fun q => q / v)
theorem zLZ (v : Rat) (l : List Rat) {j : Nat} (h : j < l.length) : zFf v (l.take (j + 1)) = zFf v (l.take j) ++ [l.getD j 0 / v] := by
 unfold zFf
 rw [zCu l 0 h, List.map_append]; rfl
def zIX (c : List Rat) (M : List (List Rat)) : List Rat := M.map (fun row => zAM row c)
theorem zQ1 (c : List Rat) (M : List (List Rat)) {i : Nat} (h : i < M.length) : zIX c (M.take (i + 1)) = zIX c (M.take i) ++ [zAM (M.getD i []) c] := by
 unfold zIX
 rw [zCu M [] h, List.map_append]; rfl
theorem zPh {α : Type} (P : α → Bool) (d : α) (l : List α) (h : ∀ i, i < l.length → P (l.getD i d) = false) : l.any P = false := by
 rw [List.any_eq_false]
 intro x hx
 obtain ⟨i, hi, rfl⟩ := List.mem_iff_getElem.1 hx
 have := h i hi
 rw [show l.getD i d = l[i] by simp [List.getD, hi]] at this
 rw [this]; exact fun h => by cases h
theorem any_at {α : Type} (P : α → Bool) (d : α) (l : List α) {i : Nat} (hi : i < l.length) (h : P (l.getD i d) = true) : l.any P = true := by
 rw [List.any_eq_true]
 exact ⟨l.getD i d, by rw [show l.getD i d = l[i] by simp [List.getD, hi]]; exact List.getElem_mem hi, h⟩
def zID (x : List (List Rat)) (i o n : Nat) : Bool := (List.range n).all (fun k => decide (0 < zC7 ((x.getD o []).getD k 0) ((x.getD i []).getD k 0)))
theorem zOO (x : List (List Rat)) (i o n : Nat) : zID x i o (n + 1) = (zID x i o n && decide (0 < zC7 ((x.getD o []).getD n 0) ((x.getD i []).getD n 0))) := by
 unfold zID
 rw [List.range_succ, List.all_append]
 simp
def domB (x : List (List Rat)) (i : Nat) : Bool := (List.range x.length).any (fun o => zIC x i o)
theorem domB_yes (x : List (List Rat)) {i o : Nat} (ho : o < x.length) (h : zIC x i o = true) : domB x i = true := by
 unfold domB
 rw [List.any_eq_true]
 exact ⟨o, by simpa using ho, h⟩
theorem domB_no (x : List (List Rat)) {i : Nat} (h : ∀ o, o < x.length → zIC x i o = false) : domB x i = false := by
 unfold domB
 rw [List.any_eq_false]
 intro o ho
 rw [h o (by simpa using ho)]
 exact fun h => by cases h
def zIW (x : List (List Rat)) (i : Nat) : List Int := ((List.range i).filter (domB x)).map (fun j : Nat => (j : Int))
theorem zQ0 (x : List (List Rat)) (i : Nat) : zIW x (i + 1) = if domB x i = true then zIW x i ++ [(i : Int)] else zIW x i := by
 unfold zIW
 rw [List.range_succ, List.filter_append, List.map_append]
 by_cases h : domB x i = true
 ·rw [if_pos h, List.filter_cons_of_pos h]; rfl
 ·rw [if_neg h, List.filter_cons_of_neg h]; simp
theorem domI_len (x : List (List Rat)) (i : Nat) : (zIW x i).length ≤ i := by
 unfold zIW
 rw [List.length_map]
 exact Nat.le_trans (List.length_filter_le _ _) (by rw [List.length_range]; exact Nat.le_refl i)
theorem domI_all (x : List (List Rat)) : zIW x x.length = (domL x).map (fun j : Nat => (j : Int)) := rfl
def domR (m : List (List zn)) : List Int × Int := if zAx m ≠ 0 then ([], zAx m) else (zIW (inM m) m.length, 0)
def zCG (x : List (List Rat)) (i k n : Nat) : Bool := (List.range n).all (fun j => decide (0 ≤ zC7 ((x.getD i []).getD k 0) ((x.getD j []).getD k 0)))
def zFF (a b : zn) (l : List zn) : List zn := l.map (zJS a b)
theorem zOD (a b : zn) (l : List zn) {j : Nat} (h : j < l.length) : zFF a b (l.take (j + 1)) = zFF a b (l.take j) ++ [zJS a b (l.getD j [])] := by
 unfold zFF
 rw [zCu l [] h, List.map_append]; rfl
theorem zOE (a b : zn) (m : List (List zn)) {i : Nat} (h : i < m.length) : zBT a b (m.take (i + 1)) = zBT a b (m.take i) ++ [zFF a b (m.getD i [])] := by
 unfold zBT
 rw [zCu m [] h, List.map_append]; rfl
end Go.Ax.Mg
namespace Go.Ax
variable [Pins]
open Go.RowKit
/-- Does operation j wait, at last, for operation i? -/
def zNh (all : Array Oper) (idx : List Nat) : Nat → Nat → Nat → Bool
 | 0, _, _ => false
 | n + 1, j, i => match all[j]? with
  | some o => o.after.toList.any (fun e => Region.binds .any e && Nat.beq e.on i) || o.after.toList.any (fun e => Region.binds .any e && (idx.contains e.on && zNh all idx n e.on i))
  | none => false
theorem zLg {cur : Array Bool} {i : Nat} (h : cur.getD i false = true) : cur.getD i true = true := by
 have _p := ‹Pins›
 unfold Array.getD at h ⊢
 split at h
 ·rename_i q
  rw [dif_pos q]; exact h
 ·cases h
theorem zHz {all : Array Oper} {idx : List Nat} {cur : Array Bool} (hcl : ∀ m' ∈ idx, cur.getD m' true = true → ∀ o, all[m']? = some o → ∀ e ∈ o.after, Region.binds .any e = true → cur.getD e.on false = true) :
 ∀ (n j i : Nat), zNh all idx n j i = true → (∀ o, all[j]? = some o → ∀ e ∈ o.after, Region.binds .any e = true → cur.getD e.on false = true) → cur.getD i true = true
 | 0, _, _, h, _ => by cases h
 | n + 1, j, i, h, hd => by
  have _p := ‹Pins›
  rw [zNh] at h
  split at h
  ·rename_i o ho
   rw [Bool.or_eq_true] at h
   rcases h with h | h
   ·obtain ⟨e, he1, he2⟩ := List.any_eq_true.1 h
    rw [Bool.and_eq_true] at he2
    have h3 := hd o ho e (Array.mem_toList_iff.1 he1) he2.1
    rw [Nat.eq_of_beq_eq_true he2.2] at h3
    exact zLg h3
   ·obtain ⟨e, he1, he2⟩ := List.any_eq_true.1 h
    simp only [Bool.and_eq_true] at he2
    have h3 := zLg (hd o ho e (Array.mem_toList_iff.1 he1) he2.1)
    have hm : e.on ∈ idx := by simpa using he2.2.1
    exact zHz hcl n e.on i he2.2.2 (hcl e.on hm h3)
  ·cases h
theorem zN9 {cur : Array Bool} {i j : Nat} (h : cur.getD j false = true) : (cur.setIfInBounds i true).getD j false = true := by
 have _p := ‹Pins›
 simp only [Array.getD_eq_getD_getElem?, Array.getElem?_setIfInBounds] at h ⊢
 split
 ·split
  ·rfl
  ·rename_i h1 h2
   subst h1
   rw [Array.getElem?_eq_none (by omega)] at h
   cases h
 ·exact h
theorem zLT {all : Array Oper} {idx : List Nat} {cur : Array Bool} {i : Nat} (_hi : i ∈ idx) (hcl : ∀ m' ∈ idx, cur.getD m' true = true → ∀ o, all[m']? = some o → ∀ e ∈ o.after, Region.binds .any e = true → cur.getD e.on false = true)
 (hd : ∀ o, all[i]? = some o → ∀ e ∈ o.after, Region.binds .any e = true → cur.getD e.on false = true) :
 ∀ m' ∈ idx, (cur.setIfInBounds i true).getD m' true = true → ∀ o, all[m']? = some o → ∀ e ∈ o.after, Region.binds .any e = true → (cur.setIfInBounds i true).getD e.on false = true := by
 have _p := ‹Pins›
 intro m' hm' hu o ho e he hb
 by_cases h : m' = i
 ·subst h
  exact zN9 (hd o ho e he hb)
 ·refine zN9 (hcl m' hm' ?_ o ho e he hb)
  have h' : ¬ i = m' := fun q => h q.symm
  simpa [Array.getD_eq_getD_getElem?, Array.getElem?_setIfInBounds, h'] using hu
/-- May these operations run in any order, ahead of all others? -/
def okRunT (all : Array Oper) (listed : Array Bool) (idx : List Nat) (k0 : List Nat) : Bool :=
 (idx.all fun i => !listed.getD i true && (match all[i]? with
  | some o => (match o.dst with | some d => !k0.contains d | none => false) && o.after.toList.all (fun e => !Region.binds .any e || (Nat.blt e.on i && (idx.contains e.on || listed.getD e.on false)))
  | none => false)) &&
 ((List.range all.size).all fun j => idx.contains j || listed.getD j true || idx.all (fun i => zNh all idx (idx.length + 1) j i)) &&
 (idx.all fun i => idx.all fun j => Nat.beq i j || !(match all[i]?, all[j]? with | some o, some o' => o.dst == o'.dst | _, _ => false))
section
variable {P : Program} {fn : Func} {c : Ctx} {fr : Fr} {H : zN} {k : List It}
theorem zCr {all : Array Oper} {fuel : Nat} {listed listed' : Array Bool} (idx : List Nat) (K0 : Fr) (hK : zCE fr K0) (hok : okRunT all listed idx (K0.map (·.1)) = true) (hnd : idx.Nodup) (hd : zDQ fn.ntmps all.toList = true) (hl : zGW listed idx = listed')
 (h : zEF P fn c H all K0 idx [] (fun st => Ax P fn c (.any all fuel listed' k) (st.map (·.2) ++ K0) H)) : Ax P fn c (.any all (fuel + idx.length) listed k) fr H := by
 obtain ⟨st, hG, hidx, hst⟩ := zGR h (fun s hs => by simp at hs)
 rw [List.map_nil, List.append_nil] at hidx
 clear h
 unfold okRunT at hok
 simp only [Bool.and_eq_true] at hok
 obtain ⟨⟨ok1, ok2⟩, ok3⟩ := hok
 rw [List.all_eq_true] at ok1 ok2 ok3
 have hmem : ∀ i, i ∈ idx ↔ ∃ s ∈ st, s.1 = i := fun i => by
  have : i ∈ idx.reverse ↔ ∃ s ∈ st, s.1 = i := by rw [← hidx]; simp
  rw [← this, List.mem_reverse]
 have hlen : st.length = idx.length := by
  have := congrArg List.length hidx
  simpa using this
 have hnd' : (st.map (·.1)).Nodup := by rw [hidx]; exact (List.reverse_perm idx).nodup_iff.2 hnd
 have hlt : ∀ i ∈ idx, i < listed.size := fun i hi => by
  have := ok1 i hi
  simp only [Bool.and_eq_true, Bool.not_eq_true'] at this
  rcases Nat.lt_or_ge i listed.size with q | q
  ·exact q
  ·have h1 := this.1
   simp only [Array.getD, show ¬ i < listed.size by omega, dite_false] at h1
   cases h1
 -- the induction
 have key : ∀ (m : Nat) (cur : Array Bool) (fr : Fr), cur.size = listed.size → (∀ j, j ∉ idx → cur[j]? = listed[j]?) → unl cur st = m → (∀ s ∈ st, cur.getD s.1 true = true → look s.2.1 fr = some s.2.2) → zCE fr K0 → (∀ m' ∈ idx, cur.getD m' true = true → ∀ o, all[m']? = some o → ∀ e ∈ o.after, Region.binds .any e = true → cur.getD e.on false = true) → Ax P fn c (.any all (fuel + m) cur k) fr H := by
  intro m
  induction m with
  | zero =>
   intro cur fr hcs hco hcm hck hk0 hcl
   have hall : ∀ s ∈ st, cur.getD s.1 true = true := fun s hs => by
    cases hq : cur.getD s.1 true with
    | true => rfl
    | false =>
     exfalso
     have h0 : st.filter (fun s => !cur.getD s.1 true) = [] := List.length_eq_zero_iff.1 hcm
     have : s ∈ st.filter (fun s => !cur.getD s.1 true) := List.mem_filter.2 ⟨hs, by rw [hq]; rfl⟩
     rw [h0] at this; simp at this
   have hcur : cur = listed' := by
    rw [← hl]
    apply Array.ext_getElem?
    intro j
    rcases Nat.lt_or_ge j listed.size with q | q
    ·rw [zGX idx listed j q]
     by_cases hj : j ∈ idx
     ·rw [if_pos hj]
      obtain ⟨s, hs1, hs2⟩ := (hmem j).1 hj
      have := hall s hs1
      rw [hs2] at this
      simp only [Array.getD, show j < cur.size by omega, dite_true] at this
      rw [Array.getElem?_eq_getElem (by omega)]
      exact congrArg some this
     ·rw [if_neg hj]; exact hco j hj
    ·rw [Array.getElem?_eq_none (by omega), Array.getElem?_eq_none (by rw [zFX]; omega)]
   subst hcur
   intro w a σ S hr
   refine hG w a σ S (hr.weaken (zDG fun p hp => ?_))
   rcases List.mem_append.1 hp with q | q
   ·obtain ⟨s, q1, q2⟩ := List.mem_map.1 q
    rw [← q2]; exact hck s q1 (hall s q1)
   ·exact zDH hk0 p q
  | succ m ih =>
   intro cur fr hcs hco hcm hck hk0 hcl
   -- some step is left
   obtain ⟨s0, hs0, hs0u⟩ : ∃ s ∈ st, cur.getD s.1 true = false := by
    rcases hq : st.filter (fun s => !cur.getD s.1 true) with _ | ⟨s, r⟩
    ·unfold unl at hcm; rw [hq] at hcm; simp at hcm
    ·have : s ∈ st.filter (fun s => !cur.getD s.1 true) := by rw [hq]; simp
     obtain ⟨h1, h2⟩ := List.mem_filter.1 this
     exact ⟨s, h1, by simpa using h2⟩
   have hsub : ∀ i ∈ Region.ready .any all cur, i ∈ idx ∧ cur.getD i true = false := by
    intro i hi
    obtain ⟨h1, o, ho, hdeps⟩ := mem_ready.1 hi
    refine ⟨?_, h1⟩
    apply Classical.byContradiction
    intro hni
    have hjs : i < all.size := (Array.getElem?_eq_some_iff.1 ho).1
    have := ok2 i (List.mem_range.2 hjs)
    simp only [Bool.or_eq_true, ho] at this
    rcases this with (q | q) | q
    ·exact hni (by simpa using q)
    ·have hco' := hco i hni
     have h2 : listed.getD i true = cur.getD i true := by
      simp only [Array.getD_eq_getD_getElem?, hco']
     rw [h2, h1] at q; cases q
    ·rw [List.all_eq_true] at q
     have h3 := zHz hcl _ i s0.1 (q s0.1 ((hmem s0.1).2 ⟨s0, hs0, rfl⟩)) (fun o' ho' e he hb => by
      rw [ho] at ho'
      obtain rfl := Option.some.inj ho'
      exact hdeps e he hb)
     rw [h3] at hs0u; cases hs0u
   have hne : Region.ready .any all cur ≠ [] := by
    intro h0
    -- the least one that is left
    have hex : ∃ i, i ∈ idx ∧ cur.getD i true = false := ⟨s0.1, (hmem s0.1).2 ⟨s0, hs0, rfl⟩, hs0u⟩
    have least : ∀ n i, i ≤ n → i ∈ idx → cur.getD i true = false → False := by
     intro n
     induction n with
     | zero =>
      intro i hi him hiu
      have h1 := ok1 i him
      simp only [Bool.and_eq_true] at h1
      cases hoo : all[i]? with
      | none => rw [hoo] at h1; exact absurd h1.2 (by simp)
      | some o =>
       rw [hoo] at h1
       simp only [Bool.and_eq_true] at h1
       have h2 := List.all_eq_true.1 h1.2.2
       have : i ∈ Region.ready .any all cur := mem_ready.2 ⟨hiu, o, hoo, fun e he hb => by
        have := h2 e (Array.mem_toList_iff.2 he)
        rw [hb] at this
        simp only [Bool.not_true, Bool.false_or, Bool.and_eq_true] at this
        have := Nat.le_of_ble_eq_true this.1
        omega⟩
       rw [h0] at this; simp at this
     | succ n ihn =>
      intro i hi him hiu
      have h1 := ok1 i him
      simp only [Bool.and_eq_true] at h1
      cases hoo : all[i]? with
      | none => rw [hoo] at h1; exact absurd h1.2 (by simp)
      | some o =>
       rw [hoo] at h1
       simp only [Bool.and_eq_true] at h1
       have h2 := List.all_eq_true.1 h1.2.2
       have : i ∈ Region.ready .any all cur := mem_ready.2 ⟨hiu, o, hoo, fun e he hb => by
        have h3 := h2 e (Array.mem_toList_iff.2 he)
        rw [hb] at h3
        simp only [Bool.not_true, Bool.false_or, Bool.and_eq_true, Bool.or_eq_true] at h3
        have hlt' : e.on < i := Nat.le_of_ble_eq_true h3.1
        by_cases hei : e.on ∈ idx
        ·cases hq : cur.getD e.on true with
         | false => exact (ihn e.on (by omega) hei hq).elim
         | true =>
          have hsz := hlt e.on hei
          simp only [Array.getD, show e.on < cur.size by omega, dite_true] at hq ⊢
          exact hq
        ·rcases h3.2 with q | q
         ·exact absurd (by simpa using q) hei
         ·have h2 : cur.getD e.on false = listed.getD e.on false := by simp only [Array.getD_eq_getD_getElem?, hco e.on hei]
          rw [h2]; exact q⟩
       rw [h0] at this; simp at this
    obtain ⟨i, hi1, hi2⟩ := hex
    exact least i i (Nat.le_refl _) hi1 hi2
   refine zF Z hne hd (zJv (fun i hi o ho => ?_))
   obtain ⟨him, hiu⟩ := hsub i hi
   obtain ⟨s, hs1, hs2⟩ := (hmem i).1 him
   obtain ⟨o', K, g1, g2, g3, g4⟩ := hst s hs1
   rw [hs2, ho] at g1
   obtain rfl := Option.some.inj g1
   obtain ⟨_, o2, ho2, hdeps⟩ := mem_ready.1 hi
   rw [ho] at ho2
   obtain rfl := Option.some.inj ho2
   refine g3 _ fr (zDG fun p hp => ?_) (zR (zAF ?_))
   ·rcases g4 p hp with q | ⟨s', q1, ⟨e, q2, q3, q4⟩, q5⟩
    ·exact zDH hk0 p q
    ·have h1 := hdeps e q2 q3
     rw [q4] at h1
     rw [← q5]
     refine hck s' q1 ?_
     have hsz := hlt s'.1 ((hmem s'.1).2 ⟨s', q1, rfl⟩)
     simp only [Array.getD, show s'.1 < cur.size by omega, dite_true] at h1 ⊢
     exact h1
   ·have hisz := hlt i him
    refine ih (cur.setIfInBounds i true) _ (by simpa using hcs) (fun j hj => ?_) ?_ (fun s' hs' hu => ?_) ?_ (zLT him hcl (fun o' ho' e he hb => by rw [ho] at ho'; obtain rfl := Option.some.inj ho'; exact hdeps e he hb))
    ·rw [Array.getElem?_setIfInBounds_ne (show i ≠ j from fun e => hj (e ▸ him))]; exact hco j hj
    ·-- one less
     have hf : st.filter (fun s' => !(cur.setIfInBounds i true).getD s'.1 true) = (st.filter (fun s' => !cur.getD s'.1 true)).filter (fun s' => decide (s'.1 ≠ i)) := by
      rw [List.filter_filter]
      congr 1
      funext s'
      by_cases hq : s'.1 = i
      ·rw [hq]; simp [Array.getD, show i < cur.size by omega]
      ·have hq' : ¬ i = s'.1 := fun e => hq e.symm
       simp [Array.getD_eq_getD_getElem?, Array.getElem?_setIfInBounds, hq, hq']
     unfold unl at hcm ⊢
     rw [hf]
     have hmemf : s ∈ st.filter (fun s' => !cur.getD s'.1 true) := List.mem_filter.2 ⟨hs1, by rw [hs2, hiu]; rfl⟩
     have hndf : ((st.filter (fun s' => !cur.getD s'.1 true)).map (·.1)).Nodup := List.Nodup.sublist (List.Sublist.map _ List.filter_sublist) hnd'
     revert hcm hmemf hndf
     generalize st.filter (fun s' => !cur.getD s'.1 true) = L
     intro hcm hmemf hndf
     have gen : ∀ (L : Steps) (n : Nat), L.length = n + 1 → s ∈ L → (L.map (·.1)).Nodup → (L.filter (fun s' => decide (s'.1 ≠ i))).length = n := by
      intro L
      induction L with
      | nil => intro n h; simp at h
      | cons x r ihL =>
       intro n hn hm hnd
       simp only [List.map_cons, List.nodup_cons] at hnd
       rcases List.mem_cons.1 hm with rfl | hm
       ·have hno : ∀ y ∈ r, y.1 ≠ i := fun y hy e => hnd.1 (List.mem_map.2 ⟨y, hy, by rw [e, hs2]⟩)
        have : (r.filter (fun s' => decide (s'.1 ≠ i))) = r := List.filter_eq_self.2 (fun y hy => by simpa using hno y hy)
        rw [List.filter_cons_of_neg (by simp [hs2]), this]
        simpa using hn
       ·have hx : x.1 ≠ i := fun e => hnd.1 (List.mem_map.2 ⟨s, hm, by rw [hs2, e]⟩)
        have hr0 : 0 < r.length := List.length_pos_iff.2 (by rintro rfl; simp at hm)
        obtain ⟨n', rfl⟩ : ∃ n', n = n' + 1 := ⟨n - 1, by simp at hn; omega⟩
        rw [List.filter_cons_of_pos (by simpa using hx), List.length_cons, ihL n' (by simpa using hn) hm hnd.2]
     exact gen L m hcm hmemf hndf
    ·by_cases hq : s'.1 = i
     ·have : s' = s := by
       have h1 : s ∈ st := hs1
       have hinj : ∀ (L : Steps), (L.map (·.1)).Nodup → ∀ x ∈ L, ∀ y ∈ L, x.1 = y.1 → x = y := by
        intro L
        induction L with
        | nil => intro _ x hx; simp at hx
        | cons z r ihL =>
         intro hnd x hx y hy hxy
         simp only [List.map_cons, List.nodup_cons] at hnd
         rcases List.mem_cons.1 hx with hx | hx <;> rcases List.mem_cons.1 hy with hy | hy
         ·rw [hx, hy]
         ·exact absurd (List.mem_map.2 ⟨y, hy, by rw [← hxy, hx]⟩) hnd.1
         ·exact absurd (List.mem_map.2 ⟨x, hx, by rw [hxy, hy]⟩) hnd.1
         ·exact ihL hnd.2 x hx y hy hxy
       exact hinj st hnd' s' hs' s hs1 (by rw [hq, hs2])
      rw [this]
      exact zMg _ _ _
     ·have h1 : cur.getD s'.1 true = true := by
       have hq' : ¬ i = s'.1 := fun e => hq e.symm
       simpa [Array.getD_eq_getD_getElem?, Array.getElem?_setIfInBounds, hq'] using hu
      have h2 := hck s' hs' h1
      -- another slot
      have hne2 : s'.2.1 ≠ s.2.1 := by
       intro e
       obtain ⟨o3, _, f1, f2, _, _⟩ := hst s' hs'
       have h3 := List.all_eq_true.1 (ok3 s'.1 ((hmem s'.1).2 ⟨s', hs', rfl⟩)) i him
       rw [f1, ho] at h3
       simp only [Bool.or_eq_true, Bool.not_eq_true', f2, g2] at h3
       rcases h3 with h3 | h3
       ·exact hq (Nat.eq_of_beq_eq_true h3)
       ·rw [e] at h3; simp at h3
      show (bif Nat.beq s'.2.1 s.2.1 then some s.2.2 else look s'.2.1 fr) = _
      rw [zr hne2]; exact h2
    ·refine zDG fun p hp => ?_
     have h1 := ok1 i him
     simp only [Bool.and_eq_true] at h1
     rw [ho] at h1
     simp only [g2, Bool.and_eq_true, Bool.not_eq_true'] at h1
     have hne3 : p.1 ≠ s.2.1 := by
      intro e
      have : (K0.map (·.1)).contains s.2.1 = true := by
       rw [List.contains_iff_mem]
       exact List.mem_map.2 ⟨p, hp, e⟩
      rw [h1.2.1] at this; cases this
     show (bif Nat.beq p.1 s.2.1 then some s.2.2 else look p.1 fr) = _
     rw [zr hne3]; exact zDH hk0 p hp
 have hm0 : unl listed st = idx.length := by
  unfold unl
  rw [List.filter_eq_self.2 (fun s hs => ?_), hlen]
  have := ok1 s.1 ((hmem s.1).2 ⟨s, hs, rfl⟩)
  simp only [Bool.and_eq_true] at this
  exact this.1
 have := key idx.length listed fr rfl (fun _ _ => rfl) hm0 (fun s hs hu => by
  have h1 := ok1 s.1 ((hmem s.1).2 ⟨s, hs, rfl⟩)
  simp only [Bool.and_eq_true, Bool.not_eq_true'] at h1
  rw [h1.1] at hu; cases hu) hK (fun m' hm' hu => by
  have h1 := ok1 m' hm'
  simp only [Bool.and_eq_true, Bool.not_eq_true'] at h1
  rw [h1.1] at hu; cases hu)
 exact this
end
end Go.Ax
namespace Go.Ax
variable [Pins]
open Go.RowKit
theorem zHl {P : Program} {fn : Func} {c : Ctx} {H : zN} {all : Array Oper} {K0 : Fr} {i : Nat} {r : List Nat} {st : Steps} {G : Steps → Prop} {d : Nat} {g : Operand} {args : List Operand} {ats : Array TypeId} {ty : TypeId} {pos : String} {after : Array Edge} {f : FuncId} {caps ags ags' : List AV} {v : AV} {K : Fr} {j t : Nat} {p : Bool}
 (hi : all[i]? = some ⟨some d, .call { callee := .value g, args := args.toArray, argTypes := ats }, ty, pos, after, some (j, p)⟩)
 (hK : zFy st K0 ⟨some d, .call { callee := .value g, args := args.toArray, argTypes := ats }, ty, pos, after, some (j, p)⟩ = K) (hy : zEe all j = some t) (hb : look t K = some (.bool p)) (hg : ev K g = some (.fn f caps)) (ha : evs K args = some ags) (has : ags ++ caps = ags') (hcall : zU P f ags' v)
 (h : zEF P fn c H all K0 r ((i, d, v) :: st) G) : zEF P fn c H all K0 (i :: r) st G :=
 ⟨_, _, _, hi, rfl, hK ▸ zJN hy hb (pure_v hg ha has hcall), h⟩
end Go.Ax
namespace Go.Ax.Rt
open Go.Ax.Bg Go.Ax.Dt
def allV : List zn → List Rat → Bool
 | [], [] => true
 | s :: r, q :: t => decide (IsQ s q) && allV r t
 | _, _ => false
theorem zM3 : ∀ {s : List zn} {l : List Rat}, allV s l = true → l.map zt = s ∧ l.all zBp = true
 | [], [], _ => ⟨rfl, rfl⟩
 | [], _ :: _, h => by cases h
 | _ :: _, [], h => by cases h
 | a :: r, q :: t, h => by
  simp only [allV, Bool.and_eq_true, decide_eq_true_eq] at h
  obtain ⟨h1, h2⟩ := zM3 h.2
  refine ⟨by rw [List.map_cons, h.1.text, h1], ?_⟩
  rw [List.all_cons, h.1.fit, h2]; rfl
end Go.Ax.Rt
namespace Go.Ax.Mg
open Go.Ax.Dt Go.Ax.Rt Go.Ax.Bg Go.Ax.Sx
def zDs : List (List zn) := [[[49], [45, 49]], [[45, 49], [49]]]
def sadT : List (List zn) := [[[50], [51]], [[49], [48]]]
def zAm : zn := [49, 47, 50]
theorem zKX : zAx zDs = 0 := by decide +kernel
theorem zRT : Stops (zAV (inM zDs) (zAJ zDs)) 0 2 := by
 refine ⟨fun h => absurd h (by decide +kernel), fun _ => ?_⟩
 exact Option.isNone_iff_eq_none.1 (by decide +kernel)
theorem pen_v : (zAl (inM zDs) (zAJ zDs) 0 2).1 = 0 := by decide +kernel
theorem pen_r : (zAl (inM zDs) (zAJ zDs) 0 2).2.1 = [Rat.divInt 1 2, Rat.divInt 1 2] := by decide +kernel
theorem pen_c : (zAl (inM zDs) (zAJ zDs) 0 2).2.2 = [Rat.divInt 1 2, Rat.divInt 1 2] := by decide +kernel
theorem pen_q : zAl (inM zDs) (zAJ zDs) 0 2 = (0, [Rat.divInt 1 2, Rat.divInt 1 2], [Rat.divInt 1 2, Rat.divInt 1 2]) := by
 have h1 := pen_v
 have h2 := pen_r
 have h3 := pen_c
 generalize zAl (inM zDs) (zAJ zDs) 0 2 = r at *
 obtain ⟨a, b, c⟩ := r
 simp only at *
 subst h1 h2 h3
 rfl
theorem zRS : zFG zDs 0 2 = (([48], [zAm, zAm], [zAm, zAm]), 0) := by
 have h : allV [[48], zAm, zAm, zAm, zAm] [0, Rat.divInt 1 2, Rat.divInt 1 2, Rat.divInt 1 2, Rat.divInt 1 2] = true := by decide +kernel
 obtain ⟨h1, h2⟩ := zM3 h
 unfold zFG
 rw [pen_q, if_neg (fun q => q zKX), if_pos (show zLd (0, [Rat.divInt 1 2, Rat.divInt 1 2], [Rat.divInt 1 2, Rat.divInt 1 2]) = true from h2)]
 have e1 : zt 0 = [48] := (List.cons.inj h1).1
 have e2 : zt (Rat.divInt 1 2) = zAm := (List.cons.inj (List.cons.inj h1).2).1
 show ((zt 0, [zt (Rat.divInt 1 2), zt (Rat.divInt 1 2)], [zt (Rat.divInt 1 2), zt (Rat.divInt 1 2)]), (0 : Int)) = _
 rw [e1, e2]
theorem pen_pay : payG zDs [[49], [48]] [[49], [48]] = ([49], 0) := by
 have h : IsQ [49] (zAM ([[49], [48]].map zv) ((inM zDs).map (fun row => zAM row ([[49], [48]].map zv)))) := by decide +kernel
 unfold payG
 rw [if_neg (by decide +kernel), if_neg (by decide +kernel), h.out]
theorem pen_ver : verG zDs [48] [zAm, zAm] [zAm, zAm] = 0 := by decide +kernel
theorem pen_bad : verG zDs [49] [zAm, zAm] [zAm, zAm] = 16 := by decide +kernel
theorem sad_dom : domL (inM sadT) = [1] := by decide +kernel
theorem zN7 : zAx sadT = 0 := by decide +kernel
end Go.Ax.Mg
namespace Go.Ax
variable [Pins]
open Go.RowKit
section
variable {P : Program} {fn : Func} {c : Ctx} {fr : Fr} {H : zN} {k : List It} {ind : Bool} {d : Option Nat} {ty : TypeId} {pos : String} {after : Array Edge} {g : Option (Nat × Bool)}
end
end Go.Ax
namespace Go.Ax
variable [Pins]
open Go.RowKit
/-- Does operation j wait, at last, for operation i? -/
def waitsU (all : Array Oper) (listed : Array Bool) (idx : List Nat) (j : Nat) : Bool := match all[j]? with
 | some o => o.after.toList.any (fun e => Region.binds .any e && (!idx.contains e.on && !listed.getD e.on true))
 | none => false
/-- May these operations run in any order, ahead of all others? -/
def okRunU (all : Array Oper) (listed : Array Bool) (idx : List Nat) (k0 : List Nat) : Bool :=
 (idx.all fun i => !listed.getD i true && (match all[i]? with
  | some o => (match o.dst with | some d => !k0.contains d | none => false) && o.after.toList.all (fun e => !Region.binds .any e || (Nat.blt e.on i && (idx.contains e.on || listed.getD e.on false)))
  | none => false)) &&
 ((List.range all.size).all fun j => idx.contains j || listed.getD j true || idx.all (fun i => zNh all idx (idx.length + 1) j i) || waitsU all listed idx j) &&
 (idx.all fun i => idx.all fun j => Nat.beq i j || !(match all[i]?, all[j]? with | some o, some o' => o.dst == o'.dst | _, _ => false))
section
variable {P : Program} {fn : Func} {c : Ctx} {fr : Fr} {H : zN} {k : List It}
theorem zFN {all : Array Oper} {fuel : Nat} {listed listed' : Array Bool} (idx : List Nat) (K0 : Fr) (hK : zCE fr K0) (hok : okRunU all listed idx (K0.map (·.1)) = true) (hnd : idx.Nodup) (hd : zDQ fn.ntmps all.toList = true) (hl : zGW listed idx = listed')
 (h : zEF P fn c H all K0 idx [] (fun st => Ax P fn c (.any all fuel listed' k) (st.map (·.2) ++ K0) H)) : Ax P fn c (.any all (fuel + idx.length) listed k) fr H := by
 obtain ⟨st, hG, hidx, hst⟩ := zGR h (fun s hs => by simp at hs)
 rw [List.map_nil, List.append_nil] at hidx
 clear h
 unfold okRunU at hok
 simp only [Bool.and_eq_true] at hok
 obtain ⟨⟨ok1, ok2⟩, ok3⟩ := hok
 rw [List.all_eq_true] at ok1 ok2 ok3
 have hmem : ∀ i, i ∈ idx ↔ ∃ s ∈ st, s.1 = i := fun i => by
  have : i ∈ idx.reverse ↔ ∃ s ∈ st, s.1 = i := by rw [← hidx]; simp
  rw [← this, List.mem_reverse]
 have hlen : st.length = idx.length := by
  have := congrArg List.length hidx
  simpa using this
 have hnd' : (st.map (·.1)).Nodup := by rw [hidx]; exact (List.reverse_perm idx).nodup_iff.2 hnd
 have hlt : ∀ i ∈ idx, i < listed.size := fun i hi => by
  have := ok1 i hi
  simp only [Bool.and_eq_true, Bool.not_eq_true'] at this
  rcases Nat.lt_or_ge i listed.size with q | q
  ·exact q
  ·have h1 := this.1
   simp only [Array.getD, show ¬ i < listed.size by omega, dite_false] at h1
   cases h1
 -- the induction
 have key : ∀ (m : Nat) (cur : Array Bool) (fr : Fr), cur.size = listed.size → (∀ j, j ∉ idx → cur[j]? = listed[j]?) → unl cur st = m → (∀ s ∈ st, cur.getD s.1 true = true → look s.2.1 fr = some s.2.2) → zCE fr K0 → (∀ m' ∈ idx, cur.getD m' true = true → ∀ o, all[m']? = some o → ∀ e ∈ o.after, Region.binds .any e = true → cur.getD e.on false = true) → Ax P fn c (.any all (fuel + m) cur k) fr H := by
  intro m
  induction m with
  | zero =>
   intro cur fr hcs hco hcm hck hk0 hcl
   have hall : ∀ s ∈ st, cur.getD s.1 true = true := fun s hs => by
    cases hq : cur.getD s.1 true with
    | true => rfl
    | false =>
     exfalso
     have h0 : st.filter (fun s => !cur.getD s.1 true) = [] := List.length_eq_zero_iff.1 hcm
     have : s ∈ st.filter (fun s => !cur.getD s.1 true) := List.mem_filter.2 ⟨hs, by rw [hq]; rfl⟩
     rw [h0] at this; simp at this
   have hcur : cur = listed' := by
    rw [← hl]
    apply Array.ext_getElem?
    intro j
    rcases Nat.lt_or_ge j listed.size with q | q
    ·rw [zGX idx listed j q]
     by_cases hj : j ∈ idx
     ·rw [if_pos hj]
      obtain ⟨s, hs1, hs2⟩ := (hmem j).1 hj
      have := hall s hs1
      rw [hs2] at this
      simp only [Array.getD, show j < cur.size by omega, dite_true] at this
      rw [Array.getElem?_eq_getElem (by omega)]
      exact congrArg some this
     ·rw [if_neg hj]; exact hco j hj
    ·rw [Array.getElem?_eq_none (by omega), Array.getElem?_eq_none (by rw [zFX]; omega)]
   subst hcur
   intro w a σ S hr
   refine hG w a σ S (hr.weaken (zDG fun p hp => ?_))
   rcases List.mem_append.1 hp with q | q
   ·obtain ⟨s, q1, q2⟩ := List.mem_map.1 q
    rw [← q2]; exact hck s q1 (hall s q1)
   ·exact zDH hk0 p q
  | succ m ih =>
   intro cur fr hcs hco hcm hck hk0 hcl
   -- some step is left
   obtain ⟨s0, hs0, hs0u⟩ : ∃ s ∈ st, cur.getD s.1 true = false := by
    rcases hq : st.filter (fun s => !cur.getD s.1 true) with _ | ⟨s, r⟩
    ·unfold unl at hcm; rw [hq] at hcm; simp at hcm
    ·have : s ∈ st.filter (fun s => !cur.getD s.1 true) := by rw [hq]; simp
     obtain ⟨h1, h2⟩ := List.mem_filter.1 this
     exact ⟨s, h1, by simpa using h2⟩
   have hsub : ∀ i ∈ Region.ready .any all cur, i ∈ idx ∧ cur.getD i true = false := by
    intro i hi
    obtain ⟨h1, o, ho, hdeps⟩ := mem_ready.1 hi
    refine ⟨?_, h1⟩
    apply Classical.byContradiction
    intro hni
    have hjs : i < all.size := (Array.getElem?_eq_some_iff.1 ho).1
    have := ok2 i (List.mem_range.2 hjs)
    simp only [Bool.or_eq_true, ho] at this
    rcases this with ((q | q) | q) | q
    ·exact hni (by simpa using q)
    ·have hco' := hco i hni
     have h2 : listed.getD i true = cur.getD i true := by
      simp only [Array.getD_eq_getD_getElem?, hco']
     rw [h2, h1] at q; cases q
    ·rw [List.all_eq_true] at q
     have h3 := zHz hcl _ i s0.1 (q s0.1 ((hmem s0.1).2 ⟨s0, hs0, rfl⟩)) (fun o' ho' e he hb => by
      rw [ho] at ho'
      obtain rfl := Option.some.inj ho'
      exact hdeps e he hb)
     rw [h3] at hs0u; cases hs0u
    ·unfold waitsU at q
     rw [ho] at q
     obtain ⟨e, he1, he2⟩ := List.any_eq_true.1 q
     simp only [Bool.and_eq_true, Bool.not_eq_true'] at he2
     obtain ⟨hb, hne, hnl⟩ := he2
     have hni' : e.on ∉ idx := fun q => by
      have : idx.contains e.on = true := by simpa using q
      rw [this] at hne; cases hne
     have hd1 := hdeps e (Array.mem_toList_iff.1 he1) hb
     have hco' := hco e.on hni'
     rw [Array.getD_eq_getD_getElem?] at hd1 hnl
     rw [hco'] at hd1
     cases hx : listed[e.on]? with
     | none => rw [hx] at hd1; cases hd1
     | some b =>
      rw [hx] at hd1 hnl
      have e1 : b = true := hd1
      have e2 : b = false := hnl
      rw [e1] at e2; cases e2
   have hne : Region.ready .any all cur ≠ [] := by
    intro h0
    -- the least one that is left
    have hex : ∃ i, i ∈ idx ∧ cur.getD i true = false := ⟨s0.1, (hmem s0.1).2 ⟨s0, hs0, rfl⟩, hs0u⟩
    have least : ∀ n i, i ≤ n → i ∈ idx → cur.getD i true = false → False := by
     intro n
     induction n with
     | zero =>
      intro i hi him hiu
      have h1 := ok1 i him
      simp only [Bool.and_eq_true] at h1
      cases hoo : all[i]? with
      | none => rw [hoo] at h1; exact absurd h1.2 (by simp)
      | some o =>
       rw [hoo] at h1
       simp only [Bool.and_eq_true] at h1
       have h2 := List.all_eq_true.1 h1.2.2
       have : i ∈ Region.ready .any all cur := mem_ready.2 ⟨hiu, o, hoo, fun e he hb => by
        have := h2 e (Array.mem_toList_iff.2 he)
        rw [hb] at this
        simp only [Bool.not_true, Bool.false_or, Bool.and_eq_true] at this
        have := Nat.le_of_ble_eq_true this.1
        omega⟩
       rw [h0] at this; simp at this
     | succ n ihn =>
      intro i hi him hiu
      have h1 := ok1 i him
      simp only [Bool.and_eq_true] at h1
      cases hoo : all[i]? with
      | none => rw [hoo] at h1; exact absurd h1.2 (by simp)
      | some o =>
       rw [hoo] at h1
       simp only [Bool.and_eq_true] at h1
       have h2 := List.all_eq_true.1 h1.2.2
       have : i ∈ Region.ready .any all cur := mem_ready.2 ⟨hiu, o, hoo, fun e he hb => by
        have h3 := h2 e (Array.mem_toList_iff.2 he)
        rw [hb] at h3
        simp only [Bool.not_true, Bool.false_or, Bool.and_eq_true, Bool.or_eq_true] at h3
        have hlt' : e.on < i := Nat.le_of_ble_eq_true h3.1
        by_cases hei : e.on ∈ idx
        ·cases hq : cur.getD e.on true with
         | false => exact (ihn e.on (by omega) hei hq).elim
         | true =>
          have hsz := hlt e.on hei
          simp only [Array.getD, show e.on < cur.size by omega, dite_true] at hq ⊢
          exact hq
        ·rcases h3.2 with q | q
         ·exact absurd (by simpa using q) hei
         ·have h2 : cur.getD e.on false = listed.getD e.on false := by simp only [Array.getD_eq_getD_getElem?, hco e.on hei]
          rw [h2]; exact q⟩
       rw [h0] at this; simp at this
    obtain ⟨i, hi1, hi2⟩ := hex
    exact least i i (Nat.le_refl _) hi1 hi2
   refine zF Z hne hd (zJv (fun i hi o ho => ?_))
   obtain ⟨him, hiu⟩ := hsub i hi
   obtain ⟨s, hs1, hs2⟩ := (hmem i).1 him
   obtain ⟨o', K, g1, g2, g3, g4⟩ := hst s hs1
   rw [hs2, ho] at g1
   obtain rfl := Option.some.inj g1
   obtain ⟨_, o2, ho2, hdeps⟩ := mem_ready.1 hi
   rw [ho] at ho2
   obtain rfl := Option.some.inj ho2
   refine g3 _ fr (zDG fun p hp => ?_) (zR (zAF ?_))
   ·rcases g4 p hp with q | ⟨s', q1, ⟨e, q2, q3, q4⟩, q5⟩
    ·exact zDH hk0 p q
    ·have h1 := hdeps e q2 q3
     rw [q4] at h1
     rw [← q5]
     refine hck s' q1 ?_
     have hsz := hlt s'.1 ((hmem s'.1).2 ⟨s', q1, rfl⟩)
     simp only [Array.getD, show s'.1 < cur.size by omega, dite_true] at h1 ⊢
     exact h1
   ·have hisz := hlt i him
    refine ih (cur.setIfInBounds i true) _ (by simpa using hcs) (fun j hj => ?_) ?_ (fun s' hs' hu => ?_) ?_ (zLT him hcl (fun o' ho' e he hb => by rw [ho] at ho'; obtain rfl := Option.some.inj ho'; exact hdeps e he hb))
    ·rw [Array.getElem?_setIfInBounds_ne (show i ≠ j from fun e => hj (e ▸ him))]; exact hco j hj
    ·-- one less
     have hf : st.filter (fun s' => !(cur.setIfInBounds i true).getD s'.1 true) = (st.filter (fun s' => !cur.getD s'.1 true)).filter (fun s' => decide (s'.1 ≠ i)) := by
      rw [List.filter_filter]
      congr 1
      funext s'
      by_cases hq : s'.1 = i
      ·rw [hq]; simp [Array.getD, show i < cur.size by omega]
      ·have hq' : ¬ i = s'.1 := fun e => hq e.symm
       simp [Array.getD_eq_getD_getElem?, Array.getElem?_setIfInBounds, hq, hq']
     unfold unl at hcm ⊢
     rw [hf]
     have hmemf : s ∈ st.filter (fun s' => !cur.getD s'.1 true) := List.mem_filter.2 ⟨hs1, by rw [hs2, hiu]; rfl⟩
     have hndf : ((st.filter (fun s' => !cur.getD s'.1 true)).map (·.1)).Nodup := List.Nodup.sublist (List.Sublist.map _ List.filter_sublist) hnd'
     revert hcm hmemf hndf
     generalize st.filter (fun s' => !cur.getD s'.1 true) = L
     intro hcm hmemf hndf
     have gen : ∀ (L : Steps) (n : Nat), L.length = n + 1 → s ∈ L → (L.map (·.1)).Nodup → (L.filter (fun s' => decide (s'.1 ≠ i))).length = n := by
      intro L
      induction L with
      | nil => intro n h; simp at h
      | cons x r ihL =>
       intro n hn hm hnd
       simp only [List.map_cons, List.nodup_cons] at hnd
       rcases List.mem_cons.1 hm with rfl | hm
       ·have hno : ∀ y ∈ r, y.1 ≠ i := fun y hy e => hnd.1 (List.mem_map.2 ⟨y, hy, by rw [e, hs2]⟩)
        have : (r.filter (fun s' => decide (s'.1 ≠ i))) = r := List.filter_eq_self.2 (fun y hy => by simpa using hno y hy)
        rw [List.filter_cons_of_neg (by simp [hs2]), this]
        simpa using hn
       ·have hx : x.1 ≠ i := fun e => hnd.1 (List.mem_map.2 ⟨s, hm, by rw [hs2, e]⟩)
        have hr0 : 0 < r.length := List.length_pos_iff.2 (by rintro rfl; simp at hm)
        obtain ⟨n', rfl⟩ : ∃ n', n = n' + 1 := ⟨n - 1, by simp at hn; omega⟩
        rw [List.filter_cons_of_pos (by simpa using hx), List.length_cons, ihL n' (by simpa using hn) hm hnd.2]
     exact gen L m hcm hmemf hndf
    ·by_cases hq : s'.1 = i
     ·have : s' = s := by
       have h1 : s ∈ st := hs1
       have hinj : ∀ (L : Steps), (L.map (·.1)).Nodup → ∀ x ∈ L, ∀ y ∈ L, x.1 = y.1 → x = y := by
        intro L
        induction L with
        | nil => intro _ x hx; simp at hx
        | cons z r ihL =>
         intro hnd x hx y hy hxy
         simp only [List.map_cons, List.nodup_cons] at hnd
         rcases List.mem_cons.1 hx with hx | hx <;> rcases List.mem_cons.1 hy with hy | hy
         ·rw [hx, hy]
         ·exact absurd (List.mem_map.2 ⟨y, hy, by rw [← hxy, hx]⟩) hnd.1
         ·exact absurd (List.mem_map.2 ⟨x, hx, by rw [hxy, hy]⟩) hnd.1
         ·exact ihL hnd.2 x hx y hy hxy
       exact hinj st hnd' s' hs' s hs1 (by rw [hq, hs2])
      rw [this]
      exact zMg _ _ _
     ·have h1 : cur.getD s'.1 true = true := by
       have hq' : ¬ i = s'.1 := fun e => hq e.symm
       simpa [Array.getD_eq_getD_getElem?, Array.getElem?_setIfInBounds, hq'] using hu
      have h2 := hck s' hs' h1
      -- another slot
      have hne2 : s'.2.1 ≠ s.2.1 := by
       intro e
       obtain ⟨o3, _, f1, f2, _, _⟩ := hst s' hs'
       have h3 := List.all_eq_true.1 (ok3 s'.1 ((hmem s'.1).2 ⟨s', hs', rfl⟩)) i him
       rw [f1, ho] at h3
       simp only [Bool.or_eq_true, Bool.not_eq_true', f2, g2] at h3
       rcases h3 with h3 | h3
       ·exact hq (Nat.eq_of_beq_eq_true h3)
       ·rw [e] at h3; simp at h3
      show (bif Nat.beq s'.2.1 s.2.1 then some s.2.2 else look s'.2.1 fr) = _
      rw [zr hne2]; exact h2
    ·refine zDG fun p hp => ?_
     have h1 := ok1 i him
     simp only [Bool.and_eq_true] at h1
     rw [ho] at h1
     simp only [g2, Bool.and_eq_true, Bool.not_eq_true'] at h1
     have hne3 : p.1 ≠ s.2.1 := by
      intro e
      have : (K0.map (·.1)).contains s.2.1 = true := by
       rw [List.contains_iff_mem]
       exact List.mem_map.2 ⟨p, hp, e⟩
      rw [h1.2.1] at this; cases this
     show (bif Nat.beq p.1 s.2.1 then some s.2.2 else look p.1 fr) = _
     rw [zr hne3]; exact zDH hk0 p hp
 have hm0 : unl listed st = idx.length := by
  unfold unl
  rw [List.filter_eq_self.2 (fun s hs => ?_), hlen]
  have := ok1 s.1 ((hmem s.1).2 ⟨s, hs, rfl⟩)
  simp only [Bool.and_eq_true] at this
  exact this.1
 have := key idx.length listed fr rfl (fun _ _ => rfl) hm0 (fun s hs hu => by
  have h1 := ok1 s.1 ((hmem s.1).2 ⟨s, hs, rfl⟩)
  simp only [Bool.and_eq_true, Bool.not_eq_true'] at h1
  rw [h1.1] at hu; cases hu) hK (fun m' hm' hu => by
  have h1 := ok1 m' hm'
  simp only [Bool.and_eq_true, Bool.not_eq_true'] at h1
  rw [h1.1] at hu; cases hu)
 exact this
end
end Go.Ax
namespace Go.Ax.Rt
open Go.Ax.Bg Go.Ax.Dt
/-- The first k elements are new. -/
def chg {α : Type} (g : Nat → α) (d : α) (x : List α) (k : Nat) : List α := (List.range x.length).map (fun j => if j < k then g j else x.getD j d)
theorem zCp {α : Type} (g : Nat → α) (d : α) (x : List α) (k : Nat) : (chg g d x k).length = x.length := by simp [chg]
theorem zDB {α : Type} (g : Nat → α) (d : α) (x : List α) : chg g d x 0 = x := by
 apply List.ext_getElem (zCp _ _ _ _)
 intro i h1 h2
 simp [chg, List.getD, h2]
theorem zC1 {α : Type} (g : Nat → α) (d : α) (x : List α) {k i : Nat} (hi : i < x.length) : (chg g d x k).getD i d = if i < k then g i else x.getD i d := by
 unfold chg
 rw [zCK _ _ 0 _ _ (by simpa using hi)]
 simp [List.getD, hi]
theorem zDf {α : Type} (g : Nat → α) (d : α) (x : List α) {k : Nat} (hk : k < x.length) : (chg g d x k).set k (g k) = chg g d x (k + 1) := by
 apply List.ext_getElem (by simp [chg])
 intro i h1 h2
 have hi : i < x.length := by simpa [chg] using h2
 have e1 := zC1 g d x (k := k + 1) hi
 rw [zDz d h2] at e1
 rw [e1, List.getElem_set]
 by_cases hik : k = i
 ·subst hik; simp
 ·have e2 := zC1 g d x (k := k) hi
  rw [zDz d (by rw [zCp]; exact hi)] at e2
  rw [if_neg hik, e2]
  by_cases h3 : i < k
  ·rw [if_pos h3, if_pos (by omega)]
  ·rw [if_neg h3, if_neg (by omega)]
theorem zEi {α : Type} (g : Nat → α) (d : α) (x : List α) : chg g d x x.length = (List.range x.length).map g := by
 unfold chg
 refine List.map_congr_left (fun j hj => ?_)
 rw [if_pos (by simpa using hj)]
theorem chg_same {α : Type} (g : Nat → α) (d : α) (x : List α) {k : Nat} (hk : k < x.length) (h : g k = x.getD k d) : chg g d x (k + 1) = chg g d x k := by
 rw [← zDf g d x hk, h]
 apply List.ext_getElem (by simp [chg])
 intro i h1 h2
 rw [List.getElem_set]
 split
 ·rename_i e; subst e
  have e2 := zC1 g d x (k := k) hk
  rw [if_neg (Nat.lt_irrefl k)] at e2
  rw [← zDz d h2, e2]
 ·rfl
/-- The rows that are new, one by one. -/
def zCQ (T : Tab) (k c : Nat) (d : Int) (i : Nat) : List Int := if i = k then T.getD k [] else zFP (T.getD i []) (T.getD k []) (at2 T k c) (at2 T i c) d
theorem zKK (T : Tab) (k c : Nat) (d : Int) : zEa T k c d = chg (zCQ T k c d) [] T T.length := by rw [zEi]; rfl
def rowG (R K : List Int) (p f d : Int) (j : Nat) : Int := zDi (R.getD j 0 * p - f * K.getD j 0) d
theorem row_chg (R K : List Int) (p f d : Int) : zFP R K p f d = chg (rowG R K p f d) 0 R R.length := by rw [zEi]; rfl
end Go.Ax.Rt
namespace Go.Ax.Tb
open Go.Ax.Bg (zDE)
end Go.Ax.Tb
namespace Go.Ax
variable [Pins]
section
variable {P : Program} {fn : Func} {c : Ctx} {fr : Fr} {H : zN} {k : List It}
theorem zE2 {x : Code} (h : Nat) (o : AObj) {ob : AObj} (c' : Cells) (hh : H[h]? = some (some ob)) (ho : o.c.len = 0) (h1 : c'.len = ob.c.len) (h2 : c'.kd = ob.c.kd)
 (h3 : ∀ i j, i < ob.c.len → j < ob.c.sz → c'.at i j = ob.c.at i j ∨ (ob.c.at i j = .nil ∧ c'.at i j = .sl H.length 0 0)) (hk : Ax P fn c (.code x k) fr ((H ++ [some o]).set h (some ⟨ob.ty, c'⟩))) : Ax P fn c (.code x k) fr H := by
 intro w a σ S hr
 have g1 := hr.nowhere1 ho
 have hlt : h < H.length := (List.getElem?_eq_some_iff.1 hh).1
 have hh' : (H ++ [some o])[h]? = some (some ob) := by rw [List.getElem?_append_left hlt]; exact hh
 refine hk w a _ S (g1.recell hh' h1 h2 (fun i j v hi hj hv => ?_))
 rcases h3 i j hi hj with e | ⟨e1, e2⟩
 ·rw [e]; exact hv
 ·rw [e1] at hv
  rw [e2]
  cases hv
  exact .sl0 _ _ (by simp [upσ])
end
end Go.Ax
namespace Go.Ax
variable [Pins]
open Go.RowKit
section
variable {ind : Bool} {P : Program} {fn : Func} {c : Ctx} {fr : Fr} {H : zN} {k : List It}
variable {d : Option Nat} {ty : TypeId} {pos : String} {after : Array Edge} {g : Option (Nat × Bool)}
theorem zG6 {x : Operand} {t : TypeId} {u : TypeDesc} {h i : Nat} {oty : TypeId} {kk : IntKind} {l : List Int} (ht : P.underlying t = some u) (hu : zBa u = false) (hx : ev fr x = some (.ptr h i 0)) (hh : H[h]? = some (some ⟨oty, .ints kk l⟩)) (hi : i < l.length) :
 QOp false P fn c fr H ⟨d, .load t x, ty, pos, after, g⟩ (.int kk (l.getD i 0)) := zFU ht hu hx hh hi
theorem zAy {x : Operand} {t : TypeId} {u : TypeDesc} {h i j : Nat} {oty : TypeId} {n s : Nat} {f : Nat → Nat → AV} (ht : P.underlying t = some u) (hu : zBa u = false) (hx : ev fr x = some (.ptr h i j)) (hh : H[h]? = some (some ⟨oty, .fn n s f⟩)) (hj : Nat.blt j s = true) (hi : i < n) :
 QOp false P fn c fr H ⟨d, .load t x, ty, pos, after, g⟩ (f i j) := zG5 ht hu hx hh hj hi
end
end Go.Ax
