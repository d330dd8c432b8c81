import Derived.Test.YtkncmbklkhjmgaaGreatDoorD3
set_option linter.unusedVariables false
set_option linter.unusedSimpArgs false
set_option maxRecDepth 100000
namespace Go.Ax.Dt
def zt (f : Nat → Int) : Nat → Int
 | 0 => 0
 | n + 1 => zt f n + f n
theorem zm {f g : Nat → Int} : ∀ {n : Nat}, (∀ i, i < n → f i = g i) → zt f n = zt g n
 | 0, _ => rfl
 | n + 1, h => by rw [zt, zt, zm (fun i hi => h i (by omega)), h n (by omega)]
theorem zB2 {f : Nat → Int} : ∀ {n : Nat}, (∀ i, i < n → f i = 0) → zt f n = 0
 | 0, _ => rfl
 | n + 1, h => by rw [zt, zB2 (fun i hi => h i (by omega)), h n (by omega)]; rfl
theorem zDH (f g : Nat → Int) : ∀ n, zt (fun i => f i + g i) n = zt f n + zt g n
 | 0 => rfl
 | n + 1 => by rw [zt, zt, zt, zDH f g n]; omega
theorem zBK (c : Int) (f : Nat → Int) : ∀ n, zt (fun i => c * f i) n = c * zt f n
 | 0 => by rw [zt, zt, Int.mul_zero]
 | n + 1 => by rw [zt, zt, zBK c f n, Int.mul_add]
theorem zEM {f : Nat → Int} {n : Nat} (k : Nat) (hk : k < n) (h : ∀ i, i < n → i ≠ k → f i = 0) : zt f n = f k := by
 induction n with
 | zero => omega
 | succ n ih =>
  rw [zt]
  by_cases hkn : k = n
  ·subst hkn
   rw [zB2 (fun i hi => h i (by omega) (by omega))]; omega
  ·rw [ih (by omega) (fun i hi hne => h i (by omega) hne), h n (by omega) (fun e => hkn e.symm)]; omega
theorem zOE {f : Nat → Int} {n : Nat} (k l : Nat) (hk : k < n) (hl : l < n) (hkl : k ≠ l) (h : ∀ i, i < n → i ≠ k → i ≠ l → f i = 0) : zt f n = f k + f l := by
 have e : zt f n = zt (fun i => (if i = k then f k else 0) + (if i = k then 0 else f i)) n := by
  refine zm (fun i hi => ?_)
  by_cases hik : i = k
  ·subst hik; simp
  ·simp [hik]
 rw [e, zDH]
 rw [zEM k hk (fun i hi hne => by simp [hne]), zEM l hl (fun i hi hne => by
  by_cases hik : i = k
  ·simp [hik]
  ·simp [hik]; exact h i hi hik hne)]
 have : ¬ l = k := fun e => hkl e.symm
 simp [this]
abbrev V := Nat → Int
abbrev Mx := Nat → V
def sg : Nat → Int
 | 0 => 1
 | n + 1 => -sg n
def skip (i : Nat) (D : Mx) : Mx := fun a c => D (if a < i then a else a + 1) (c + 1)
def det : Nat → Mx → Int
 | 0, _ => 1
 | n + 1, D => zt (fun i => sg i * (D i 0 * det n (skip i D))) (n + 1)
def put (D : Mx) (r : Nat) (v : V) : Mx := fun a => if a = r then v else D a
theorem zDT : ∀ {n : Nat} {D E : Mx}, (∀ a c, a < n → c < n → D a c = E a c) → det n D = det n E
 | 0, _, _, _ => rfl
 | n + 1, D, E, h => by
  rw [det, det]
  refine zm (fun i hi => ?_)
  rw [h i 0 hi (by omega), zDT (D := skip i D) (E := skip i E) (fun a c ha hc => ?_)]
  unfold skip
  exact h _ _ (by split <;> omega) (by omega)
theorem zDF (D : Mx) (r : Nat) (v : V) : skip r (put D r v) = skip r D := by
 funext a c
 unfold skip put
 have : ¬ (if a < r then a else a + 1) = r := by split <;> omega
 rw [if_neg this]
theorem zG1 {D : Mx} {i r : Nat} {v : V} (h : i ≠ r) : skip i (put D r v) = put (skip i D) (if r < i then r else r - 1) (fun c => v (c + 1)) := by
 funext a c
 unfold skip put
 by_cases hri : r < i
 ·rw [if_pos hri]
  by_cases ha : a = r
  ·subst ha; rw [if_pos hri]; simp
  ·by_cases hai : a < i
   ·simp [hai, ha]
   ·have : ¬ a + 1 = r := by omega
    simp [hai, ha, this]
 ·rw [if_neg hri]
  by_cases ha : a = r - 1
  ·subst ha
   have h1 : ¬ r - 1 < i := by omega
   have h2 : r - 1 + 1 = r := by omega
   simp [h1, h2]
  ·by_cases hai : a < i
   ·have : ¬ a = r := by omega
    simp [hai, ha, this]
   ·have : ¬ a + 1 = r := by omega
    simp [hai, ha, this]
/-- The determinant is linear in each row. -/
theorem zJn : ∀ (n : Nat) (D : Mx) (r : Nat) (u v : V), r < n → det n (put D r (fun c => u c + v c)) = det n (put D r u) + det n (put D r v)
 | 0, _, _, _, _, h => absurd h (Nat.not_lt_zero _)
 | n + 1, D, r, u, v, h => by
  rw [det, det, det, ← zDH]
  refine zm (fun i hi => ?_)
  by_cases hir : i = r
  ·subst hir
   rw [zDF, zDF, zDF]
   have e : ∀ w : V, put D i w i 0 = w 0 := fun w => by simp [put]
   rw [e, e, e, Int.add_mul, Int.mul_add]
  ·have e : ∀ w : V, put D r w i 0 = D i 0 := fun w => by simp [put, hir]
   rw [zG1 hir, zG1 hir, zG1 hir, e, e, e, zJn n _ _ _ _ (by split <;> omega), Int.mul_add, Int.mul_add]
theorem zGm : ∀ (n : Nat) (D : Mx) (r : Nat) (k : Int) (v : V), r < n → det n (put D r (fun c => k * v c)) = k * det n (put D r v)
 | 0, _, _, _, _, h => absurd h (Nat.not_lt_zero _)
 | n + 1, D, r, k, v, h => by
  rw [det, det, ← zBK]
  refine zm (fun i hi => ?_)
  by_cases hir : i = r
  ·subst hir
   rw [zDF, zDF]
   have e : ∀ w : V, put D i w i 0 = w 0 := fun w => by simp [put]
   rw [e, e, Int.mul_left_comm k, Int.mul_assoc]
  ·have e : ∀ w : V, put D r w i 0 = D i 0 := fun w => by simp [put, hir]
   rw [zG1 hir, zG1 hir, e, e, zGm n _ _ _ _ (by split <;> omega), Int.mul_left_comm k, Int.mul_left_comm k]
theorem zIM (n : Nat) (D : Mx) (r : Nat) (h : r < n) : det n (put D r (fun _ => 0)) = 0 := by
 have := zGm n D r 0 (fun _ => 0) h
 simpa using this
/-- Two rows beside each other that are equal. -/
theorem zMJ : ∀ (n : Nat) (D : Mx) (r : Nat), r + 1 < n → (∀ c, c < n → D r c = D (r + 1) c) → det n D = 0
 | 0, _, _, h, _ => absurd h (Nat.not_lt_zero _)
 | n + 1, D, r, h, he => by
  rw [det, zOE r (r + 1) (by omega) h (by omega) (fun i hi h1 h2 => ?_)]
  ·have e : det n (skip r D) = det n (skip (r + 1) D) := zDT (fun a c ha hc => by
    unfold skip
    by_cases h1 : a < r
    ·rw [if_pos h1, if_pos (by omega)]
    ·rw [if_neg h1]
     by_cases h2 : a < r + 1
     ·have : a = r := by omega
      subst this
      rw [if_pos h2]; exact (he _ (by omega)).symm
     ·rw [if_neg h2])
   rw [e, he 0 (by omega), sg, Int.neg_mul]
   omega
  ·have := zMJ n (skip i D) (if r < i then r else r - 1) (by split <;> omega) (fun c hc => by
    unfold skip
    by_cases hri : r < i
    ·rw [if_pos hri, if_pos (show r < i from hri), if_pos (show r + 1 < i by omega)]
     exact he _ (by omega)
    ·have e1 : ¬ r - 1 < i := by omega
     have e2 : ¬ r - 1 + 1 < i := by omega
     rw [if_neg hri, if_neg e1, if_neg e2, show r - 1 + 1 = r by omega]
     exact he _ (by omega))
   rw [this, Int.mul_zero, Int.mul_zero]
theorem zKT (D : Mx) {r s : Nat} (u v : V) (h : r ≠ s) : put (put D r u) s v = put (put D s v) r u := by
 funext a
 unfold put
 by_cases h1 : a = s
 ·have : ¬ a = r := fun e => h (e.symm.trans h1)
  simp [h1]
  intro e; exact absurd e.symm h
 ·simp [h1]
theorem zKU (D : Mx) (r : Nat) : put D r (D r) = D := by
 funext a; unfold put; split
 ·rename_i h; rw [h]
 ·rfl
/-- Exchange of two rows beside each other. -/
theorem det_swap (n : Nat) (D : Mx) (r : Nat) (u v : V) (h : r + 1 < n) : det n (put (put D r u) (r + 1) v) = - det n (put (put D r v) (r + 1) u) := by
 have key : ∀ w : V, det n (put (put D r w) (r + 1) w) = 0 := fun w => zMJ n _ r h (fun c _ => by unfold put; simp)
 have h0 := key (fun c => u c + v c)
 have add0 : ∀ w : V, det n (put (put D r (fun c => u c + v c)) (r + 1) w) = det n (put (put D r u) (r + 1) w) + det n (put (put D r v) (r + 1) w) := fun w => by
  rw [zKT D _ w (by omega), zJn n _ _ _ _ (by omega), zKT D u w (by omega), zKT D v w (by omega)]
 rw [zJn n _ _ _ _ h, add0, add0] at h0
 have h1 := key u
 have h2 := key v
 omega
theorem zOa : ∀ (k : Nat) (n : Nat) (D : Mx) (r : Nat), r + (k + 1) < n → (∀ c, c < n → D r c = D (r + (k + 1)) c) → det n D = 0
 | 0, n, D, r, h, he => zMJ n D r h he
 | k + 1, n, D, r, h, he => by
  have e : D = put (put D (r + (k + 1)) (D (r + (k + 1)))) (r + (k + 1) + 1) (D (r + (k + 1) + 1)) := by
   rw [zKU, zKU]
  rw [e, det_swap n D (r + (k + 1)) _ _ (by omega), zOa k n _ r (by omega) (fun c hc => ?_)]
  ·rfl
  ·have h1 : ¬ r = r + (k + 1) + 1 := by omega
   have h2 : ¬ r = r + (k + 1) := by omega
   have h3 : ¬ r + (k + 1) = r + (k + 1) + 1 := by omega
   unfold put
   rw [if_neg h1, if_neg h2, if_neg h3, if_pos rfl]
   exact he c hc
theorem det_rep (n : Nat) (D : Mx) {r s : Nat} (hr : r < n) (hs : s < n) (hne : r ≠ s) : det n (put D r (D s)) = 0 := by
 rcases Nat.lt_or_gt_of_ne hne with h | h
 ·refine zOa (s - r - 1) n _ r (by omega) (fun c _ => ?_)
  rw [show r + (s - r - 1 + 1) = s by omega]
  have : ¬ s = r := fun e => hne e.symm
  simp [put, this]
 ·refine zOa (r - s - 1) n _ s (by omega) (fun c _ => ?_)
  rw [show s + (r - s - 1 + 1) = r by omega]
  have : ¬ s = r := fun e => hne e.symm
  simp [put, this]
/-- A row that is a sum of multiples of the rows. -/
theorem zM9 (n : Nat) (D : Mx) (r : Nat) (hr : r < n) (t : V) : ∀ k, k ≤ n → det n (put D r (fun c => zt (fun i => t i * D i c) k)) = if r < k then t r * det n D else 0
 | 0, _ => by
  rw [if_neg (Nat.not_lt_zero _)]
  exact zIM n D r hr
 | k + 1, hk => by
  have ih := zM9 n D r hr t k (by omega)
  have e : (fun c => zt (fun i => t i * D i c) (k + 1)) = (fun c => (fun c => zt (fun i => t i * D i c) k) c + (fun c => t k * D k c) c) := rfl
  rw [e, zJn n D r _ _ hr, ih, zGm n D r _ _ hr]
  by_cases hkr : k = r
  ·subst hkr
   rw [if_neg (by omega), if_pos (by omega), zKU]; omega
  ·rw [det_rep n D hr (by omega) (fun e => hkr e.symm), Int.mul_zero, Int.add_zero]
   by_cases h1 : r < k
   ·rw [if_pos h1, if_pos (by omega)]
   ·rw [if_neg h1, if_neg (by omega)]
theorem zEe {n : Nat} {D : Mx} {r : Nat} (hr : r < n) {t w : V} (h : ∀ c, c < n → w c = zt (fun i => t i * D i c) n) : det n (put D r w) = t r * det n D := by
 have := zM9 n D r hr t n (Nat.le_refl _)
 rw [if_pos hr] at this
 rw [← this]
 refine zDT (fun a c _ hc => ?_)
 unfold put
 split
 ·exact h c hc
 ·rfl
def zK0 : Mx := fun a c => if a = c then 1 else 0
theorem zNB : ∀ n : Nat, det n zK0 = 1
 | 0 => rfl
 | n + 1 => by
  rw [det, zEM 0 (by omega) (fun i hi hne => by simp [zK0, hne])]
  have : det n (skip 0 zK0) = det n zK0 := zDT (fun a c _ _ => by simp [skip, zK0])
  rw [this, zNB n]; simp [sg, zK0]
/-- How great a determinant is. -/
theorem zJZ {f : Nat → Int} {B : Nat} : ∀ {n : Nat}, (∀ i, i < n → (f i).natAbs ≤ B) → (zt f n).natAbs ≤ n * B
 | 0, _ => by simp [zt]
 | n + 1, h => by
  rw [zt]
  have h1 := zJZ (n := n) (fun i hi => h i (by omega))
  have h2 := h n (by omega)
  have h3 := Int.natAbs_add_le (zt f n) (f n)
  rw [Nat.add_mul]; omega
theorem sg_abs : ∀ n, (sg n).natAbs = 1
 | 0 => rfl
 | n + 1 => by rw [sg, Int.natAbs_neg, sg_abs n]
def fct : Nat → Nat
 | 0 => 1
 | n + 1 => (n + 1) * fct n
theorem zI4 {B : Nat} : ∀ {n : Nat} {D : Mx}, (∀ a c, a < n → c < n → (D a c).natAbs ≤ B) → (det n D).natAbs ≤ fct n * B ^ n
 | 0, _, _ => by simp [det, fct]
 | n + 1, D, h => by
  rw [det]
  have := zJZ (f := fun i => sg i * (D i 0 * det n (skip i D))) (B := B * (fct n * B ^ n)) (n := n + 1) (fun i hi => by
   rw [Int.natAbs_mul, Int.natAbs_mul, sg_abs, Nat.one_mul]
   refine Nat.mul_le_mul (h i 0 hi (by omega)) (zI4 (fun a c ha hc => ?_))
   unfold skip
   exact h _ _ (by split <;> omega) (by omega))
  refine Nat.le_trans this ?_
  rw [fct, Nat.pow_succ]
  have e : (n + 1) * (B * (fct n * B ^ n)) = (n + 1) * fct n * (B ^ n * B) := by
   rw [Nat.mul_left_comm B, Nat.mul_comm B, Nat.mul_assoc]
  omega
/-- A column of the table, and the column of the beginning that it stands for. -/
def Sol (n : Nat) (D : Mx) (d : Int) (t0 t : V) : Prop := ∀ c, c < n → zt (fun i => t i * D i c) n = d * t0 c
theorem zQH {n : Nat} {D : Mx} {d s : Int} {t0 t : V} (hd : d ≠ 0) (hs : s * s = 1) (hD : det n D = s * d) (h : Sol n D d t0 t) {i : Nat} (hi : i < n) : t i = s * det n (put D i t0) := by
 have h1 := zEe (w := fun c => d * t0 c) hi (fun c hc => (h c hc).symm)
 rw [zGm n D i d t0 hi, hD] at h1
 have h2 : d * det n (put D i t0) = d * (s * t i) := by rw [h1, Int.mul_left_comm, Int.mul_comm (t i) d, Int.mul_left_comm]
 have h3 := Int.eq_of_mul_eq_mul_left hd h2
 rw [h3, ← Int.mul_assoc, hs, Int.one_mul]
/-- The pivot: the determinant of the new rows, and exact quotients. -/
theorem zLk {n : Nat} {D : Mx} {d s : Int} {t0 t : V} (hd : d ≠ 0) (hs : s * s = 1) (hD : det n D = s * d) (h : Sol n D d t0 t) {r : Nat} (hr : r < n) : det n (put D r t0) = s * t r := by
 rw [zQH hd hs hD h hr, ← Int.mul_assoc, hs, Int.one_mul]
theorem sumZ_put {n : Nat} {D : Mx} {r : Nat} (hr : r < n) (v : V) (t : V) (c : Nat) : zt (fun i => t i * put D r v i c) n = zt (fun i => t i * D i c) n - t r * D r c + t r * v c := by
 have e : ∀ i, i < n → t i * put D r v i c = t i * D i c + (if i = r then t r * v c - t r * D r c else 0) := by
  intro i hi
  by_cases hir : i = r
  ·subst hir; simp [put]; omega
  ·simp [put, hir]
 rw [zm e, zDH, zEM (f := fun i => if i = r then t r * v c - t r * D r c else 0) r hr (fun i hi hne => by simp [hne])]
 simp; omega
theorem zLl {n : Nat} {D : Mx} {d s : Int} {tc0 tc tj0 tj : V} (hd : d ≠ 0) (hs : s * s = 1) (hD : det n D = s * d) (hc : Sol n D d tc0 tc) (hj : Sol n D d tj0 tj) {r : Nat} (hr : r < n) (hp : tc r ≠ 0) :
 (∀ i, i < n → i ≠ r → d ∣ tj i * tc r - tc i * tj r) ∧ Sol n (put D r tc0) (tc r) tj0 (fun i => if i = r then tj r else (tj i * tc r - tc i * tj r) / d) := by
 have hD' := zLk hd hs hD hc hr
 -- the numerators are a solution of d times the new equation
 let N : V := fun i => if i = r then d * tj r else tj i * tc r - tc i * tj r
 have hN : ∀ c, c < n → zt (fun i => N i * put D r tc0 i c) n = d * tc r * tj0 c := by
  intro c hcn
  rw [sumZ_put hr]
  have e : ∀ i, i < n → N i * D i c = (tc r * (tj i * D i c) + (-(tj r)) * (tc i * D i c)) + (if i = r then d * tj r * D r c else 0) := by
   intro i hi
   by_cases hir : i = r
   ·subst hir
    simp only [N, if_true]
    have : tc i * (tj i * D i c) + -tj i * (tc i * D i c) = 0 := by
     rw [Int.neg_mul, Int.mul_left_comm]; omega
    omega
   ·simp only [N, hir, if_false, Int.add_zero]
    rw [Int.sub_mul, Int.neg_mul, Int.mul_comm (tj i) (tc r), Int.mul_assoc, Int.mul_comm (tc i) (tj r), Int.mul_assoc]; omega
  rw [zm e, zDH, zDH, zBK, zBK, hj c hcn, hc c hcn, zEM (f := fun i => if i = r then d * tj r * D r c else 0) r hr (fun i hi hne => by simp [hne])]
  simp only [N, if_true]
  have e1 : tc r * (d * tj0 c) = d * tc r * tj0 c := by rw [← Int.mul_assoc, Int.mul_comm (tc r) d]
  have e2 : -tj r * (d * tc0 c) = -(d * tj r * tc0 c) := by rw [Int.neg_mul, ← Int.mul_assoc, Int.mul_comm (tj r) d]
  rw [e1, e2]; omega
 have hex : ∀ i, i < n → N i = d * (s * det n (put (put D r tc0) i tj0)) := by
  intro i hi
  have h1 := zEe (D := put D r tc0) (w := fun c => d * tc r * tj0 c) hi (fun c hcn => (hN c hcn).symm)
  rw [zGm n _ i (d * tc r) tj0 hi, hD'] at h1
  have h2 : tc r * (d * (s * det n (put (put D r tc0) i tj0))) = tc r * N i := by
   have h3 : s * (d * tc r * det n (put (put D r tc0) i tj0)) = s * (N i * (s * tc r)) := by rw [h1]
   have h4 : s * (N i * (s * tc r)) = tc r * N i := by
    rw [Int.mul_left_comm, ← Int.mul_assoc s s, hs, Int.one_mul, Int.mul_comm]
   rw [h4] at h3
   rw [← h3]
   rw [Int.mul_assoc d, Int.mul_left_comm s d, Int.mul_left_comm s (tc r), Int.mul_left_comm d (tc r)]
  exact (Int.eq_of_mul_eq_mul_left hp h2).symm
 refine ⟨fun i hi hne => ?_, ?_⟩
 ·have := hex i hi
  simp only [N, hne, if_false] at this
  exact ⟨_, this⟩
 ·intro c hcn
  have h1 := hN c hcn
  have h2 : ∀ i, i < n → N i * put D r tc0 i c = d * ((fun i => if i = r then tj r else (tj i * tc r - tc i * tj r) / d) i * put D r tc0 i c) := by
   intro i hi
   by_cases hir : i = r
   ·subst hir; simp only [N, if_true]; rw [Int.mul_assoc]
   ·have h3 := hex i hi
    simp only [N, hir, if_false] at h3 ⊢
    have h4 : (tj i * tc r - tc i * tj r) / d = s * det n (put (put D r tc0) i tj0) := by rw [h3, Int.mul_ediv_cancel_left _ hd]
    rw [h4, ← Int.mul_assoc, ← h3]
  rw [zm h2, zBK, Int.mul_assoc d] at h1
  exact Int.eq_of_mul_eq_mul_left hd h1
/-- The quotient of the absolute values, with the sign of the quotient. -/
def zDf (x d : Int) : Int := if (decide (x < 0) != decide (d < 0)) = true then -((x.natAbs / d.natAbs : Nat) : Int) else ((x.natAbs / d.natAbs : Nat) : Int)
theorem zHH {q d : Int} (hd : d ≠ 0) : zDf (d * q) d = q := by
 have hn : (d * q).natAbs / d.natAbs = q.natAbs := by rw [Int.natAbs_mul, Nat.mul_div_cancel_left _ (by omega)]
 unfold zDf
 rw [hn]
 rcases Int.lt_trichotomy q 0 with hq | hq | hq
 ·rcases Int.lt_or_gt_of_ne hd with h | h
  ·have h1 : ¬ d * q < 0 := Int.not_lt.2 (Int.le_of_lt (Int.mul_pos_of_neg_of_neg h hq))
   simp [h, h1]; omega
  ·have h1 : d * q < 0 := Int.mul_neg_of_pos_of_neg h hq
   have h2 : ¬ d < 0 := by omega
   simp [h1, h2]; omega
 ·subst hq; simp
 ·rcases Int.lt_or_gt_of_ne hd with h | h
  ·have h1 : d * q < 0 := Int.mul_neg_of_neg_of_pos h hq
   simp [h, h1]; omega
  ·have h1 : ¬ d * q < 0 := Int.not_lt.2 (Int.le_of_lt (Int.mul_pos h hq))
   have h2 : ¬ d < 0 := by omega
   simp [h1, h2]; omega
theorem zLS {x d : Int} (hd : d ≠ 0) (h : d ∣ x) : zDf x d = x / d := by
 obtain ⟨q, rfl⟩ := h
 rw [zHH hd, Int.mul_ediv_cancel_left _ hd]
abbrev Tab := List (List Int)
def at2 (T : Tab) (i j : Nat) : Int := (T.getD i []).getD j 0
def zFI (R K : List Int) (p f d : Int) : List Int := (List.range R.length).map (fun j => zDf (R.getD j 0 * p - f * K.getD j 0) d)
def zEW (T : Tab) (k c : Nat) (d : Int) : Tab := (List.range T.length).map (fun i => if i = k then T.getD k [] else zFI (T.getD i []) (T.getD k []) (at2 T k c) (at2 T i c) d)
theorem getD_set {α : Type} (l : List α) (d x : α) (i j : Nat) : (l.set i x).getD j d = if j = i ∧ i < l.length then x else l.getD j d := by
 by_cases h : j = i
 ·subst h
  by_cases h2 : j < l.length
  ·simp [List.getD, h2]
  ·have : l.length ≤ j := by omega
   simp [List.getD, h2, this]
 ·have : ¬ i = j := fun e => h e.symm
  simp [List.getD, h, List.getElem?_set, this]
theorem zI6 (T : Tab) (k c : Nat) (d : Int) : (zEW T k c d).length = T.length := by simp [zEW]
theorem zQi (T : Tab) (k c : Nat) (d : Int) {i : Nat} (hi : i < T.length) : (zEW T k c d).getD i [] = if i = k then T.getD k [] else zFI (T.getD i []) (T.getD k []) (at2 T k c) (at2 T i c) d := by
 unfold zEW
 simp [List.getD, hi]
theorem zMw (T : Tab) (k c : Nat) (d : Int) {L : Nat} (hT : ∀ x ∈ T, x.length = L) {i j : Nat} (hi : i < T.length) (hj : j < L) : at2 (zEW T k c d) i j = if i = k then at2 T k j else zDf (at2 T i j * at2 T k c - at2 T i c * at2 T k j) d := by
 unfold at2
 rw [zQi T k c d hi]
 have hl : (T.getD i []).length = L := hT _ (by simp [List.getD, hi])
 by_cases h : i = k
 ·rw [if_pos h, if_pos h]
 ·rw [if_neg h, if_neg h]
  unfold zFI
  rw [hl]
  have : ∀ f : Nat → Int, ((List.range L).map f).getD j 0 = f j := fun f => by simp [List.getD, hj]
  rw [this]; rfl
theorem zNF (R K : List Int) (p f d : Int) : (zFI R K p f d).length = R.length := by simp [zFI]
theorem zI7 (T : Tab) (k c : Nat) (d : Int) {L : Nat} (hk : k < T.length) (hT : ∀ x ∈ T, x.length = L) : ∀ x ∈ zEW T k c d, x.length = L := by
 intro x hx
 obtain ⟨i, hi, rfl⟩ := List.mem_map.1 hx
 have hi : i < T.length := by simpa using hi
 split
 ·exact hT _ (by simp [List.getD, hk])
 ·rw [zNF]; exact hT _ (by simp [List.getD, hi])
end Go.Ax.Dt
namespace Go.Ax.Sx
open Go.Ax.Dt
structure St where
 rows : Tab
 den : Int
 basis : List Nat
def zHm (T : Tab) (j : Nat) : V := fun i => at2 T i j
/-- the columns of the beginning that are in the basis, and one for the costs -/
def zC7 (M : Tab) (m : Nat) (β : List Nat) : Mx := fun a => if a < m then zHm M (β.getD a 0) else fun c => if c = a then 1 else 0
/-- What each table keeps: m conditions and the costs, N unknowns and the right side. -/
structure Inv (m N : Nat) (M : Tab) (s : St) : Prop where
 n : s.rows.length = m + 1
 row : ∀ x ∈ s.rows, x.length = N + 1
 b : s.basis.length = m
 bc : ∀ i, i < m → s.basis.getD i 0 < N
 dp : 0 < s.den
 unit : ∀ i k, i < m + 1 → k < m → at2 s.rows i (s.basis.getD k 0) = if i = k then s.den else 0
 sg : ∃ σ : Int, σ * σ = 1 ∧ det (m + 1) (zC7 M m s.basis) = σ * s.den
 sol : ∀ j, j < N + 1 → Sol (m + 1) (zC7 M m s.basis) s.den (zHm M j) (zHm s.rows j)
def sgZ (p : Int) : Int := if p < 0 then -1 else 1
theorem sgZ_sq (p : Int) : sgZ p * sgZ p = 1 := by unfold sgZ; split <;> rfl
theorem zQG {p : Int} (h : p ≠ 0) : 0 < sgZ p * p := by
 unfold sgZ
 split
 ·omega
 ·omega
def zEi (T : Tab) (r c : Nat) (d : Int) : Tab := if at2 T r c < 0 then (zEW T r c d).map (fun l => l.map (fun x => -x)) else zEW T r c d
def piv (s : St) (r c : Nat) : St := ⟨zEi s.rows r c s.den, if at2 s.rows r c < 0 then -(at2 s.rows r c) else at2 s.rows r c, s.basis.set r c⟩
theorem zIe (s : St) (r c : Nat) : (piv s r c).den = sgZ (at2 s.rows r c) * at2 s.rows r c := by
 show (if at2 s.rows r c < 0 then -(at2 s.rows r c) else at2 s.rows r c) = _
 unfold sgZ
 split <;> omega
theorem at2_neg (T : Tab) (i j : Nat) : at2 (T.map (fun l => l.map (fun x => -x))) i j = -(at2 T i j) := by
 unfold at2
 simp only [List.getD, List.getElem?_map]
 cases h : T[i]? with
 | none => rfl
 | some l =>
  show ((l.map (fun x => -x))[j]?).getD 0 = -((l[j]?).getD 0)
  rw [List.getElem?_map]
  cases l[j]? <;> rfl
theorem zPQ (T : Tab) (r c : Nat) (d : Int) {L : Nat} (hT : ∀ x ∈ T, x.length = L) {i j : Nat} (hi : i < T.length) (hj : j < L) :
 at2 (zEi T r c d) i j = sgZ (at2 T r c) * (if i = r then at2 T r j else zDf (at2 T i j * at2 T r c - at2 T i c * at2 T r j) d) := by
 unfold zEi sgZ
 split
 ·rw [at2_neg, zMw T r c d hT hi hj]; omega
 ·rw [zMw T r c d hT hi hj, Int.one_mul]
theorem zKS (T : Tab) (r c : Nat) (d : Int) : (zEi T r c d).length = T.length := by
 unfold zEi
 split
 ·rw [List.length_map, zI6]
 ·rw [zI6]
theorem pivT_row (T : Tab) (r c : Nat) (d : Int) {L : Nat} (hr : r < T.length) (hT : ∀ x ∈ T, x.length = L) : ∀ x ∈ zEi T r c d, x.length = L := by
 unfold zEi
 split
 ·intro x hx
  obtain ⟨y, hy, rfl⟩ := List.mem_map.1 hx
  rw [List.length_map]
  exact zI7 T r c d hr hT y hy
 ·exact zI7 T r c d hr hT
theorem basM_set {M : Tab} {m : Nat} {β : List Nat} (hb : β.length = m) {r : Nat} (hr : r < m) (c : Nat) : zC7 M m (β.set r c) = put (zC7 M m β) r (zHm M c) := by
 funext a
 show (if a < m then zHm M ((β.set r c).getD a 0) else _) = if a = r then zHm M c else (if a < m then zHm M (β.getD a 0) else _)
 by_cases ha : a < m
 ·rw [if_pos ha, if_pos ha, getD_set]
  by_cases h : a = r
  ·rw [if_pos ⟨h.symm ▸ rfl, by omega⟩, if_pos h]
  ·rw [if_neg (fun q => h q.1), if_neg h]
 ·rw [if_neg ha, if_neg ha, if_neg (by omega)]
theorem zRQ {n : Nat} {D : Mx} {d : Int} {t0 t t' : V} (h : Sol n D d t0 t) (he : ∀ i, i < n → t' i = t i) : Sol n D d t0 t' := by
 intro c hc
 rw [← h c hc]
 exact zm (fun i hi => by rw [he i hi])
theorem sol_smul {n : Nat} {D : Mx} {d : Int} {t0 t : V} (k : Int) (h : Sol n D d t0 t) : Sol n D (k * d) t0 (fun i => k * t i) := by
 intro c hc
 rw [Int.mul_assoc, ← h c hc, ← zBK]
 exact zm (fun i hi => Int.mul_assoc _ _ _)
/-- A pivot keeps everything. -/
theorem Inv.piv {m N : Nat} {M : Tab} {s : St} (h : Inv m N M s) {r c : Nat} (hr : r < m) (hc : c < N) (hp : at2 s.rows r c ≠ 0) : Inv m N M (piv s r c) := by
 obtain ⟨σ, hs, hD⟩ := h.sg
 have hd : s.den ≠ 0 := by have := h.dp; omega
 have hr1 : r < m + 1 := by omega
 have hrl : r < s.rows.length := by rw [h.n]; omega
 have hb := basM_set (M := M) h.b hr c
 have hpz := zQG hp
 have hat : ∀ i j, i < m + 1 → j < N + 1 → at2 (Sx.piv s r c).rows i j = sgZ (at2 s.rows r c) * (if i = r then at2 s.rows r j else zDf (at2 s.rows i j * at2 s.rows r c - at2 s.rows i c * at2 s.rows r j) s.den) := fun i j hi hj => zPQ s.rows r c s.den h.row (by rw [h.n]; exact hi) hj
 refine ⟨?_, ?_, ?_, ?_, ?_, ?_, ?_, ?_⟩
 ·show (zEi _ _ _ _).length = _
  rw [zKS, h.n]
 ·exact pivT_row s.rows r c s.den hrl h.row
 ·show (s.basis.set r c).length = m
  rw [List.length_set, h.b]
 ·intro i hi
  show (s.basis.set r c).getD i 0 < N
  rw [getD_set]
  split
  ·exact hc
  ·exact h.bc i hi
 ·rw [zIe]; exact hpz
 ·intro i k hi hk
  have hbk : (Sx.piv s r c).basis.getD k 0 = if k = r then c else s.basis.getD k 0 := by
   show (s.basis.set r c).getD k 0 = _
   rw [getD_set]
   by_cases e : k = r
   ·rw [if_pos ⟨e, by rw [h.b]; exact hr⟩, if_pos e]
   ·rw [if_neg (fun q => e q.1), if_neg e]
  rw [hbk, zIe]
  by_cases e : k = r
  ·subst e
   rw [if_pos rfl, hat i c hi (by omega)]
   by_cases e2 : i = k
   ·rw [if_pos e2, if_pos e2]
   ·rw [if_neg e2, if_neg e2]
    have : at2 s.rows i c * at2 s.rows k c - at2 s.rows i c * at2 s.rows k c = s.den * 0 := by omega
    rw [this, zHH hd, Int.mul_zero]
  ·have hrk : at2 s.rows r (s.basis.getD k 0) = 0 := by rw [h.unit r k hr1 hk, if_neg (fun q => e q.symm)]
   have hik := h.unit i k hi hk
   rw [if_neg e, hat i _ hi (by have := h.bc k hk; omega), hrk, hik]
   by_cases e2 : i = k
   ·have e5 : ¬ i = r := fun q => e (e2 ▸ q)
    rw [if_neg e5, if_pos e2, if_pos e2, Int.mul_zero, Int.sub_zero, zHH hd]
   ·rw [if_neg e2, if_neg e2]
    by_cases e3 : i = r
    ·rw [if_pos e3, Int.mul_zero]
    ·rw [if_neg e3, Int.mul_zero, Int.sub_zero]
     have : (0 : Int) * at2 s.rows r c = s.den * 0 := by omega
     rw [this, zHH hd, Int.mul_zero]
 ·refine ⟨sgZ (at2 s.rows r c) * σ, ?_, ?_⟩
  ·have := sgZ_sq (at2 s.rows r c)
   rw [Int.mul_assoc, Int.mul_left_comm σ, hs, Int.mul_one, this]
  ·show det (m + 1) (zC7 M m (s.basis.set r c)) = _
   rw [hb, zLk hd hs hD (h.sol c (by omega)) hr1, zIe]
   have := sgZ_sq (at2 s.rows r c)
   show σ * at2 s.rows r c = _
   rw [Int.mul_assoc, Int.mul_left_comm σ, ← Int.mul_assoc, this, Int.one_mul]
 ·intro j hj
  show Sol (m + 1) (zC7 M m (s.basis.set r c)) _ _ _
  rw [hb, zIe]
  obtain ⟨p1, p2⟩ := zLl hd hs hD (h.sol c (by omega)) (h.sol j hj) hr1 hp
  refine zRQ (sol_smul (sgZ (at2 s.rows r c)) p2) (fun i hi => ?_)
  show at2 (Sx.piv s r c).rows i j = _
  rw [hat i j hi hj]
  by_cases e : i = r
  ·rw [if_pos e, if_pos e]; rfl
  ·rw [if_neg e, if_neg e]
   have := zLS hd (p1 i hi e)
   show _ * zDf (zHm s.rows j i * zHm s.rows c r - zHm s.rows c i * zHm s.rows j r) s.den = _
   rw [this]
/-- The elements of each table are determinants. -/
theorem Inv.bound {m N B : Nat} {M : Tab} {s : St} (h : Inv m N M s) (h1 : 1 ≤ B) (hB : ∀ i j, i < m + 1 → j < N + 1 → (at2 M i j).natAbs ≤ B) :
 (∀ i j, i < m + 1 → j < N + 1 → (at2 s.rows i j).natAbs ≤ fct (m + 1) * B ^ (m + 1)) ∧ s.den.natAbs ≤ fct (m + 1) * B ^ (m + 1) := by
 obtain ⟨σ, hs, hD⟩ := h.sg
 have hσ : σ.natAbs = 1 := by
  have := congrArg Int.natAbs hs
  rw [Int.natAbs_mul] at this
  exact Nat.eq_one_of_mul_eq_one_right (by simpa using this)
 have hd : s.den ≠ 0 := by have := h.dp; omega
 have hbas : ∀ a c, a < m + 1 → c < m + 1 → (zC7 M m s.basis a c).natAbs ≤ B := by
  intro a c ha hc
  unfold zC7
  split
  ·rename_i h2
   exact hB c _ hc (by have := h.bc a h2; omega)
  ·show (if c = a then (1 : Int) else 0).natAbs ≤ B
   split
   ·exact h1
   ·exact Nat.zero_le _
 refine ⟨fun i j hi hj => ?_, ?_⟩
 ·have h2 := zQH hd hs hD (h.sol j hj) hi
  have h3 : at2 s.rows i j = σ * det (m + 1) (put (zC7 M m s.basis) i (zHm M j)) := h2
  rw [h3, Int.natAbs_mul, hσ, Nat.one_mul]
  refine zI4 (fun a c ha hc => ?_)
  unfold put
  split
  ·exact hB c j hc hj
  ·exact hbas a c ha hc
 ·have h2 : (det (m + 1) (zC7 M m s.basis)).natAbs = s.den.natAbs := by rw [hD, Int.natAbs_mul, hσ, Nat.one_mul]
  rw [← h2]
  exact zI4 hbas
theorem zGS (f : Nat → Nat → Int) (m : Nat) : ∀ n : Nat, zt (fun i => zt (fun j => f i j) m) n = zt (fun j => zt (fun i => f i j) n) m
 | 0 => by
  show (0 : Int) = _
  rw [zB2 (f := fun j => zt (fun i => f i j) 0) (fun i _ => rfl)]
 | n + 1 => by
  show zt (fun i => zt (fun j => f i j) m) n + zt (fun j => f n j) m = _
  rw [zGS f m n, ← zDH]
  exact zm (fun i _ => rfl)
theorem zRX (c : Int) (f : Nat → Int) (n : Nat) : zt (fun i => f i * c) n = zt f n * c := by
 rw [Int.mul_comm, ← zBK]
 exact zm (fun i _ => Int.mul_comm _ _)
theorem zCM {f : Nat → Int} {n k : Nat} (hk : k < n) : zt (fun j => if j = k then f j else 0) n = f k := by
 rw [zEM k hk (fun i hi hne => by rw [if_neg hne]), if_pos rfl]
theorem zOD : ∀ {n : Nat} {f : Nat → Int}, 0 < zt f n → ∃ i, i < n ∧ 0 < f i
 | 0, f, h => absurd h (by show ¬ (0 : Int) < 0; omega)
 | n + 1, f, h => by
  have h : 0 < zt f n + f n := h
  by_cases h1 : 0 < f n
  ·exact ⟨n, Nat.lt_succ_self n, h1⟩
  ·obtain ⟨i, hi, h2⟩ := zOD (n := n) (f := f) (by omega)
   exact ⟨i, by omega, h2⟩
/-- a row of the table times a vector -/
def zBs (T : Tab) (N : Nat) (x : Nat → Int) (i : Nat) : Int := zt (fun j => at2 T i j * x j) (N + 1)
/-- The vectors that satisfy the rows of the beginning satisfy the rows of each table, and the other way round. -/
theorem Inv.ker {m N : Nat} {M : Tab} {s : St} (h : Inv m N M s) (x : Nat → Int) (z : Int) :
 (∀ i, i < m + 1 → zBs M N x i + (if i = m then z else 0) = 0) ↔ (∀ i, i < m + 1 → zBs s.rows N x i + (if i = m then s.den * z else 0) = 0) := by
 obtain ⟨σ, hs, hD⟩ := h.sg
 have hd : s.den ≠ 0 := by have := h.dp; omega
 let t : V := fun i => zBs s.rows N x i + (if i = m then s.den * z else 0)
 have key : ∀ c, c < m + 1 → zt (fun i => t i * zC7 M m s.basis i c) (m + 1) = s.den * (zBs M N x c + (if c = m then z else 0)) := by
  intro c hc
  have e1 : ∀ i, i < m + 1 → t i * zC7 M m s.basis i c = zt (fun j => x j * (at2 s.rows i j * zC7 M m s.basis i c)) (N + 1) + (if i = m then s.den * z * (if c = m then 1 else 0) else 0) := by
   intro i hi
   show (zBs s.rows N x i + _) * _ = _
   rw [Int.add_mul]
   congr 1
   ·unfold zBs
    rw [← zRX]
    exact zm (fun j _ => by rw [Int.mul_comm (at2 s.rows i j), Int.mul_assoc])
   ·by_cases e : i = m
    ·subst e
     rw [if_pos rfl, if_pos rfl]
     congr 1
     unfold zC7
     rw [if_neg (by omega)]
    ·rw [if_neg e, if_neg e, Int.zero_mul]
  rw [zm e1, zDH, zGS, zCM (f := fun i => s.den * z * (if c = m then 1 else 0)) (Nat.lt_succ_self m)]
  have e2 : ∀ j, j < N + 1 → zt (fun i => x j * (at2 s.rows i j * zC7 M m s.basis i c)) (m + 1) = s.den * (at2 M c j * x j) := by
   intro j hj
   rw [zBK]
   have := h.sol j hj c hc
   have : zt (fun i => at2 s.rows i j * zC7 M m s.basis i c) (m + 1) = s.den * at2 M c j := this
   rw [this, Int.mul_left_comm, Int.mul_comm (x j)]
  rw [zm e2, zBK, Int.mul_add]
  congr 1
  split
  ·rw [Int.mul_one]
  ·rw [Int.mul_zero, Int.mul_zero]
 constructor
 ·intro h0 i hi
  have h1 := zEe (D := zC7 M m s.basis) (t := t) (w := fun _ => 0) hi (fun c hc => by rw [key c hc, h0 c hc, Int.mul_zero])
  rw [zIM (m + 1) _ i hi, hD] at h1
  have hσ : σ ≠ 0 := fun e => by rw [e] at hs; exact absurd hs (by decide)
  rcases Int.mul_eq_zero.1 h1.symm with h2 | h2
  ·exact h2
  ·rcases Int.mul_eq_zero.1 h2 with h3 | h3
   ·exact absurd h3 hσ
   ·exact absurd h3 hd
 ·intro h0 c hc
  have h1 := key c hc
  rw [zB2 (fun i hi => by show t i * _ = 0; rw [show t i = 0 from h0 i hi, Int.zero_mul])] at h1
  rcases Int.mul_eq_zero.1 h1.symm with h2 | h2
  ·exact absurd h2 hd
  ·exact h2
/-- One table told by another one. -/
theorem Inv.cross {m N : Nat} {M : Tab} {s s' : St} (h : Inv m N M s) (h' : Inv m N M s') {i c : Nat} (hi : i < m + 1) (hc : c < N + 1) :
 s.den * at2 s'.rows i c = zt (fun k => at2 s'.rows i (s.basis.getD k 0) * at2 s.rows k c) m + (if i = m then s'.den * at2 s.rows m c else 0) := by
 let x : Nat → Int := fun j => (if j = c then s.den else 0) - zt (fun k => if j = s.basis.getD k 0 then at2 s.rows k c else 0) m
 have hx : ∀ (T : Tab) (i : Nat), zBs T N x i = at2 T i c * s.den - zt (fun k => at2 T i (s.basis.getD k 0) * at2 s.rows k c) m := by
  intro T i
  unfold zBs
  have e1 : ∀ j, j < N + 1 → at2 T i j * x j = (if j = c then at2 T i j * s.den else 0) + zt (fun k => if j = s.basis.getD k 0 then -(at2 T i j * at2 s.rows k c) else 0) m := by
   intro j hj
   show _ * ((if j = c then s.den else 0) - _) = _
   rw [Int.mul_sub, Int.sub_eq_add_neg]
   congr 1
   ·split
    ·rfl
    ·rw [Int.mul_zero]
   ·rw [← Int.mul_neg, show -(zt (fun k => if j = s.basis.getD k 0 then at2 s.rows k c else 0) m) = zt (fun k => -1 * (if j = s.basis.getD k 0 then at2 s.rows k c else 0)) m from by rw [zBK]; omega, ← zBK]
    exact zm (fun k _ => by
     split
     ·rw [Int.neg_mul, Int.one_mul, Int.mul_neg]
     ·rw [Int.mul_zero, Int.mul_zero])
  rw [zm e1, zDH, zCM (f := fun j => at2 T i j * s.den) hc, zGS, Int.sub_eq_add_neg]
  congr 1
  have e2 : ∀ k, k < m → zt (fun j => if j = s.basis.getD k 0 then -(at2 T i j * at2 s.rows k c) else 0) (N + 1) = -1 * (at2 T i (s.basis.getD k 0) * at2 s.rows k c) := by
   intro k hk
   rw [zCM (f := fun j => -(at2 T i j * at2 s.rows k c)) (by have := h.bc k hk; omega)]
   omega
  rw [zm e2, zBK]
  omega
 have h1 : ∀ i, i < m + 1 → zBs s.rows N x i + (if i = m then s.den * (-(at2 s.rows m c)) else 0) = 0 := by
  intro i hi
  rw [hx]
  by_cases e : i = m
  ·subst e
   rw [if_pos rfl, zB2 (fun k hk => by rw [h.unit i k (by omega) hk, if_neg (by omega), Int.zero_mul]), Int.mul_neg, Int.mul_comm]
   omega
  ·rw [if_neg e]
   have e3 : ∀ k, k < m → at2 s.rows i (s.basis.getD k 0) * at2 s.rows k c = if k = i then s.den * at2 s.rows k c else 0 := by
    intro k hk
    rw [h.unit i k hi hk]
    by_cases e4 : i = k
    ·rw [if_pos e4, if_pos e4.symm]
    ·rw [if_neg e4, if_neg (fun q => e4 q.symm), Int.zero_mul]
   rw [zm e3, zCM (f := fun k => s.den * at2 s.rows k c) (by omega), Int.mul_comm]
   omega
 have h2 := (h'.ker x (-(at2 s.rows m c))).1 ((h.ker x (-(at2 s.rows m c))).2 h1) i hi
 rw [hx, Int.mul_comm] at h2
 by_cases e : i = m
 ·rw [if_pos e] at h2 ⊢
  rw [Int.mul_neg] at h2
  omega
 ·rw [if_neg e] at h2 ⊢
  omega
/-- the first column with a negative cost, or w -/
def zCR (T : Tab) (m : Nat) : Nat → Nat → Nat
 | 0, c => c
 | f + 1, c => if at2 T m c < 0 then c else zCR T m f (c + 1)
theorem zE1 (T : Tab) (m : Nat) : ∀ f c, c ≤ zCR T m f c ∧ zCR T m f c ≤ c + f ∧ (∀ a, c ≤ a → a < zCR T m f c → 0 ≤ at2 T m a) ∧ (zCR T m f c < c + f → at2 T m (zCR T m f c) < 0)
 | 0, c => ⟨Nat.le_refl _, Nat.le_refl _, fun a h1 h2 => absurd h2 (by rw [zCR]; omega), fun h => absurd h (by rw [zCR]; omega)⟩
 | f + 1, c => by
  rw [zCR]
  by_cases h : at2 T m c < 0
  ·rw [if_pos h]
   exact ⟨Nat.le_refl _, by omega, fun a h1 h2 => absurd h2 (by omega), fun _ => h⟩
  ·rw [if_neg h]
   obtain ⟨h1, h2, h3, h4⟩ := zE1 T m f (c + 1)
   refine ⟨by omega, by omega, fun a ha hb => ?_, fun hb => h4 (by omega)⟩
   by_cases e : a = c
   ·subst e; omega
   ·exact h3 a (by omega) hb
/-- the row that leaves -/
def zHl (T : Tab) (β : List Nat) (c e k b : Nat) : Prop := at2 T k e * at2 T b c < at2 T b e * at2 T k c ∨ at2 T k e * at2 T b c = at2 T b e * at2 T k c ∧ β.getD k 0 < β.getD b 0
instance (T : Tab) (β : List Nat) (c e k b : Nat) : Decidable (zHl T β c e k b) := by unfold zHl; infer_instance
def zBZ (T : Tab) (β : List Nat) (c e : Nat) : Nat → Option Nat
 | 0 => none
 | k + 1 => match zBZ T β c e k with
  | none => if at2 T k c ≤ 0 then none else some k
  | some b => if at2 T k c ≤ 0 then some b else if zHl T β c e k b then some k else some b
theorem zHs (T : Tab) (β : List Nat) (c e : Nat) : ∀ n, zBZ T β c e n = none → ∀ i, i < n → at2 T i c ≤ 0
 | 0, _, i, hi => absurd hi (Nat.not_lt_zero _)
 | n + 1, h, i, hi => by
  rw [zBZ] at h
  cases hl : zBZ T β c e n with
  | none =>
   rw [hl] at h
   simp only at h
   split at h
   ·rename_i h1
    by_cases e2 : i = n
    ·rw [e2]; exact h1
    ·exact zHs T β c e n hl i (by omega)
   ·cases h
  | some b =>
   rw [hl] at h
   simp only at h
   split at h
   ·cases h
   ·split at h <;> cases h
theorem zKN {a x y : Int} (ha : 0 < a) (h : a * x ≤ a * y) : x ≤ y := Int.le_of_mul_le_mul_left h ha
/-- what the chosen row is -/
structure Least (T : Tab) (β : List Nat) (c e n b : Nat) : Prop where
 lt : b < n
 pos : 0 < at2 T b c
 le : ∀ i, i < n → 0 < at2 T i c → at2 T b e * at2 T i c ≤ at2 T i e * at2 T b c ∧ (at2 T b e * at2 T i c = at2 T i e * at2 T b c → β.getD b 0 ≤ β.getD i 0)
theorem zGE (T : Tab) (β : List Nat) (c e : Nat) : ∀ n b, zBZ T β c e n = some b → Least T β c e n b
 | 0, b, h => by rw [zBZ] at h; cases h
 | n + 1, b, h => by
  rw [zBZ] at h
  cases hl : zBZ T β c e n with
  | none =>
   have hn := zHs T β c e n hl
   rw [hl] at h
   simp only at h
   split at h
   ·cases h
   ·rename_i h1
    obtain rfl : n = b := by simpa using h
    refine ⟨Nat.lt_succ_self _, by omega, fun i hi hp => ?_⟩
    by_cases e2 : i = n
    ·subst e2
     exact ⟨Int.le_refl _, fun _ => Nat.le_refl _⟩
    ·exact absurd (hn i (by omega)) (by omega)
  | some d =>
   have hd := zGE T β c e n d hl
   rw [hl] at h
   simp only at h
   split at h
   ·rename_i h1
    obtain rfl : d = b := by simpa using h
    refine ⟨by have := hd.lt; omega, hd.pos, fun i hi hp => ?_⟩
    by_cases e2 : i = n
    ·subst e2; omega
    ·exact hd.le i (by omega) hp
   ·rename_i h1
    have h1 : 0 < at2 T n c := by omega
    split at h
    ·rename_i h2
     obtain rfl : n = b := by simpa using h
     refine ⟨Nat.lt_succ_self _, h1, fun i hi hp => ?_⟩
     by_cases e2 : i = n
     ·subst e2; exact ⟨Int.le_refl _, fun _ => Nat.le_refl _⟩
     ·obtain ⟨g1, g2⟩ := hd.le i (by omega) hp
      have hdp := hd.pos
      -- n against d, d against i
      have a1 : at2 T n e * at2 T d c ≤ at2 T d e * at2 T n c := by
       rcases h2 with h2 | h2
       ·omega
       ·omega
      have b1 := Int.mul_le_mul_of_nonneg_right a1 (Int.le_of_lt hp)
      have b2 := Int.mul_le_mul_of_nonneg_right g1 (Int.le_of_lt h1)
      have c1 : at2 T d c * (at2 T n e * at2 T i c) = at2 T n e * at2 T d c * at2 T i c := by grind
      have c2 : at2 T d c * (at2 T i e * at2 T n c) = at2 T i e * at2 T d c * at2 T n c := by grind
      have c3 : at2 T d e * at2 T n c * at2 T i c = at2 T d e * at2 T i c * at2 T n c := by grind
      refine ⟨zKN hdp (by omega), fun he => ?_⟩
      have d1 : at2 T d c * (at2 T n e * at2 T i c) = at2 T d c * (at2 T i e * at2 T n c) := by rw [he]
      -- all equal
      have d2 : at2 T n e * at2 T d c * at2 T i c = at2 T d e * at2 T n c * at2 T i c := by omega
      have d3 : at2 T n e * at2 T d c = at2 T d e * at2 T n c := Int.eq_of_mul_eq_mul_right (by omega) d2
      have d4 : at2 T d e * at2 T i c * at2 T n c = at2 T i e * at2 T d c * at2 T n c := by omega
      have d5 : at2 T d e * at2 T i c = at2 T i e * at2 T d c := Int.eq_of_mul_eq_mul_right (by omega) d4
      rcases h2 with h2 | h2
      ·omega
      ·have := g2 d5
       omega
    ·rename_i h2
     obtain rfl : d = b := by simpa using h
     refine ⟨by have := hd.lt; omega, hd.pos, fun i hi hp => ?_⟩
     by_cases e2 : i = n
     ·subst e2
      unfold zHl at h2
      refine ⟨by omega, fun he => ?_⟩
      omega
     ·exact hd.le i (by omega) hp
/-- One step: none if nothing can be improved, or if there is no end. -/
def zBw (m N w : Nat) (s : St) : Option St :=
 if zCR s.rows m w 0 = w then none
 else match zBZ s.rows s.basis (zCR s.rows m w 0) N m with
  | none => none
  | some r => some (piv s r (zCR s.rows m w 0))
def zAZ (m N w : Nat) (s : St) : Nat → St
 | 0 => s
 | k + 1 => (zBw m N w (zAZ m N w s k)).getD (zAZ m N w s k)
def zDc (m N : Nat) (s : St) : Prop := ∀ i, i < m → 0 ≤ at2 s.rows i N
theorem zJL {m N w : Nat} {s s' : St} (h : zBw m N w s = some s') : ∃ c r, c < w ∧ at2 s.rows m c < 0 ∧ (∀ a, a < c → 0 ≤ at2 s.rows m a) ∧ Least s.rows s.basis c N m r ∧ s' = piv s r c := by
 unfold zBw at h
 obtain ⟨e1, e2, e3, e4⟩ := zE1 s.rows m w 0
 split at h
 ·cases h
 ·rename_i h1
  split at h
  ·cases h
  ·rename_i r hr
   refine ⟨_, r, by omega, e4 (by omega), fun a ha => e3 a (Nat.zero_le _) ha, zGE _ _ _ _ _ _ hr, ?_⟩
   exact (Option.some.inj h).symm
/-- the elements after a pivot, without quotients -/
theorem Inv.entry {m N : Nat} {M : Tab} {s : St} (h : Inv m N M s) {r c : Nat} (hr : r < m) (hc : c < N) (hp : at2 s.rows r c ≠ 0) {i j : Nat} (hi : i < m + 1) (hj : j < N + 1) :
 s.den * at2 (Sx.piv s r c).rows i j = sgZ (at2 s.rows r c) * (if i = r then s.den * at2 s.rows r j else at2 s.rows i j * at2 s.rows r c - at2 s.rows i c * at2 s.rows r j) := by
 obtain ⟨σ, hs, hD⟩ := h.sg
 have hd : s.den ≠ 0 := by have := h.dp; omega
 obtain ⟨p1, _⟩ := zLl hd hs hD (h.sol c (by omega)) (h.sol j hj) (show r < m + 1 by omega) hp
 have := zPQ s.rows r c s.den h.row (i := i) (j := j) (by rw [h.n]; exact hi) hj
 have e : at2 (Sx.piv s r c).rows i j = at2 (zEi s.rows r c s.den) i j := rfl
 rw [e, this, Int.mul_left_comm]
 congr 1
 by_cases e : i = r
 ·rw [if_pos e, if_pos e]
 ·have e3 := zLS hd (p1 i hi e)
  have e4 := Int.mul_ediv_cancel' (p1 i hi e)
  rw [← e3] at e4
  rw [if_neg e, if_neg e]
  exact e4
theorem Inv.feas_step {m N : Nat} {M : Tab} {s : St} (h : Inv m N M s) (hf : zDc m N s) {r c : Nat} (hc : c < N) (hl : Least s.rows s.basis c N m r) : zDc m N (Sx.piv s r c) := by
 intro i hi
 have hp := hl.pos
 have h1 := h.entry hl.lt hc (by omega) (i := i) (j := N) (by omega) (by omega)
 have hd := h.dp
 have hsg : sgZ (at2 s.rows r c) = 1 := by unfold sgZ; rw [if_neg (by omega)]
 rw [hsg, Int.one_mul] at h1
 have : 0 ≤ s.den * at2 (Sx.piv s r c).rows i N := by
  rw [h1]
  split
  ·exact Int.mul_nonneg (Int.le_of_lt hd) (hf r hl.lt)
  ·by_cases hpi : 0 < at2 s.rows i c
   ·have := (hl.le i hi hpi).1
    rw [Int.mul_comm (at2 s.rows i c)]
    omega
   ·have h2 := Int.mul_nonneg (hf i hi) (Int.le_of_lt hp)
    have h3 := Int.mul_nonneg (show 0 ≤ -(at2 s.rows i c) by omega) (hf r hl.lt)
    rw [Int.neg_mul] at h3
    omega
 exact Int.le_of_mul_le_mul_left (by rw [Int.mul_zero]; exact this) hd
/-- Pigeons. -/
theorem pig : ∀ (K : Nat) (f : Nat → Nat), (∀ i, i ≤ K → f i < K) → ∃ a b, a < b ∧ b ≤ K ∧ f a = f b
 | 0, f, h => absurd (h 0 (Nat.le_refl _)) (Nat.not_lt_zero _)
 | K + 1, f, h => by
  by_cases hx : ∃ a, a ≤ K ∧ f a = f (K + 1)
  ·obtain ⟨a, h1, h2⟩ := hx
   exact ⟨a, K + 1, by omega, Nat.le_refl _, h2⟩
  ·have hne : ∀ a, a ≤ K → f a ≠ f (K + 1) := fun a ha e => hx ⟨a, ha, e⟩
   obtain ⟨a, b, h1, h2, h3⟩ := pig K (fun i => if f i < f (K + 1) then f i else f i - 1) (fun i hi => by
    have e1 := h i (by omega)
    have e2 := h (K + 1) (Nat.le_refl _)
    have e3 := hne i hi
    show (if f i < f (K + 1) then f i else f i - 1) < K
    split <;> omega)
   refine ⟨a, b, h1, by omega, ?_⟩
   have e1 := hne a (by omega)
   have e2 := hne b h2
   have h3 : (if f a < f (K + 1) then f a else f a - 1) = (if f b < f (K + 1) then f b else f b - 1) := h3
   split at h3 <;> split at h3 <;> omega
def zFH (N : Nat) : List Nat → Nat
 | [] => 0
 | x :: r => x + N * zFH N r
theorem zPa {N : Nat} : ∀ (l : List Nat), (∀ x ∈ l, x < N) → zFH N l < N ^ l.length
 | [], _ => by rw [zFH, List.length_nil, Nat.pow_zero]; exact Nat.one_pos
 | x :: r, h => by
  have h1 := zPa r (fun y hy => h y (by simp [hy]))
  have h2 := h x (by simp)
  rw [zFH, List.length_cons, Nat.pow_succ]
  have h3 : N * (zFH N r + 1) ≤ N * N ^ r.length := Nat.mul_le_mul_left _ h1
  rw [Nat.mul_add, Nat.mul_one] at h3
  rw [Nat.mul_comm (N ^ r.length)]
  omega
theorem zM2 {N : Nat} : ∀ (l l' : List Nat), l.length = l'.length → (∀ x ∈ l, x < N) → (∀ x ∈ l', x < N) → zFH N l = zFH N l' → l = l'
 | [], [], _, _, _, _ => rfl
 | [], _ :: _, h, _, _, _ => by simp at h
 | _ :: _, [], h, _, _, _ => by simp at h
 | x :: r, y :: q, hl, h, h', e => by
  have h1 := h x (by simp)
  have h2 := h' y (by simp)
  rw [zFH, zFH] at e
  have e1 := congrArg (fun n => n % N) e
  simp only [Nat.add_mul_mod_self_left, Nat.mod_eq_of_lt h1, Nat.mod_eq_of_lt h2] at e1
  subst e1
  have e2 : zFH N r = zFH N q := Nat.eq_of_mul_eq_mul_left (by omega) (show N * zFH N r = N * zFH N q by omega)
  rw [zM2 r q (by simpa using hl) (fun z hz => h z (by simp [hz])) (fun z hz => h' z (by simp [hz])) e2]
/-- An endless row of tables. -/
structure Endless (m N : Nat) (M : Tab) (s : Nat → St) (c r : Nat → Nat) : Prop where
 inv : ∀ k, Inv m N M (s k)
 feas : ∀ k, zDc m N (s k)
 cN : ∀ k, c k < N
 neg : ∀ k, at2 (s k).rows m (c k) < 0
 low : ∀ k a, a < c k → 0 ≤ at2 (s k).rows m a
 lea : ∀ k, Least (s k).rows (s k).basis (c k) N m (r k)
 nx : ∀ k, s (k + 1) = piv (s k) (r k) (c k)
def zCa (m : Nat) (s : St) (v : Nat) : Prop := ∃ i, i < m ∧ s.basis.getD i 0 = v
theorem Inv.nodup {m N : Nat} {M : Tab} {s : St} (h : Inv m N M s) {i k : Nat} (hi : i < m) (hk : k < m) (he : s.basis.getD i 0 = s.basis.getD k 0) : i = k := by
 by_cases e : i = k
 ·exact e
 ·have h1 := h.unit i k (by omega) hk
  have h2 := h.unit i i (by omega) hi
  rw [if_neg e] at h1
  rw [if_pos rfl, he] at h2
  have := h.dp
  omega
theorem Inv.cost_basic {m N : Nat} {M : Tab} {s : St} (h : Inv m N M s) {v : Nat} (hb : zCa m s v) : at2 s.rows m v = 0 := by
 obtain ⟨i, hi, rfl⟩ := hb
 rw [h.unit m i (by omega) hi, if_neg (by omega)]
theorem zEs {m N : Nat} {M : Tab} {s : St} (h : Inv m N M s) {r c : Nat} (hr : r < m) (i : Nat) : (Sx.piv s r c).basis.getD i 0 = if i = r then c else s.basis.getD i 0 := by
 show (s.basis.set r c).getD i 0 = _
 rw [getD_set]
 by_cases e : i = r
 ·rw [if_pos ⟨e, by rw [h.b]; exact hr⟩, if_pos e]
 ·rw [if_neg (fun q => e q.1), if_neg e]
section
variable {m N : Nat} {M : Tab} {s : Nat → St} {c r : Nat → Nat}
theorem Endless.den (h : Endless m N M s c r) (k : Nat) : (s (k + 1)).den = at2 (s k).rows (r k) (c k) := by
 rw [h.nx, zIe]
 have := (h.lea k).pos
 unfold sgZ
 rw [if_neg (by omega)]; omega
theorem Endless.entry (h : Endless m N M s c r) (k : Nat) {i j : Nat} (hi : i < m + 1) (hj : j < N + 1) :
 (s k).den * at2 (s (k + 1)).rows i j = if i = r k then (s k).den * at2 (s k).rows (r k) j else at2 (s k).rows i j * at2 (s k).rows (r k) (c k) - at2 (s k).rows i (c k) * at2 (s k).rows (r k) j := by
 have hp := (h.lea k).pos
 rw [h.nx, (h.inv k).entry (h.lea k).lt (h.cN k) (by omega) hi hj]
 have hsg : sgZ (at2 (s k).rows (r k) (c k)) = 1 := by unfold sgZ; rw [if_neg (by omega)]
 rw [hsg, Int.one_mul]
/-- the value -/
def zIt (N m : Nat) (s : St) : Rat := (at2 s.rows m N : Rat) * (s.den : Rat)⁻¹
theorem zD8 {x : Int} (h : 0 < x) : (0 : Rat) < (x : Rat) := by
 have := (Rat.intCast_lt_intCast (a := 0) (b := x)).2 h
 exact this
theorem zIu {m N : Nat} {s : St} (hd : 0 < s.den) : zIt N m s * (s.den : Rat) = (at2 s.rows m N : Rat) := by
 unfold zIt
 have : (s.den : Rat) ≠ 0 := fun e => by
  have := zD8 hd
  rw [e] at this
  exact absurd this (by decide +kernel)
 rw [Rat.mul_assoc, Rat.inv_mul_cancel _ this, Rat.mul_one]
theorem Endless.value (h : Endless m N M s c r) (k : Nat) : zIt N m (s k) ≤ zIt N m (s (k + 1)) ∧ (zIt N m (s k) = zIt N m (s (k + 1)) → at2 (s k).rows (r k) N = 0) := by
 have hd := (h.inv k).dp
 have hd' := (h.inv (k + 1)).dp
 have hp := (h.lea k).pos
 have h1 := h.entry k (i := m) (j := N) (by omega) (by omega)
 have hrm := (h.lea k).lt
 rw [if_neg (by omega), ← h.den] at h1
 have h2 := zIu (m := m) (N := N) hd
 have h3 := zIu (m := m) (N := N) hd'
 have h4 := congrArg (fun x : Int => (x : Rat)) h1
 simp only [Rat.intCast_mul, Rat.intCast_sub] at h4
 rw [← h2, ← h3] at h4
 have hX : at2 (s k).rows m (c k) * at2 (s k).rows (r k) N ≤ 0 := by
  have := Int.mul_nonneg (show 0 ≤ -(at2 (s k).rows m (c k)) by have := h.neg k; omega) (h.feas k (r k) hrm)
  rw [Int.neg_mul] at this; omega
 have hXr : ((at2 (s k).rows m (c k) : Int) : Rat) * ((at2 (s k).rows (r k) N : Int) : Rat) ≤ 0 := by
  rw [← Rat.intCast_mul]
  exact (Rat.intCast_le_intCast (a := _) (b := 0)).2 hX
 have hpd : (0 : Rat) < ((s k).den : Rat) * ((s (k + 1)).den : Rat) := Rat.mul_pos (zD8 hd) (zD8 hd')
 constructor
 ·refine Rat.le_of_mul_le_mul_right ?_ hpd
  grind
 ·intro e
  rw [← e] at h4
  have h5 : ((at2 (s k).rows m (c k) : Int) : Rat) * ((at2 (s k).rows (r k) N : Int) : Rat) = 0 := by grind
  rw [← Rat.intCast_mul] at h5
  have h6 : at2 (s k).rows m (c k) * at2 (s k).rows (r k) N = 0 := Rat.intCast_inj.1 h5
  rcases Int.mul_eq_zero.1 h6 with h7 | h7
  ·have := h.neg k; omega
  ·exact h7
theorem Endless.mono (h : Endless m N M s c r) (a : Nat) : ∀ d, zIt N m (s a) ≤ zIt N m (s (a + d))
 | 0 => Rat.le_refl
 | d + 1 => Rat.le_trans (h.mono a d) (h.value (a + d)).1
/-- with the same basis the value is the same -/
theorem Endless.same (h : Endless m N M s c r) {a b : Nat} (he : (s a).basis = (s b).basis) : zIt N m (s a) = zIt N m (s b) := by
 have h1 := (h.inv a).cross (h.inv b) (i := m) (c := N) (by omega) (by omega)
 rw [if_pos rfl, zB2 (fun k hk => by rw [he, (h.inv b).unit m k (by omega) hk, if_neg (by omega), Int.zero_mul])] at h1
 have da := (h.inv a).dp
 have db := (h.inv b).dp
 have h2 := zIu (m := m) (N := N) da
 have h3 := zIu (m := m) (N := N) db
 have h4 := congrArg (fun x : Int => (x : Rat)) h1
 simp only [Rat.intCast_mul, Rat.intCast_add, Rat.intCast_zero] at h4
 rw [← h2, ← h3] at h4
 have hpd : (0 : Rat) < ((s a).den : Rat) * ((s b).den : Rat) := Rat.mul_pos (zD8 da) (zD8 db)
 have le1 : zIt N m (s a) ≤ zIt N m (s b) := Rat.le_of_mul_le_mul_right (by grind) hpd
 have le2 : zIt N m (s b) ≤ zIt N m (s a) := Rat.le_of_mul_le_mul_right (by grind) hpd
 exact Rat.le_antisymm le1 le2
theorem Endless.still (h : Endless m N M s c r) {a b : Nat} (he : (s a).basis = (s b).basis) {k : Nat} (h1 : a ≤ k) (h2 : k < b) : at2 (s k).rows (r k) N = 0 := by
 refine (h.value k).2 (Rat.le_antisymm (h.value k).1 ?_)
 have g1 := h.mono (k + 1) (b - (k + 1))
 rw [show k + 1 + (b - (k + 1)) = b by omega] at g1
 have g2 := h.mono a (k - a)
 rw [show a + (k - a) = k by omega] at g2
 rw [← h.same he] at g1
 exact Rat.le_trans g1 g2
/-- a variable has the value 0 -/
def Zero (m N : Nat) (s : St) (v : Nat) : Prop := ∀ i, i < m → s.basis.getD i 0 = v → at2 s.rows i N = 0
theorem Endless.zero (h : Endless m N M s c r) {k : Nat} (h0 : at2 (s k).rows (r k) N = 0) (v : Nat) : Zero m N (s k) v ↔ Zero m N (s (k + 1)) v := by
 have hp := (h.lea k).pos
 have hr := (h.lea k).lt
 have hd := (h.inv k).dp
 have hbas : ∀ i, (s (k + 1)).basis.getD i 0 = if i = r k then c k else (s k).basis.getD i 0 := fun i => by rw [h.nx]; exact zEs (h.inv k) hr i
 have hent : ∀ i, i < m → i ≠ r k → (at2 (s (k + 1)).rows i N = 0 ↔ at2 (s k).rows i N = 0) := by
  intro i hi hne
  have h1 := h.entry k (i := i) (j := N) (by omega) (by omega)
  rw [if_neg hne, h0, Int.mul_zero, Int.sub_zero] at h1
  constructor
  ·intro e
   rw [e, Int.mul_zero] at h1
   rcases Int.mul_eq_zero.1 h1.symm with h2 | h2
   ·exact h2
   ·omega
  ·intro e
   rw [e, Int.zero_mul] at h1
   rcases Int.mul_eq_zero.1 h1 with h2 | h2
   ·omega
   ·exact h2
 constructor
 ·intro hz i hi he
  rw [hbas] at he
  by_cases e : i = r k
  ·have h1 := h.entry k (i := i) (j := N) (by omega) (by omega)
   rw [if_pos e, h0, Int.mul_zero] at h1
   rcases Int.mul_eq_zero.1 h1 with h2 | h2
   ·omega
   ·exact h2
  ·rw [if_neg e] at he
   exact (hent i hi e).2 (hz i hi he)
 ·intro hz i hi he
  by_cases e : i = r k
  ·rw [e]; exact h0
  ·exact (hent i hi e).1 (hz i hi (by rw [hbas, if_neg e]; exact he))
theorem Endless.zeros (h : Endless m N M s c r) {a b : Nat} (he : (s a).basis = (s b).basis) (v : Nat) : ∀ d, a + d ≤ b → (Zero m N (s a) v ↔ Zero m N (s (a + d)) v)
 | 0, _ => Iff.rfl
 | d + 1, hd => (h.zeros he v d (by omega)).trans (h.zero (h.still he (by omega) (by omega)) v)
/-- who is in the basis -/
theorem Endless.stays (h : Endless m N M s c r) {k v : Nat} (hb : zCa m (s k) v) (hv : v ≠ (s k).basis.getD (r k) 0) : zCa m (s (k + 1)) v := by
 obtain ⟨i, hi, rfl⟩ := hb
 refine ⟨i, hi, ?_⟩
 rw [h.nx, zEs (h.inv k) (h.lea k).lt, if_neg]
 intro e; rw [e] at hv; exact hv rfl
theorem Endless.was (h : Endless m N M s c r) {k v : Nat} (hb : zCa m (s (k + 1)) v) (hv : v ≠ c k) : zCa m (s k) v := by
 obtain ⟨i, hi, rfl⟩ := hb
 have h1 := zEs (c := c k) (h.inv k) (h.lea k).lt i
 rw [← h.nx] at h1
 rw [h1] at hv ⊢
 by_cases e : i = r k
 ·rw [if_pos e] at hv; exact absurd rfl hv
 ·rw [if_neg e]; exact ⟨i, hi, rfl⟩
theorem Endless.enters (h : Endless m N M s c r) (k : Nat) : ¬ zCa m (s k) (c k) ∧ zCa m (s (k + 1)) (c k) := by
 constructor
 ·intro hb
  have := (h.inv k).cost_basic hb
  have := h.neg k
  omega
 ·refine ⟨r k, (h.lea k).lt, ?_⟩
  rw [h.nx, zEs (h.inv k) (h.lea k).lt, if_pos rfl]
theorem Endless.false (h : Endless m N M s c r) : False := by
 -- a basis comes twice
 obtain ⟨a, b, hab, he⟩ : ∃ a b, a < b ∧ (s a).basis = (s b).basis := by
  have hlt : ∀ k, ∀ x ∈ (s k).basis, x < N := by
   intro k x hx
   obtain ⟨i, hi, rfl⟩ := List.getElem_of_mem hx
   have := (h.inv k).bc i (by rw [← (h.inv k).b]; exact hi)
   simpa [List.getD, hi] using this
  obtain ⟨a, b, h1, h2, h3⟩ := pig (N ^ m) (fun k => zFH N (s k).basis) (fun k _ => by
   have := zPa (s k).basis (hlt k)
   rwa [(h.inv k).b] at this)
  exact ⟨a, b, h1, zM2 _ _ (by rw [(h.inv a).b, (h.inv b).b]) (hlt a) (hlt b) h3⟩
 -- who is in some basis between, and not in another one, enters
 have fick : ∀ v, (∃ k, a ≤ k ∧ k ≤ b ∧ zCa m (s k) v) → (∃ k, a ≤ k ∧ k ≤ b ∧ ¬ zCa m (s k) v) → ∃ k, a ≤ k ∧ k < b ∧ c k = v := by
  rintro v ⟨k1, l1, l2, hb⟩ ⟨k2, l3, l4, hn⟩
  apply Classical.byContradiction
  intro hno
  have hno : ∀ k, a ≤ k → k < b → v ≠ c k := fun k q1 q2 e => hno ⟨k, q1, q2, e.symm⟩
  have back : ∀ d k, a ≤ k → k + d ≤ b → zCa m (s (k + d)) v → zCa m (s k) v := by
   intro d
   induction d with
   | zero => intro k _ _ hb; exact hb
   | succ d ih => intro k q1 q2 hb; exact ih k q1 (by omega) (h.was hb (hno (k + d) (by omega) (by omega)))
  have ha : zCa m (s a) v := back (k1 - a) a (Nat.le_refl _) (by omega) (by rw [show a + (k1 - a) = k1 by omega]; exact hb)
  have hbb : zCa m (s b) v := by unfold zCa at ha ⊢; rw [← he]; exact ha
  exact hn (back (b - k2) k2 l3 (by omega) (by rw [show k2 + (b - k2) = b by omega]; exact hbb))
 -- the greatest one that enters
 obtain ⟨k', q1, q2, hmax⟩ : ∃ k', a ≤ k' ∧ k' < b ∧ ∀ k, a ≤ k → k < b → c k ≤ c k' := by
  have : ∀ d, a + d < b + 0 → ∃ k', a ≤ k' ∧ k' ≤ a + d ∧ ∀ k, a ≤ k → k ≤ a + d → c k ≤ c k' := by
   intro d
   induction d with
   | zero => intro _; exact ⟨a, Nat.le_refl _, Nat.le_refl _, fun k h1 h2 => by rw [show k = a by omega]; exact Nat.le_refl _⟩
   | succ d ih =>
    intro hd
    obtain ⟨k', g1, g2, g3⟩ := ih (by omega)
    by_cases hc : c k' ≤ c (a + (d + 1))
    ·refine ⟨a + (d + 1), by omega, Nat.le_refl _, fun k h1 h2 => ?_⟩
     by_cases e : k = a + (d + 1)
     ·rw [e]; exact Nat.le_refl _
     ·exact Nat.le_trans (g3 k h1 (by omega)) hc
    ·refine ⟨k', g1, by omega, fun k h1 h2 => ?_⟩
     by_cases e : k = a + (d + 1)
     ·rw [e]; omega
     ·exact g3 k h1 (by omega)
  obtain ⟨k', g1, g2, g3⟩ := this (b - 1 - a) (by omega)
  exact ⟨k', g1, by omega, fun k h1 h2 => g3 k h1 (by omega)⟩
 obtain ⟨t1, t2⟩ := h.enters k'
 -- it leaves, too
 obtain ⟨k, l1, l2, l3⟩ : ∃ k, a ≤ k ∧ k < b ∧ (s k).basis.getD (r k) 0 = c k' := by
  apply Classical.byContradiction
  intro hno
  have hno : ∀ k, a ≤ k → k < b → c k' ≠ (s k).basis.getD (r k) 0 := fun k q1 q2 e => hno ⟨k, q1, q2, e.symm⟩
  have fwd : ∀ d k, a ≤ k → k + d ≤ b → zCa m (s k) (c k') → zCa m (s (k + d)) (c k') := by
   intro d
   induction d with
   | zero => intro k _ _ hb; exact hb
   | succ d ih => intro k q1 q2 hb; exact h.stays (ih k q1 (by omega) hb) (hno (k + d) (by omega) (by omega))
  have hb := fwd (b - (k' + 1)) (k' + 1) (by omega) (by omega) t2
  rw [show k' + 1 + (b - (k' + 1)) = b by omega] at hb
  have ha : zCa m (s a) (c k') := by unfold zCa at hb ⊢; rw [he]; exact hb
  have := fwd (k' - a) a (Nat.le_refl _) (by omega) ha
  rw [show a + (k' - a) = k' by omega] at this
  exact t1 this
 have hc1 := hmax k l1 l2
 have hlea := h.lea k
 have hc2 : c k ≠ c k' := by
  intro e
  exact (h.enters k).1 ⟨r k, hlea.lt, by rw [l3, e]⟩
 have hlow := h.low k' (c k) (by omega)
 have hX := (h.inv k).cross (h.inv k') (i := m) (c := c k) (by omega) (by have := h.cN k; omega)
 rw [if_pos rfl] at hX
 have d1 := (h.inv k).dp
 have d2 := (h.inv k').dp
 have n1 := h.neg k
 have p1 := Int.mul_nonneg (Int.le_of_lt d1) hlow
 have p2 := Int.mul_pos d2 (show 0 < -(at2 (s k).rows m (c k)) by omega)
 rw [Int.mul_neg] at p2
 obtain ⟨i, hi, hpos⟩ := zOD (n := m) (f := fun i => at2 (s k').rows m ((s k).basis.getD i 0) * at2 (s k).rows i (c k)) (by omega)
 have hpos : 0 < at2 (s k').rows m ((s k).basis.getD i 0) * at2 (s k).rows i (c k) := hpos
 have hnb : ¬ zCa m (s k') ((s k).basis.getD i 0) := by
  intro hb
  rw [(h.inv k').cost_basic hb, Int.zero_mul] at hpos
  omega
 obtain ⟨k2, g1, g2, g3⟩ := fick ((s k).basis.getD i 0) ⟨k, l1, by omega, i, hi, rfl⟩ ⟨k', q1, by omega, hnb⟩
 have hle := hmax k2 g1 g2
 rw [g3] at hle
 have hmp : ∀ x y : Int, 0 < x * y → 0 ≤ x → 0 < x ∧ 0 < y := by
  intro x y hxy hx
  by_cases hx0 : x = 0
  ·rw [hx0, Int.zero_mul] at hxy; omega
  ·refine ⟨by omega, ?_⟩
   apply Classical.byContradiction
   intro hy
   have := Int.mul_nonneg hx (show 0 ≤ -y by omega)
   rw [Int.mul_neg] at this
   omega
 by_cases ht : (s k).basis.getD i 0 = c k'
 ·have hir : i = r k := (h.inv k).nodup hi hlea.lt (by rw [ht, l3])
  rw [ht, hir] at hpos
  have h1 := h.neg k'
  have h2 := Int.mul_pos (show 0 < -(at2 (s k').rows m (c k')) by omega) hlea.pos
  rw [Int.neg_mul] at h2
  omega
 ·have hlow2 := h.low k' ((s k).basis.getD i 0) (by omega)
  obtain ⟨w1, w2⟩ := hmp _ _ hpos hlow2
  have z' : Zero m N (s k') ((s k).basis.getD i 0) := fun j hj e => absurd ⟨j, hj, e⟩ hnb
  have za := (h.zeros he ((s k).basis.getD i 0) (k' - a) (by omega)).2 (by rw [show a + (k' - a) = k' by omega]; exact z')
  have zk := (h.zeros he ((s k).basis.getD i 0) (k - a) (by omega)).1 za
  rw [show a + (k - a) = k by omega] at zk
  have h0 := zk i hi rfl
  have hst := h.still he l1 l2
  have := (hlea.le i hi w2).2 (by rw [h0, hst, Int.zero_mul, Int.zero_mul])
  rw [l3] at this
  omega
end
/-- The algorithm ends. -/
theorem ends {m N w : Nat} {M : Tab} {s : St} (hi : Inv m N M s) (hf : zDc m N s) (hw : w ≤ N) : ∃ K, zBw m N w (zAZ m N w s K) = none := by
 apply Classical.byContradiction
 intro hno
 have hno : ∀ k, zBw m N w (zAZ m N w s k) ≠ none := fun k e => hno ⟨k, e⟩
 have hex : ∀ k, ∃ c r, c < w ∧ at2 (zAZ m N w s k).rows m c < 0 ∧ (∀ a, a < c → 0 ≤ at2 (zAZ m N w s k).rows m a) ∧ Least (zAZ m N w s k).rows (zAZ m N w s k).basis c N m r ∧ zAZ m N w s (k + 1) = piv (zAZ m N w s k) r c := by
  intro k
  cases hs : zBw m N w (zAZ m N w s k) with
  | none => exact absurd hs (hno k)
  | some s' =>
   obtain ⟨c, r, h1, h2, h3, h4, h5⟩ := zJL hs
   refine ⟨c, r, h1, h2, h3, h4, ?_⟩
   show (zBw m N w (zAZ m N w s k)).getD _ = _
   rw [hs, ← h5]; rfl
 have both : ∀ k, Inv m N M (zAZ m N w s k) ∧ zDc m N (zAZ m N w s k) := by
  intro k
  induction k with
  | zero => exact ⟨hi, hf⟩
  | succ k ih =>
   obtain ⟨c, r, h1, h2, h3, h4, h5⟩ := hex k
   rw [h5]
   have := h4.pos
   exact ⟨ih.1.piv h4.lt (by omega) (by omega), ih.1.feas_step ih.2 (by omega) h4⟩
 exact Endless.false (m := m) (N := N) (M := M) (s := zAZ m N w s) (c := fun k => Classical.choose (hex k)) (r := fun k => Classical.choose (Classical.choose_spec (hex k)))
  { inv := fun k => (both k).1
    feas := fun k => (both k).2
    cN := fun k => by have := (Classical.choose_spec (Classical.choose_spec (hex k))).1; omega
    neg := fun k => (Classical.choose_spec (Classical.choose_spec (hex k))).2.1
    low := fun k => (Classical.choose_spec (Classical.choose_spec (hex k))).2.2.1
    lea := fun k => (Classical.choose_spec (Classical.choose_spec (hex k))).2.2.2.1
    nx := fun k => (Classical.choose_spec (Classical.choose_spec (hex k))).2.2.2.2 }
end Go.Ax.Sx
namespace Go.Ax.Sx
open Go.Ax.Dt
/-- a row in place of the last one -/
def zBJ (T : Tab) (m : Nat) (L : List Int) : Tab := T.take m ++ [L]
theorem zJf {T : Tab} {m : Nat} (h : m ≤ T.length) (L : List Int) : (zBJ T m L).length = m + 1 := by
 unfold zBJ
 rw [List.length_append, List.length_take]
 show min m T.length + 1 = m + 1
 omega
theorem zJe {T : Tab} {m : Nat} (h : m ≤ T.length) (L : List Int) (i : Nat) : (zBJ T m L).getD i [] = if i < m then T.getD i [] else if i = m then L else [] := by
 unfold zBJ
 simp only [List.getD, List.getElem?_append, List.length_take, Nat.min_eq_left h]
 by_cases h1 : i < m
 ·rw [if_pos h1, if_pos h1, List.getElem?_take, if_pos h1]
 ·rw [if_neg h1, if_neg h1]
  by_cases h2 : i = m
  ·subst h2; simp
  ·rw [if_neg h2]
   have : [L][i - m]? = none := List.getElem?_eq_none (by simp; omega)
   rw [this]; rfl
theorem zF5 {T : Tab} {m : Nat} (h : m ≤ T.length) (L : List Int) {i : Nat} (hi : i < m) (j : Nat) : at2 (zBJ T m L) i j = at2 T i j := by
 unfold at2; rw [zJe h, if_pos hi]
theorem zIA {T : Tab} {m : Nat} (h : m ≤ T.length) (L : List Int) (j : Nat) : at2 (zBJ T m L) m j = L.getD j 0 := by
 unfold at2; rw [zJe h, if_neg (Nat.lt_irrefl _), if_pos rfl]
theorem zA8 {f : Nat → Int} {n j : Nat} (hj : j < n) : ((List.range n).map f).getD j 0 = f j := by simp [List.getD, hj]
/-- Only the last column of the other rows is changed. -/
theorem zNA {m : Nat} {D E : Mx} (hD : ∀ c, c < m + 1 → D m c = if c = m then 1 else 0) (hE : ∀ c, c < m + 1 → E m c = if c = m then 1 else 0) (h : ∀ a c, a < m → c < m → D a c = E a c) : det (m + 1) E = det (m + 1) D := by
 let F : Nat → Mx := fun k a => if a < k then E a else D a
 have step : ∀ k, k ≤ m → det (m + 1) (F k) = det (m + 1) D := by
  intro k
  induction k with
  | zero =>
   intro _
   exact zDT (fun a c _ _ => by show (if a < 0 then E a else D a) c = D a c; rw [if_neg (Nat.not_lt_zero _)])
  | succ k ih =>
   intro hk
   have e : det (m + 1) (F (k + 1)) = det (m + 1) (put (F k) k (E k)) := by
    refine zDT (fun a c _ _ => ?_)
    show (if a < k + 1 then E a else D a) c = (if a = k then E k else (if a < k then E a else D a)) c
    by_cases e1 : a = k
    ·subst e1; rw [if_pos (Nat.lt_succ_self _), if_pos rfl]
    ·rw [if_neg e1]
     by_cases e2 : a < k
     ·rw [if_pos (by omega), if_pos e2]
     ·rw [if_neg (by omega), if_neg e2]
   rw [e, zEe (t := fun i => if i = k then 1 else if i = m then E k m - D k m else 0) (show k < m + 1 by omega), if_pos rfl, Int.one_mul]
   ·exact ih (by omega)
   ·intro c hc
    rw [zOE k m (by omega) (by omega) (by omega) (fun i hi h1 h2 => by rw [if_neg h1, if_neg h2, Int.zero_mul])]
    rw [if_pos rfl, if_neg (by omega), if_pos rfl, Int.one_mul]
    show E k c = (if k < k then E k else D k) c + _ * (if m < k then E m else D m) c
    rw [if_neg (Nat.lt_irrefl _), if_neg (by omega), hD c hc]
    by_cases e3 : c = m
    ·subst e3; rw [if_pos rfl]; omega
    ·rw [if_neg e3, Int.mul_zero, Int.add_zero]
     exact (h k c (by omega) (by omega)).symm
 have h2 := step m (Nat.le_refl _)
 rw [← h2]
 refine zDT (fun a c ha hc => ?_)
 show E a c = (if a < m then E a else D a) c
 by_cases e : a < m
 ·rw [if_pos e]
 ·rw [if_neg e]
  obtain rfl : a = m := by omega
  rw [hD c hc, hE c hc]
/-- the costs of a table, for costs of the columns -/
def zHD (k : Nat → Int) (m N : Nat) (s : St) : List Int := (List.range (N + 1)).map (fun j => s.den * k j - zt (fun i => k (s.basis.getD i 0) * at2 s.rows i j) m)
def recost (k : Nat → Int) (m N : Nat) (s : St) : St := ⟨zBJ s.rows m (zHD k m N s), s.den, s.basis⟩
def zCP (k : Nat → Int) (m N : Nat) (M : Tab) : Tab := zBJ M m ((List.range (N + 1)).map k)
theorem Inv.recost {m N : Nat} {M : Tab} {s : St} (h : Inv m N M s) (k : Nat → Int) (hM : m ≤ M.length) : Inv m N (zCP k m N M) (recost k m N s) := by
 have hT : m ≤ s.rows.length := by rw [h.n]; omega
 have r1 : ∀ i j, i < m → at2 (Sx.recost k m N s).rows i j = at2 s.rows i j := fun i j hi => zF5 hT _ hi j
 have r2 : ∀ j, j < N + 1 → at2 (Sx.recost k m N s).rows m j = s.den * k j - zt (fun i => k (s.basis.getD i 0) * at2 s.rows i j) m := fun j hj => by
  show at2 (zBJ _ _ _) _ _ = _
  rw [zIA hT]
  exact zA8 hj
 have m1 : ∀ i j, i < m → at2 (zCP k m N M) i j = at2 M i j := fun i j hi => zF5 hM _ hi j
 have m2 : ∀ j, j < N + 1 → at2 (zCP k m N M) m j = k j := fun j hj => by
  show at2 (zBJ _ _ _) _ _ = _
  rw [zIA hM]
  exact zA8 hj
 have bD : ∀ (M : Tab) c, c < m + 1 → zC7 M m s.basis m c = if c = m then 1 else 0 := fun M c hc => by
  show (if m < m then zHm M _ else fun c => if c = m then (1 : Int) else 0) c = _
  rw [if_neg (Nat.lt_irrefl _)]
 have bA : ∀ (M : Tab) a c, a < m → zC7 M m s.basis a c = at2 M c (s.basis.getD a 0) := fun M a c ha => by
  show (if a < m then zHm M _ else fun c => if c = a then (1 : Int) else 0) c = _
  rw [if_pos ha]; rfl
 have hdet := zNA (D := zC7 M m s.basis) (E := zC7 (zCP k m N M) m s.basis) (bD M) (bD _) (fun a c ha hc => by rw [bA _ _ _ ha, bA _ _ _ ha, m1 c _ hc])
 refine ⟨zJf hT _, fun x hx => ?_, h.b, h.bc, h.dp, fun i a hi ha => ?_, ?_, fun j hj c hc => ?_⟩
 ·rcases List.mem_append.1 hx with h1 | h1
  ·exact h.row x (List.mem_of_mem_take h1)
  ·rw [List.mem_singleton.1 h1]
   unfold zHD
   rw [List.length_map, List.length_range]
 ·show at2 (Sx.recost k m N s).rows i (s.basis.getD a 0) = if i = a then s.den else 0
  by_cases e : i < m
  ·rw [r1 i _ e, h.unit i a hi ha]
  ·obtain rfl : i = m := by omega
   rw [r2 _ (by have := h.bc a ha; omega), if_neg (by omega)]
   have e2 : ∀ q, q < i → k (s.basis.getD q 0) * at2 s.rows q (s.basis.getD a 0) = if q = a then k (s.basis.getD q 0) * s.den else 0 := by
    intro q hq
    rw [h.unit q a (by omega) ha]
    split
    ·rfl
    ·rw [Int.mul_zero]
   rw [zm e2, zCM (f := fun q => k (s.basis.getD q 0) * s.den) ha, Int.mul_comm]
   omega
 ·obtain ⟨σ, h1, h2⟩ := h.sg
  exact ⟨σ, h1, by show det (m + 1) (zC7 (zCP k m N M) m s.basis) = σ * s.den; rw [hdet, h2]⟩
 ·show zt (fun i => at2 (Sx.recost k m N s).rows i j * zC7 (zCP k m N M) m s.basis i c) (m + 1) = s.den * at2 (zCP k m N M) c j
  show zt (fun i => at2 (Sx.recost k m N s).rows i j * zC7 (zCP k m N M) m s.basis i c) m + at2 (Sx.recost k m N s).rows m j * zC7 (zCP k m N M) m s.basis m c = _
  rw [bD _ c hc]
  have old := h.sol j hj c hc
  have old : zt (fun i => at2 s.rows i j * zC7 M m s.basis i c) m + at2 s.rows m j * zC7 M m s.basis m c = s.den * at2 M c j := old
  rw [bD _ c hc] at old
  by_cases e : c = m
  ·subst e
   rw [if_pos rfl, m2 j hj, r2 j hj]
   have e2 : ∀ i, i < c → at2 (Sx.recost k c N s).rows i j * zC7 (zCP k c N M) c s.basis i c = k (s.basis.getD i 0) * at2 s.rows i j := by
    intro i hi
    rw [r1 i j hi, bA _ _ _ hi, m2 _ (by have := h.bc i hi; omega), Int.mul_comm]
   rw [zm e2]
   omega
  ·rw [if_neg e, Int.mul_zero, Int.add_zero] at *
   rw [m1 c j (by omega), ← old]
   exact zm (fun i hi => by rw [r1 i j hi, bA _ _ _ hi, bA _ _ _ hi, m1 c _ (by omega)])
/-- a row times a vector with few elements -/
theorem zKe {T : Tab} {N m i c : Nat} {d : Int} {p : Nat → Nat} {y : Nat → Int} (hc : c < N + 1) (hp : ∀ k, k < m → p k < N + 1) :
 zBs T N (fun j => (if j = c then d else 0) - zt (fun k => if j = p k then y k else 0) m) i = at2 T i c * d - zt (fun k => at2 T i (p k) * y k) m := by
 unfold zBs
 have e1 : ∀ j, j < N + 1 → at2 T i j * ((if j = c then d else 0) - zt (fun k => if j = p k then y k else 0) m) = (if j = c then at2 T i j * d else 0) + zt (fun k => if j = p k then -(at2 T i j * y k) else 0) m := by
  intro j hj
  rw [Int.mul_sub, Int.sub_eq_add_neg]
  congr 1
  ·split
   ·rfl
   ·rw [Int.mul_zero]
  ·rw [← Int.mul_neg, show -(zt (fun k => if j = p k then y k else 0) m) = zt (fun k => -1 * (if j = p k then y k else 0)) m from by rw [zBK]; omega, ← zBK]
   exact zm (fun k _ => by
    split
    ·rw [Int.neg_mul, Int.one_mul, Int.mul_neg]
    ·rw [Int.mul_zero, Int.mul_zero])
 rw [zm e1, zDH, zCM (f := fun j => at2 T i j * d) hc, zGS, Int.sub_eq_add_neg]
 congr 1
 have e2 : ∀ k, k < m → zt (fun j => if j = p k then -(at2 T i j * y k) else 0) (N + 1) = -1 * (at2 T i (p k) * y k) := by
  intro k hk
  rw [zCM (f := fun j => -(at2 T i j * y k)) (hp k hk)]
  omega
 rw [zm e2, zBK]
 omega
/-- A column for each condition with a 1 or a -1 there, and nothing else. -/
structure Slack (m N n : Nat) (M : Tab) (e : Nat → Int) : Prop where
 lt : n + m < N + 1
 sq : ∀ i, i < m → e i * e i = 1
 at' : ∀ i k, i < m → k < m → at2 M i (n + k) = if i = k then e i else 0
 cost : ∀ k, k < m → at2 M m (n + k) = 0
/-- Each row is a sum of multiples of the rows of the beginning; the factors stand at the slacks. -/
theorem Inv.combo {m N n : Nat} {M : Tab} {s : St} {e : Nat → Int} (h : Inv m N M s) (hs : Slack m N n M e) {q j : Nat} (hq : q < m + 1) (hj : j < N + 1) :
 at2 s.rows q j = zt (fun k => at2 s.rows q (n + k) * (e k * at2 M k j)) m + (if q = m then s.den * at2 M m j else 0) := by
 have hlt := hs.lt
 have hp : ∀ k, k < m → n + k < N + 1 := fun k hk => by omega
 have hker := (h.ker (fun v => (if v = j then 1 else 0) - zt (fun k => if v = n + k then e k * at2 M k j else 0) m) (-(at2 M m j))).1 (fun i hi => by
  rw [zKe hj hp, Int.mul_one]
  by_cases e1 : i = m
  ·subst e1
   rw [if_pos rfl, zB2 (fun k hk => by rw [hs.cost k hk, Int.zero_mul])]
   omega
  ·rw [if_neg e1]
   have e2 : ∀ k, k < m → at2 M i (n + k) * (e k * at2 M k j) = if k = i then e k * (e k * at2 M k j) else 0 := by
    intro k hk
    rw [hs.at' i k (by omega) hk]
    by_cases e3 : i = k
    ·rw [if_pos e3, if_pos e3.symm, e3]
    ·rw [if_neg e3, if_neg (fun q => e3 q.symm), Int.zero_mul]
   rw [zm e2, zCM (f := fun k => e k * (e k * at2 M k j)) (by omega), ← Int.mul_assoc, hs.sq i (by omega), Int.one_mul]
   omega) q hq
 rw [zKe hj hp, Int.mul_one] at hker
 by_cases e1 : q = m
 ·rw [if_pos e1] at hker ⊢
  rw [Int.mul_neg] at hker
  omega
 ·rw [if_neg e1] at hker ⊢
  omega
/-- The beginning: unit columns in the basis. -/
theorem Inv.init {T : Tab} {β : List Nat} {m N : Nat} (h1 : T.length = m + 1) (h2 : ∀ x ∈ T, x.length = N + 1) (h3 : β.length = m) (h4 : ∀ i, i < m → β.getD i 0 < N) (h5 : ∀ i k, i < m + 1 → k < m → at2 T i (β.getD k 0) = if i = k then 1 else 0) : Inv m N T ⟨T, 1, β⟩ := by
 have hu : ∀ a c, a < m + 1 → c < m + 1 → zC7 T m β a c = zK0 a c := by
  intro a c ha hc
  show (if a < m then zHm T _ else fun c => if c = a then (1 : Int) else 0) c = if a = c then 1 else 0
  by_cases e : a < m
  ·rw [if_pos e]
   show at2 T c _ = _
   rw [h5 c a hc e]
   by_cases e2 : c = a
   ·rw [if_pos e2, if_pos e2.symm]
   ·rw [if_neg e2, if_neg (fun q => e2 q.symm)]
  ·rw [if_neg e]
   by_cases e2 : c = a
   ·rw [if_pos e2]; exact (if_pos e2.symm).symm
   ·rw [if_neg e2]; exact (if_neg (fun q => e2 q.symm)).symm
 refine ⟨h1, h2, h3, h4, by show (0 : Int) < 1; omega, h5, ⟨1, Z, ?_⟩, fun j hj c hc => ?_⟩
 ·show det (m + 1) (zC7 T m β) = 1 * 1
  rw [zDT hu, zNB]; rfl
 ·show zt (fun i => at2 T i j * zC7 T m β i c) (m + 1) = 1 * at2 T c j
  have e : ∀ i, i < m + 1 → at2 T i j * zC7 T m β i c = if i = c then at2 T i j else 0 := by
   intro i hi
   rw [hu i c hi hc]
   show _ * (if i = c then (1 : Int) else 0) = _
   split
   ·rw [Int.mul_one]
   ·rw [Int.mul_zero]
  rw [zm e, zCM (f := fun i => at2 T i j) hc, Int.one_mul]
end Go.Ax.Sx
namespace Go.Ax.Rt
open Go.Ax.Bg Go.Ax.Dt
theorem zDu {α : Type} {l : List α} {j : Nat} (d : α) (h : j < l.length) : l.getD j d = l[j] := by simp [List.getD, h]
theorem zAA {α : Type} {l : List α} {j : Nat} (d : α) (h : j < l.length) : l.getD j d ∈ l := by rw [zDu d h]; exact List.getElem_mem h
theorem zHM {α : Type} {l r : List α} {j : Nat} (d : α) (h : j < l.length) : (l ++ r).getD j d = l.getD j d := by simp [List.getD, List.getElem?_append_left h]
theorem zPp {α : Type} {l : List α} {x d : α} : (l ++ [x]).getD l.length d = x := by simp [List.getD]
theorem zJr (q : Rat) : q * (q.den : Rat) = (q.num : Rat) := by
 have h : ((q.den : Int) : Rat) ≠ 0 := fun e => q.den_nz (by
  have := congrArg Rat.num e
  simpa using this)
 have h2 := Rat.num_divInt_den q
 rw [Rat.divInt_eq_div] at h2
 conv => lhs; lhs; rw [← h2]
 rw [← Rat.intCast_natCast, Rat.div_mul_cancel h]
/-- The factor that makes a row whole. -/
def zCp : Nat → List Rat → Nat
 | f, [] => f
 | f, q :: r => zCp (f * (q.den / Nat.gcd f q.den)) r
theorem fac_step (f d : Nat) : f ∣ f * (d / Nat.gcd f d) ∧ d ∣ f * (d / Nat.gcd f d) := by
 refine ⟨Nat.dvd_mul_right _ _, ?_⟩
 obtain ⟨a, ha⟩ := Nat.gcd_dvd_left f d
 have h2 : Nat.gcd f d * (d / Nat.gcd f d) = d := Nat.mul_div_cancel' (Nat.gcd_dvd_right f d)
 refine ⟨a, ?_⟩
 generalize d / Nat.gcd f d = b at *
 generalize Nat.gcd f d = g at *
 rw [ha, ← h2]
 rw [Nat.mul_assoc, Nat.mul_assoc, Nat.mul_comm a b]
theorem zNG : ∀ (l : List Rat) (f : Nat), f ∣ zCp f l ∧ ∀ q ∈ l, q.den ∣ zCp f l
 | [], f => ⟨Nat.dvd_refl _, fun q hq => by simp at hq⟩
 | a :: r, f => by
  rw [zCp]
  obtain ⟨h1, h2⟩ := zNG r (f * (a.den / Nat.gcd f a.den))
  obtain ⟨s1, s2⟩ := fac_step f a.den
  refine ⟨Nat.dvd_trans s1 h1, fun q hq => ?_⟩
  rcases List.mem_cons.1 hq with rfl | hq
  ·exact Nat.dvd_trans s2 h1
  ·exact h2 q hq
theorem zIT : ∀ (l : List Rat) (f : Nat), 0 < f → 0 < zCp f l
 | [], f, h => h
 | a :: r, f, h => by
  rw [zCp]
  refine zIT r _ (Nat.mul_pos h ?_)
  have h2 : Nat.gcd f a.den * (a.den / Nat.gcd f a.den) = a.den := Nat.mul_div_cancel' (Nat.gcd_dvd_right f a.den)
  have := a.den_pos
  rcases Nat.eq_zero_or_pos (a.den / Nat.gcd f a.den) with e | e
  ·rw [e, Nat.mul_zero] at h2; omega
  ·exact e
theorem zIS {k : Nat} : ∀ (l : List Rat) (f : Nat), (∀ q ∈ l, q.den < 10 ^ k) → zCp f l ≤ f * 10 ^ (k * l.length)
 | [], f, _ => by rw [zCp, List.length_nil, Nat.mul_zero, Nat.pow_zero, Nat.mul_one]; exact Nat.le_refl _
 | a :: r, f, h => by
  rw [zCp]
  refine Nat.le_trans (zIS r _ (fun q hq => h q (by simp [hq]))) ?_
  have h1 : a.den / Nat.gcd f a.den ≤ 10 ^ k := Nat.le_trans (Nat.div_le_self _ _) (Nat.le_of_lt (h a (by simp)))
  rw [List.length_cons, Nat.mul_add, Nat.mul_one, Nat.add_comm, Nat.pow_add, ← Nat.mul_assoc]
  exact Nat.mul_le_mul_right _ (Nat.mul_le_mul_left _ h1)
def zAj (l : List Rat) : List Int := l.map (fun q => q.num * ((zCp 1 l / q.den : Nat) : Int))
theorem zGW (l : List Rat) : (zAj l).length = l.length := by simp [zAj]
theorem zL5 {l : List Rat} {q : Rat} (h : q ∈ l) : ((q.num * ((zCp 1 l / q.den : Nat) : Int) : Int) : Rat) = ((zCp 1 l : Nat) : Rat) * q := by
 obtain ⟨k, hk⟩ := (zNG l 1).2 q h
 rw [hk, Nat.mul_div_cancel_left _ q.den_pos, Rat.intCast_mul, Rat.natCast_mul]
 have h1 : q * (q.den : Rat) = (q.num : Rat) := zJr q
 have h2 : ((k : Int) : Rat) = (k : Rat) := Rat.intCast_natCast k
 rw [h2, ← h1]
 grind
theorem zL4 {l : List Rat} {k : Nat} (h : ∀ q ∈ l, D k q) : ∀ x ∈ zAj l, x.natAbs ≤ 10 ^ (k + k * l.length) := by
 intro x hx
 obtain ⟨q, hq, rfl⟩ := List.mem_map.1 hx
 rw [Int.natAbs_mul, Int.natAbs_natCast, Nat.pow_add]
 refine Nat.mul_le_mul (Nat.le_of_lt (h q hq).1) ?_
 have := zIS l 1 (fun q hq => (h q hq).2)
 rw [Nat.one_mul] at this
 exact Nat.le_trans (Nat.div_le_self _ _) this
theorem fct_le : ∀ {n : Nat}, n ≤ 40 → fct n ≤ 100 ^ n
 | 0, _ => Nat.le_refl _
 | n + 1, h => by
  rw [fct, Nat.pow_succ, Nat.mul_comm]
  exact Nat.mul_le_mul (fct_le (by omega)) (by omega)
theorem zPh {n k : Nat} (h : n ≤ 40) : fct n * (10 ^ k) ^ n ≤ 10 ^ ((k + 2) * n) := by
 refine Nat.le_trans (Nat.mul_le_mul_right _ (fct_le h)) ?_
 rw [← Nat.mul_pow, Nat.pow_mul, Nat.pow_add]
 refine Nat.pow_le_pow_left ?_ n
 rw [Nat.mul_comm]
 exact Nat.le_refl _
theorem zF2 (f : Nat → Int) : ∀ n, ((zt f n : Int) : Rat) = zAN (fun i => ((f i : Int) : Rat)) n
 | 0 => rfl
 | n + 1 => by rw [zt, zAN, Rat.intCast_add, zF2 f n]
theorem zJp {x : Int} (h : x ≠ 0) : (x : Rat) ≠ 0 := fun e => h (by
 have := congrArg Rat.num e
 simpa using this)
end Go.Ax.Rt
namespace Go.Ax.Sx
open Go.Ax.Dt Go.Ax.Rt Go.Ax.Bg
/-- the first conditions that need an artificial unknown -/
def zAT (B : List Rat) : Nat → List Nat
 | 0 => []
 | k + 1 => if (B.getD k 0).num < 0 then zAT B k ++ [k] else zAT B k
abbrev zBc (B : List Rat) (i : Nat) : Nat := (zAT B i).length
abbrev zGY (B : List Rat) : Nat := zBc B B.length
theorem zIc {B : List Rat} : ∀ {n k : Nat}, k ∈ zAT B n ↔ k < n ∧ (B.getD k 0).num < 0
 | 0, k => by simp [zAT]
 | n + 1, k => by
  rw [zAT]
  split
  ·rename_i h
   rw [List.mem_append, zIc, List.mem_singleton]
   constructor
   ·rintro (h1 | h1)
    ·exact ⟨by omega, h1.2⟩
    ·rw [h1]; exact ⟨by omega, h⟩
   ·rintro ⟨h1, h2⟩
    by_cases e : k = n
    ·exact .inr e
    ·exact .inl ⟨by omega, h2⟩
  ·rename_i h
   rw [zIc]
   constructor
   ·rintro ⟨h1, h2⟩; exact ⟨by omega, h2⟩
   ·rintro ⟨h1, h2⟩
    refine ⟨?_, h2⟩
    by_cases e : k = n
    ·rw [e] at h2; exact absurd h2 h
    ·omega
theorem zMu (B : List Rat) (i : Nat) : ∀ d, zBc B i ≤ zBc B (i + d)
 | 0 => Nat.le_refl _
 | d + 1 => by
  refine Nat.le_trans (zMu B i d) ?_
  show _ ≤ (zAT B (i + d + 1)).length
  rw [zAT]
  split
  ·rw [List.length_append]; exact Nat.le_add_right _ _
  ·exact Nat.le_refl _
theorem zMv {B : List Rat} {i : Nat} (h : (B.getD i 0).num < 0) : zBc B (i + 1) = zBc B i + 1 := by
 show (zAT B (i + 1)).length = _
 rw [zAT, if_pos h, List.length_append]; rfl
theorem zI3 {B : List Rat} {i k : Nat} (h : (B.getD i 0).num < 0) (hk : i < k) : zBc B i < zBc B k := by
 have h1 := zMu B (i + 1) (k - (i + 1))
 rw [show i + 1 + (k - (i + 1)) = k by omega, zMv h] at h1
 omega
theorem art_inj {B : List Rat} {i k : Nat} (h : (B.getD i 0).num < 0) (h' : (B.getD k 0).num < 0) (e : zBc B i = zBc B k) : i = k := by
 by_cases h1 : i < k
 ·have := zI3 h h1; omega
 ·by_cases h2 : k < i
  ·have := zI3 h' h2; omega
  ·omega
theorem zJ5 (B : List Rat) : ∀ i, zBc B i ≤ i
 | 0 => Nat.le_refl _
 | i + 1 => by
  show (zAT B (i + 1)).length ≤ _
  rw [zAT]
  have := zJ5 B i
  split
  ·rw [List.length_append]
   show zBc B i + 1 ≤ _
   omega
  ·show zBc B i ≤ _
   omega
/-- a row before its sign is considered -/
def zIE (n m a : Nat) (l : List Int) (i j : Nat) : Int := if j < n then l.getD j 0 else if j = n + i then 1 else if j = n + m + a then l.getD n 0 else 0
def zG3 (n m a : Nat) (l : List Int) (i : Nat) (neg : Bool) (k j : Nat) : Int := if neg then (if j = n + m + k then 1 else -(zIE n m a l i j)) else zIE n m a l i j
def zDG (n m a : Nat) (l : List Int) (i : Nat) (neg : Bool) (k : Nat) : List Int := (List.range (n + m + a + 1)).map (zG3 n m a l i neg k)
/-- a linear program: the conditions, the right sides, and the costs -/
structure Prog where
 A : List (List Rat)
 B : List Rat
 C : List Rat
abbrev Prog.n (p : Prog) : Nat := p.C.length
abbrev Prog.m (p : Prog) : Nat := p.B.length
abbrev Prog.a (p : Prog) : Nat := zGY p.B
abbrev Prog.N (p : Prog) : Nat := p.C.length + p.B.length + zGY p.B
abbrev Prog.neg (p : Prog) (i : Nat) : Bool := decide ((p.B.getD i 0).num < 0)
def Prog.full (p : Prog) (i : Nat) : List Rat := p.A.getD i [] ++ [p.B.getD i 0]
def Prog.whole (p : Prog) (i : Nat) : List Int := zAj (p.full i)
/-- the factor of a row -/
def Prog.fac (p : Prog) (i : Nat) : Nat := zCp 1 (p.full i)
structure Prog.Ok (p : Prog) : Prop where
 rows : p.A.length = p.B.length
 cols : ∀ r ∈ p.A, r.length = p.C.length
def zBA (p : Prog) : Tab := (List.range p.m).map (fun i => zDG p.n p.m p.a (p.whole i) i (p.neg i) (zBc p.B i))
def zBb (p : Prog) : List Nat := (List.range p.m).map (fun i => if p.neg i then p.n + p.m + zBc p.B i else p.n + i)
def zAM (p : Prog) : St := ⟨zBA p ++ [List.replicate (p.N + 1) 0], 1, zBb p⟩
/-- the sign of a row -/
def Prog.eps (p : Prog) (i : Nat) : Int := if p.neg i then -1 else 1
theorem zMN (p : Prog) (i : Nat) : p.eps i * p.eps i = 1 := by unfold Prog.eps; split <;> rfl
theorem zCY (p : Prog) : (zBA p).length = p.m := by simp [zBA]
theorem zGR (p : Prog) : (zBb p).length = p.m := by simp [zBb]
theorem zCr {α : Type} {f : Nat → α} {n j : Nat} {d : α} (hj : j < n) : ((List.range n).map f).getD j d = f j := by simp [List.getD, hj]
theorem zG8 (p : Prog) {i j : Nat} (hi : i < p.m) (hj : j < p.N + 1) : at2 (zAM p).rows i j = zG3 p.n p.m p.a (p.whole i) i (p.neg i) (zBc p.B i) j := by
 unfold at2
 have e : (zAM p).rows.getD i [] = zDG p.n p.m p.a (p.whole i) i (p.neg i) (zBc p.B i) := by
  show (zBA p ++ _).getD i [] = _
  rw [zHM [] (by rw [zCY]; exact hi)]
  exact zCr hi
 rw [e]
 exact zCr hj
theorem zGg (p : Prog) (j : Nat) : at2 (zAM p).rows p.m j = 0 := by
 unfold at2
 have e : (zAM p).rows.getD p.m [] = List.replicate (p.N + 1) 0 := by
  show (zBA p ++ [_]).getD p.m [] = _
  rw [← zCY p]
  exact zPp
 rw [e]
 simp only [List.getD, List.getElem?_replicate]
 split <;> rfl
theorem zGQ (p : Prog) {i : Nat} (hi : i < p.m) : (zBb p).getD i 0 = if p.neg i then p.n + p.m + zBc p.B i else p.n + i := zCr hi
/-- the elements of the first table -/
theorem zJy (p : Prog) {i j : Nat} (hi : i < p.m) (hj : j < p.n) : at2 (zAM p).rows i j = p.eps i * (p.whole i).getD j 0 := by
 have hjn : j < p.C.length := hj
 have hii : i < p.B.length := hi
 rw [zG8 p hi (by show j < p.C.length + p.B.length + zGY p.B + 1; omega)]
 unfold zG3 Prog.eps zIE
 by_cases e : p.neg i = true
 ·rw [if_pos e, if_pos e, if_pos hj, if_neg (by show ¬ j = p.C.length + p.B.length + zBc p.B i; omega)]; omega
 ·rw [if_neg e, if_neg e, if_pos hj]; omega
theorem zIp (p : Prog) {i k : Nat} (hi : i < p.m) (hk : k < p.m) : at2 (zAM p).rows i (p.n + k) = if i = k then p.eps i else 0 := by
 have hii : i < p.B.length := hi
 have hkk : k < p.B.length := hk
 rw [zG8 p hi (by show p.C.length + k < p.C.length + p.B.length + zGY p.B + 1; omega)]
 unfold zG3 Prog.eps zIE
 have h1 : ¬ p.n + k < p.n := by omega
 have h2 : ¬ p.n + k = p.n + p.m + zBc p.B i := by show ¬ p.C.length + k = p.C.length + p.B.length + zBc p.B i; omega
 have h3 : ¬ p.n + k = p.n + p.m + p.a := by show ¬ p.C.length + k = p.C.length + p.B.length + zGY p.B; omega
 rw [if_neg h2, if_neg h1, if_neg h3]
 by_cases e : i = k
 ·subst e
  rw [if_pos rfl, if_pos rfl]
 ·rw [if_neg (show ¬ p.n + k = p.n + i by omega), if_neg e]
  split <;> rfl
theorem zMk (p : Prog) {i k : Nat} (hi : i < p.m) (hk : k < p.a) : at2 (zAM p).rows i (p.n + p.m + k) = if p.neg i = true ∧ k = zBc p.B i then 1 else 0 := by
 have hii : i < p.B.length := hi
 have hkk : k < zGY p.B := hk
 rw [zG8 p hi (by show p.C.length + p.B.length + k < p.C.length + p.B.length + zGY p.B + 1; omega)]
 unfold zG3 zIE
 have h1 : ¬ p.n + p.m + k < p.n := by omega
 have h2 : ¬ p.n + p.m + k = p.n + i := by show ¬ p.C.length + p.B.length + k = p.C.length + i; omega
 have h3 : ¬ p.n + p.m + k = p.n + p.m + p.a := by show ¬ p.C.length + p.B.length + k = p.C.length + p.B.length + zGY p.B; omega
 rw [if_neg h1, if_neg h2, if_neg h3]
 by_cases e : p.neg i = true
 ·rw [if_pos e]
  by_cases e2 : k = zBc p.B i
  ·rw [if_pos (by omega), if_pos ⟨e, e2⟩]
  ·rw [if_neg (by omega), if_neg (fun q => e2 q.2)]; rfl
 ·rw [if_neg e, if_neg (fun q => e q.1)]
theorem zIo (p : Prog) {i : Nat} (hi : i < p.m) : at2 (zAM p).rows i p.N = p.eps i * (p.whole i).getD p.n 0 := by
 have hii : i < p.B.length := hi
 rw [zG8 p hi (by show p.C.length + p.B.length + zGY p.B < p.C.length + p.B.length + zGY p.B + 1; omega)]
 unfold zG3 Prog.eps zIE
 have h1 : ¬ p.N < p.n := by show ¬ p.C.length + p.B.length + zGY p.B < p.C.length; omega
 have h2 : ¬ p.N = p.n + i := by show ¬ p.C.length + p.B.length + zGY p.B = p.C.length + i; omega
 have h3 : p.N = p.n + p.m + p.a := rfl
 rw [if_neg h1, if_neg h2, if_pos h3]
 by_cases e : p.neg i = true
 ·have e2 : (p.B.getD i 0).num < 0 := by simpa using e
  have h4 : zBc p.B i < zGY p.B := zI3 e2 hii
  rw [if_pos e, if_pos e, if_neg (by show ¬ p.C.length + p.B.length + zGY p.B = p.C.length + p.B.length + zBc p.B i; omega)]; omega
 ·rw [if_neg e, if_neg e]; omega
theorem zN9 (p : Prog) : Slack p.m p.N p.n (zAM p).rows p.eps := by
 refine ⟨by show p.C.length + p.B.length < p.C.length + p.B.length + zGY p.B + 1; omega, fun i _ => zMN p i, fun i k hi hk => zIp p hi hk, fun k _ => zGg p _⟩
theorem zEt (p : Prog) : Inv p.m p.N (zAM p).rows (zAM p) := by
 refine Inv.init ?_ ?_ (zGR p) ?_ ?_
 ·show (zBA p ++ [_]).length = _
  rw [List.length_append, zCY]; rfl
 ·intro x hx
  rcases List.mem_append.1 hx with h | h
  ·obtain ⟨i, _, rfl⟩ := List.mem_map.1 h
   unfold zDG
   rw [List.length_map, List.length_range]
  ·rw [List.mem_singleton.1 h, List.length_replicate]
 ·intro i hi
  have hii : i < p.B.length := hi
  rw [zGQ p hi]
  show (if p.neg i = true then p.C.length + p.B.length + zBc p.B i else p.C.length + i) < p.C.length + p.B.length + zGY p.B
  by_cases e : p.neg i = true
  ·have h3 : zBc p.B i < zGY p.B := zI3 (by simpa using e) hii
   rw [if_pos e]
   exact Nat.add_lt_add_left h3 _
  ·rw [if_neg e]
   omega
 ·intro i k hi hk
  have hkk : k < p.B.length := hk
  rw [zGQ p hk]
  by_cases him : i = p.m
  ·rw [him, zGg, if_neg (by show ¬ p.B.length = k; omega)]
  ·have hi' : i < p.m := Nat.lt_of_le_of_ne (Nat.le_of_lt_succ hi) him
   by_cases e : p.neg k = true
   ·have e2 : (p.B.getD k 0).num < 0 := by simpa using e
    rw [if_pos e, zMk p hi' (zI3 e2 hkk)]
    by_cases e3 : i = k
    ·subst e3; rw [if_pos ⟨e, rfl⟩, if_pos rfl]
    ·rw [if_neg e3, if_neg]
     rintro ⟨q1, q2⟩
     exact e3 (art_inj (by simpa using q1) e2 q2.symm)
   ·rw [if_neg e, zIp p hi' hk]
    by_cases e3 : i = k
    ·subst e3; rw [if_pos rfl, if_pos rfl]; unfold Prog.eps; rw [if_neg e]
    ·rw [if_neg e3, if_neg e3]
theorem zD2 (p : Prog) (hp : p.Ok) {i : Nat} (hi : i < p.m) : (p.full i).length = p.n + 1 := by
 unfold Prog.full
 rw [List.length_append, hp.cols _ (zAA [] (by rw [hp.rows]; exact hi))]; rfl
theorem zJR (p : Prog) (hp : p.Ok) {i j : Nat} (hi : i < p.m) (hj : j < p.n + 1) : (p.whole i).getD j 0 = ((p.full i).getD j 0).num * ((p.fac i / ((p.full i).getD j 0).den : Nat) : Int) := by
 unfold Prog.whole zAj
 rw [zCK _ _ 0 _ _ (by rw [zD2 p hp hi]; exact hj)]
 rfl
theorem zHY (p : Prog) (hp : p.Ok) {i j : Nat} (hi : i < p.m) (hj : j < p.n + 1) : (((p.whole i).getD j 0 : Int) : Rat) = ((p.fac i : Nat) : Rat) * (p.full i).getD j 0 := by
 rw [zJR p hp hi hj]
 exact zL5 (zAA 0 (by rw [zD2 p hp hi]; exact hj))
theorem full_x (p : Prog) (hp : p.Ok) {i j : Nat} (hi : i < p.m) (hj : j < p.n) : (p.full i).getD j 0 = (p.A.getD i []).getD j 0 := by
 unfold Prog.full
 rw [zHM 0 (by rw [hp.cols _ (zAA [] (by rw [hp.rows]; exact hi))]; exact hj)]
theorem zOn (p : Prog) (hp : p.Ok) {i : Nat} (hi : i < p.m) : (p.full i).getD p.n 0 = p.B.getD i 0 := by
 unfold Prog.full
 have := hp.cols _ (zAA [] (show i < p.A.length by rw [hp.rows]; exact hi))
 show (p.A.getD i [] ++ [_]).getD p.C.length 0 = _
 rw [← this]
 exact zPp
theorem zKn (p : Prog) (hp : p.Ok) : zDc p.m p.N (zAM p) := by
 intro i hi
 rw [zIo p hi, zJR p hp hi (Nat.lt_succ_self _), zOn p hp hi]
 have h2 : (0 : Int) ≤ ((p.fac i / (p.B.getD i 0).den : Nat) : Int) := Int.natCast_nonneg _
 unfold Prog.eps
 split
 ·rename_i e
  have e2 : (p.B.getD i 0).num < 0 := by simpa using e
  have := Int.mul_nonneg (show 0 ≤ -(p.B.getD i 0).num by omega) h2
  rw [Int.neg_mul] at this
  omega
 ·rename_i e
  have e2 : ¬ (p.B.getD i 0).num < 0 := by simpa using e
  have := Int.mul_nonneg (show 0 ≤ (p.B.getD i 0).num by omega) h2
  omega
theorem zFA (f : Nat → Int) (a : Nat) : ∀ b, zt f (a + b) = zt f a + zt (fun k => f (a + k)) b
 | 0 => by show zt f a = zt f a + 0; omega
 | b + 1 => by
  show zt f (a + b) + f (a + b) = zt f a + (zt (fun k => f (a + k)) b + f (a + b))
  rw [zFA f a b]; omega
theorem zFR : ∀ {n : Nat} {f : Nat → Int}, (∀ i, i < n → 0 ≤ f i) → 0 ≤ zt f n
 | 0, f, _ => Int.le_refl 0
 | n + 1, f, h => by
  have h1 := zFR (n := n) (f := f) (fun i hi => h i (by omega))
  have h2 := h n (Nat.lt_succ_self n)
  show 0 ≤ zt f n + f n
  omega
theorem zL0 : ∀ {n : Nat} {f : Nat → Int}, (∀ i, i < n → 0 ≤ f i) → zt f n = 0 → ∀ i, i < n → f i = 0
 | 0, f, _, _, i, hi => absurd hi (Nat.not_lt_zero i)
 | n + 1, f, h, h0, i, hi => by
  have h1 := zFR (n := n) (f := f) (fun i hi => h i (by omega))
  have h2 := h n (Nat.lt_succ_self n)
  have h0 : zt f n + f n = 0 := h0
  by_cases e : i = n
  ·rw [e]; omega
  ·exact zL0 (n := n) (fun i hi => h i (by omega)) (by omega) i (by omega)
theorem zEp {m N w : Nat} {M : Tab} {s : St} (hi : Inv m N M s) (hf : zDc m N s) (hw : w ≤ N) : ∀ K, Inv m N M (zAZ m N w s K) ∧ zDc m N (zAZ m N w s K)
 | 0 => ⟨hi, hf⟩
 | K + 1 => by
  obtain ⟨h1, h2⟩ := zEp hi hf hw K
  show Inv m N M ((zBw m N w (zAZ m N w s K)).getD _) ∧ zDc m N ((zBw m N w (zAZ m N w s K)).getD _)
  cases hs : zBw m N w (zAZ m N w s K) with
  | none => exact ⟨h1, h2⟩
  | some s' =>
   obtain ⟨c, r, g1, g2, g3, g4, rfl⟩ := zJL hs
   have := g4.pos
   exact ⟨h1.piv g4.lt (by omega) (by omega), h1.feas_step h2 (by omega) g4⟩
/-- the column that enters, or w -/
def zCI (m w : Nat) (s : St) : Nat := zCR s.rows m w 0
theorem zLt {m N w : Nat} {s : St} (h : zBw m N w s = none) :
 (zCI m w s = w ∧ ∀ a, a < w → 0 ≤ at2 s.rows m a) ∨ (zCI m w s < w ∧ at2 s.rows m (zCI m w s) < 0 ∧ ∀ i, i < m → at2 s.rows i (zCI m w s) ≤ 0) := by
 unfold zBw at h
 obtain ⟨e1, e2, e3, e4⟩ := zE1 s.rows m w 0
 split at h
 ·rename_i h1
  exact .inl ⟨h1, fun a ha => e3 a (Nat.zero_le _) (by rw [h1]; exact ha)⟩
 ·split at h
  ·rename_i h1 _ hl
   exact .inr ⟨by unfold zCI; omega, e4 (by omega), zHs _ _ _ _ _ hl⟩
  ·cases h
/-- The vector of a column: it satisfies the conditions of the beginning. -/
def zBT (m : Nat) (s : St) (c j : Nat) : Int := (if j = c then s.den else 0) - zt (fun k => if j = s.basis.getD k 0 then at2 s.rows k c else 0) m
section
variable {m N w : Nat} {M : Tab} {s : St}
theorem Inv.vec (h : Inv m N M s) {c : Nat} (hc : c < N + 1) {i : Nat} (hi : i < m + 1) : zBs M N (zBT m s c) i = if i = m then at2 s.rows m c else 0 := by
 have := (h.ker (zBT m s c) (-(at2 s.rows m c))).2 (fun i hi => by
  rw [show zBs s.rows N (zBT m s c) i = at2 s.rows i c * s.den - zt (fun k => at2 s.rows i (s.basis.getD k 0) * at2 s.rows k c) m from zKe hc (fun k hk => by have := h.bc k hk; omega)]
  by_cases e : i = m
  ·subst e
   rw [if_pos rfl, zB2 (fun k hk => by rw [h.unit i k (by omega) hk, if_neg (by omega), Int.zero_mul]), Int.mul_neg, Int.mul_comm]
   omega
  ·rw [if_neg e]
   have e3 : ∀ k, k < m → at2 s.rows i (s.basis.getD k 0) * at2 s.rows k c = if k = i then s.den * at2 s.rows k c else 0 := by
    intro k hk
    rw [h.unit i k hi hk]
    by_cases e4 : i = k
    ·rw [if_pos e4, if_pos e4.symm]
    ·rw [if_neg e4, if_neg (fun q => e4 q.symm), Int.zero_mul]
   rw [zm e3, zCM (f := fun k => s.den * at2 s.rows k c) (by omega), Int.mul_comm]
   omega) i hi
 by_cases e : i = m
 ·rw [if_pos e] at this ⊢; omega
 ·rw [if_neg e] at this ⊢; omega
theorem Inv.vec_basic (h : Inv m N M s) {c k : Nat} (hk : k < m) : zBT m s c (s.basis.getD k 0) = (if s.basis.getD k 0 = c then s.den else 0) - at2 s.rows k c := by
 unfold zBT
 congr 1
 rw [zEM k hk (fun i hi hne => by rw [if_neg (fun e => hne (h.nodup hi hk e.symm))]), if_pos rfl]
theorem zGV {c j : Nat} (hn : ∀ k, k < m → s.basis.getD k 0 ≠ j) : zBT m s c j = if j = c then s.den else 0 := by
 unfold zBT
 rw [zB2 (fun k hk => by rw [if_neg (fun e => hn k hk e.symm)]), Int.sub_zero]
theorem Inv.vec_end (h : Inv m N M s) : zBT m s N N = s.den := by
 rw [zGV (fun k hk => by have := h.bc k hk; omega), if_pos rfl]
/-- the values are not negative -/
theorem Inv.vec_val (h : Inv m N M s) (hf : zDc m N s) {j : Nat} (hj : j < N) : zBT m s N j ≤ 0 := by
 by_cases hb : zCa m s j
 ·obtain ⟨k, hk, rfl⟩ := hb
  rw [h.vec_basic hk, if_neg (by omega)]
  have := hf k hk
  omega
 ·rw [zGV (fun k hk e => hb ⟨k, hk, e⟩), if_neg (by omega)]
  exact Int.le_refl 0
/-- a direction without an end -/
theorem Inv.vec_ray (h : Inv m N M s) {c : Nat} (hle : ∀ i, i < m → at2 s.rows i c ≤ 0) (j : Nat) : 0 ≤ zBT m s c j := by
 have hd := h.dp
 by_cases hb : zCa m s j
 ·obtain ⟨k, hk, rfl⟩ := hb
  rw [h.vec_basic hk]
  have := hle k hk
  split <;> omega
 ·rw [zGV (fun k hk e => hb ⟨k, hk, e⟩)]
  split <;> omega
end
theorem zLC {T : Tab} {m : Nat} (h : m ≤ T.length) (L L' : List Int) : zBJ (zBJ T m L) m L' = zBJ T m L' := by
 unfold zBJ
 congr 1
 rw [List.take_append_of_le_length (by rw [List.length_take]; omega), List.take_take, Nat.min_self]
theorem zM5 {T : Tab} {m N : Nat} (h : m ≤ T.length) (k k' : Nat → Int) : zCP k m N (zCP k' m N T) = zCP k m N T := zLC h _ _
theorem zJc {k : Nat → Int} {m N : Nat} {s : St} (hT : m ≤ s.rows.length) (hf : zDc m N s) : zDc m N (recost k m N s) := fun i hi => by
 show 0 ≤ at2 (zBJ _ _ _) i N
 rw [zF5 hT _ hi]; exact hf i hi
theorem zIK {k : Nat → Int} {m N : Nat} {T : Tab} (hT : m ≤ T.length) (x : Nat → Int) : zBs (zCP k m N T) N x m = zt (fun j => k j * x j) (N + 1) := by
 unfold zBs
 refine zm (fun j hj => ?_)
 show at2 (zBJ _ _ _) m j * _ = _
 rw [zIA hT, zA8 hj]
theorem cost_row {k : Nat → Int} {m N : Nat} {T : Tab} (hT : m ≤ T.length) (x : Nat → Int) {i : Nat} (hi : i < m) : zBs (zCP k m N T) N x i = zBs T N x i := by
 unfold zBs
 refine zm (fun j hj => ?_)
 show at2 (zBJ _ _ _) i j * _ = _
 rw [zF5 hT _ hi]
theorem zIJ {k : Nat → Int} {m N : Nat} {T : Tab} (hT : m ≤ T.length) {j : Nat} (hj : j < N + 1) : at2 (zCP k m N T) m j = k j := by
 show at2 (zBJ _ _ _) m j = _
 rw [zIA hT, zA8 hj]
theorem zGj {k : Nat → Int} {m N : Nat} {T : Tab} (hT : m ≤ T.length) {i : Nat} (hi : i < m) (j : Nat) : at2 (zCP k m N T) i j = at2 T i j := by
 show at2 (zBJ _ _ _) i j = _
 rw [zF5 hT _ hi]
theorem zRR (p : Prog) : (zAM p).rows.length = p.m + 1 := (zEt p).n
theorem zBF (p : Prog) : p.m ≤ (zAM p).rows.length := by rw [zRR]; exact Nat.le_succ _
/-- the costs of the first phase -/
def zCw (p : Prog) (j : Nat) : Int := if p.n + p.m ≤ j ∧ j < p.N then 1 else 0
theorem zJ6 (p : Prog) (j : Nat) : 0 ≤ zCw p j := by unfold zCw; split <;> omega
def ph1 (p : Prog) : St := recost (zCw p) p.m p.N (zAM p)
def M1 (p : Prog) : Tab := zCP (zCw p) p.m p.N (zAM p).rows
theorem zMc (p : Prog) : Inv p.m p.N (M1 p) (ph1 p) := (zEt p).recost (zCw p) (zBF p)
theorem zKQ (p : Prog) (hp : p.Ok) : zDc p.m p.N (ph1 p) := zJc (zBF p) (zKn p hp)
/-- The first phase has no direction without an end. -/
theorem zNg {p : Prog} {s : St} (h : Inv p.m p.N (M1 p) s) {c : Nat} (hc : c < p.N) (hneg : at2 s.rows p.m c < 0) (hle : ∀ i, i < p.m → at2 s.rows i c ≤ 0) : False := by
 have h1 := h.vec (c := c) (i := p.m) (Nat.lt_succ_of_lt hc) (Nat.lt_succ_self _)
 have h2 := zIK (k := zCw p) (N := p.N) (zBF p) (zBT p.m s c)
 have h2 : zBs (M1 p) p.N (zBT p.m s c) p.m = zt (fun j => zCw p j * zBT p.m s c j) (p.N + 1) := h2
 rw [h1, if_pos rfl] at h2
 have h3 : 0 ≤ zt (fun j => zCw p j * zBT p.m s c j) (p.N + 1) := zFR (fun j _ => Int.mul_nonneg (zJ6 p j) (h.vec_ray hle j))
 omega
/-- its value -/
theorem zHS {p : Prog} {s : St} (h : Inv p.m p.N (M1 p) s) (hf : zDc p.m p.N s) :
 at2 s.rows p.m p.N ≤ 0 ∧ (at2 s.rows p.m p.N = 0 → ∀ i, i < p.m → p.n + p.m ≤ s.basis.getD i 0 → at2 s.rows i p.N = 0) := by
 have h1 := h.vec (c := p.N) (i := p.m) (Nat.lt_succ_self _) (Nat.lt_succ_self _)
 have h2 : zBs (M1 p) p.N (zBT p.m s p.N) p.m = zt (fun j => zCw p j * zBT p.m s p.N j) (p.N + 1) := zIK (k := zCw p) (N := p.N) (zBF p) (zBT p.m s p.N)
 rw [h1, if_pos rfl] at h2
 have hz : ∀ j, j < p.N + 1 → 0 ≤ zCw p j * -(zBT p.m s p.N j) := by
  intro j hj
  by_cases e : j = p.N
  ·have : zCw p j = 0 := by unfold zCw; rw [if_neg (by omega)]
   rw [this, Int.zero_mul]; exact Int.le_refl 0
  ·have := h.vec_val hf (j := j) (Nat.lt_of_le_of_ne (Nat.le_of_lt_succ hj) e)
   exact Int.mul_nonneg (zJ6 p j) (by omega)
 have h3 : zt (fun j => zCw p j * -(zBT p.m s p.N j)) (p.N + 1) = -(at2 s.rows p.m p.N) := by
  have : zt (fun j => zCw p j * -(zBT p.m s p.N j)) (p.N + 1) = zt (fun j => -1 * (zCw p j * zBT p.m s p.N j)) (p.N + 1) := zm (fun j _ => by rw [Int.mul_neg]; omega)
  rw [this, zBK, ← h2]; omega
 have h4 := zFR hz
 refine ⟨by omega, fun h0 i hi hb => ?_⟩
 have hbc := h.bc i hi
 have h5 := zL0 hz (by rw [h3, h0]; rfl) (s.basis.getD i 0) (Nat.lt_succ_of_lt hbc)
 have h6 : zCw p (s.basis.getD i 0) = 1 := by unfold zCw; rw [if_pos ⟨hb, hbc⟩]
 rw [h6, Int.one_mul, h.vec_basic hi, if_neg (Nat.ne_of_lt hbc)] at h5
 omega
/-- the first element of a row that is not 0 -/
def nzN (T : Tab) (i : Nat) : Nat → Nat → Nat
 | 0, c => c
 | f + 1, c => if at2 T i c ≠ 0 then c else nzN T i f (c + 1)
theorem zPz (T : Tab) (i : Nat) : ∀ f c, c ≤ nzN T i f c ∧ nzN T i f c ≤ c + f ∧ (∀ a, c ≤ a → a < nzN T i f c → at2 T i a = 0) ∧ (nzN T i f c < c + f → at2 T i (nzN T i f c) ≠ 0)
 | 0, c => ⟨Nat.le_refl _, Nat.le_refl _, fun a h1 h2 => absurd h2 (by rw [nzN]; omega), fun h => absurd h (by rw [nzN]; omega)⟩
 | f + 1, c => by
  rw [nzN]
  by_cases h : at2 T i c ≠ 0
  ·rw [if_pos h]
   exact ⟨Nat.le_refl _, by omega, fun a h1 h2 => absurd h2 (by omega), fun _ => h⟩
  ·rw [if_neg h]
   obtain ⟨h1, h2, h3, h4⟩ := zPz T i f (c + 1)
   refine ⟨by omega, by omega, fun a ha hb => ?_, fun hb => h4 (by omega)⟩
   by_cases e : a = c
   ·subst e; omega
   ·exact h3 a (by omega) hb
/-- an artificial unknown leaves the basis -/
def zBz (w : Nat) (s : St) (k : Nat) : St := if s.basis.getD k 0 < w then s else if nzN s.rows k w 0 = w then s else piv s k (nzN s.rows k w 0)
def zBS (w : Nat) (s : St) : Nat → St
 | 0 => s
 | k + 1 => zBz w (zBS w s k) k
/-- artificial unknowns are 0; the first k are of no use any more -/
structure Dry (m N w : Nat) (s : St) (k : Nat) : Prop where
 z : ∀ i, i < m → w ≤ s.basis.getD i 0 → at2 s.rows i N = 0
 r : ∀ i, i < k → w ≤ s.basis.getD i 0 → ∀ j, j < w → at2 s.rows i j = 0
theorem zKD {d x y : Int} (hd : 0 < d) (h : d * x = y) (hy : y = 0) : x = 0 := by
 rw [hy] at h
 rcases Int.mul_eq_zero.1 h with h1 | h1
 ·omega
 ·exact h1
theorem zOZ {d x y : Int} (hd : 0 < d) (h : d * x = y) (hy : 0 ≤ y) : 0 ≤ x := Int.le_of_mul_le_mul_left (by rw [Int.mul_zero, h]; exact hy) hd
section
variable {m N w : Nat} {M : Tab} {s : St}
theorem Inv.drive (h : Inv m N M s) (hf : zDc m N s) {k : Nat} (hd : Dry m N w s k) (hk : k < m) (hw : w ≤ N) :
 Inv m N M (zBz w s k) ∧ zDc m N (zBz w s k) ∧ Dry m N w (zBz w s k) (k + 1) := by
 unfold zBz
 obtain ⟨e1, e2, e3, e4⟩ := zPz s.rows k w 0
 by_cases hb : s.basis.getD k 0 < w
 ·rw [if_pos hb]
  refine ⟨h, hf, hd.z, fun i hi hb' => ?_⟩
  by_cases e : i = k
  ·rw [e] at hb'; omega
  ·exact hd.r i (by omega) hb'
 ·rw [if_neg hb]
  by_cases hn : nzN s.rows k w 0 = w
  ·rw [if_pos hn]
   refine ⟨h, hf, hd.z, fun i hi hb' => ?_⟩
   by_cases e : i = k
   ·rw [e]; exact fun j hj => e3 j (Nat.zero_le _) (by omega)
   ·exact hd.r i (by omega) hb'
  ·rw [if_neg hn]
   have hp := e4 (by omega)
   have hcw : nzN s.rows k w 0 < w := by omega
   generalize nzN s.rows k w 0 = c at *
   have hz := hd.z k hk (by omega)
   have hpz := zQG hp
   have hbas : ∀ i, (Sx.piv s k c).basis.getD i 0 = if i = k then c else s.basis.getD i 0 := fun i => zEs h hk i
   have hN : ∀ i, i < m → s.den * at2 (Sx.piv s k c).rows i N = at2 s.rows i N * (sgZ (at2 s.rows k c) * at2 s.rows k c) := by
    intro i hi
    rw [h.entry hk (show c < N by omega) hp (show i < m + 1 by omega) (Nat.lt_succ_self N), hz]
    by_cases e : i = k
    ·rw [if_pos e, e, hz, Int.mul_zero, Int.mul_zero, Int.zero_mul]
    ·rw [if_neg e, Int.mul_zero, Int.sub_zero, Int.mul_left_comm]
   refine ⟨h.piv hk (by omega) hp, fun i hi => zOZ h.dp (hN i hi) (Int.mul_nonneg (hf i hi) (Int.le_of_lt hpz)), fun i hi hb' => ?_, fun i hi hb' j hj => ?_⟩
   ·rw [hbas] at hb'
    by_cases e : i = k
    ·rw [if_pos e] at hb'; omega
    ·rw [if_neg e] at hb'
     exact zKD h.dp (hN i hi) (by rw [hd.z i hi hb', Int.zero_mul])
   ·rw [hbas] at hb'
    by_cases e : i = k
    ·rw [if_pos e] at hb'; omega
    ·rw [if_neg e] at hb'
     have q1 := hd.r i (by omega) hb' j hj
     have q2 := hd.r i (by omega) hb' c hcw
     refine zKD h.dp (h.entry hk (show c < N by omega) hp (show i < m + 1 by omega) (show j < N + 1 by omega)) ?_
     rw [if_neg e, q1, q2, Int.zero_mul, Int.zero_mul]
     exact Int.mul_zero _
theorem Inv.drives (h : Inv m N M s) (hf : zDc m N s) (hd : ∀ i, i < m → w ≤ s.basis.getD i 0 → at2 s.rows i N = 0) (hw : w ≤ N) :
 ∀ k, k ≤ m → Inv m N M (zBS w s k) ∧ zDc m N (zBS w s k) ∧ Dry m N w (zBS w s k) k
 | 0, _ => ⟨h, hf, hd, fun i hi => absurd hi (Nat.not_lt_zero i)⟩
 | k + 1, hk => by
  obtain ⟨h1, h2, h3⟩ := Inv.drives h hf hd hw k (by omega)
  exact h1.drive h2 h3 (by omega) hw
theorem Inv.dry_step (h : Inv m N M s) (hd : Dry m N w s m) {r c : Nat} (hw : w ≤ N) (hc : c < w) (hl : Least s.rows s.basis c N m r) : Dry m N w (Sx.piv s r c) m := by
 have hp := hl.pos
 have hr := hl.lt
 have hbas : ∀ i, (Sx.piv s r c).basis.getD i 0 = if i = r then c else s.basis.getD i 0 := fun i => zEs h hr i
 have key : ∀ i, i < m → w ≤ (Sx.piv s r c).basis.getD i 0 → ∀ j, (j < w ∨ j = N) → at2 (Sx.piv s r c).rows i j = 0 := by
  intro i hi hb j hj
  rw [hbas] at hb
  by_cases e : i = r
  ·rw [if_pos e] at hb; omega
  ·rw [if_neg e] at hb
   have q1 : at2 s.rows i j = 0 := by
    rcases hj with hj | hj
    ·exact hd.r i hi hb j hj
    ·rw [hj]; exact hd.z i hi hb
   have q2 := hd.r i hi hb c hc
   refine zKD h.dp (h.entry hr (show c < N by omega) (by omega) (show i < m + 1 by omega) (show j < N + 1 by omega)) ?_
   rw [if_neg e, q1, q2, Int.zero_mul, Int.zero_mul]
   exact Int.mul_zero _
 exact ⟨fun i hi hb => key i hi hb N (.inr Z), fun i hi hb j hj => key i hi hb j (.inl hj)⟩
theorem zNO (h : Inv m N M s) (hf : zDc m N s) (hd : Dry m N w s m) (hw : w ≤ N) : ∀ K, Dry m N w (zAZ m N w s K) m
 | 0 => hd
 | K + 1 => by
  have h1 := zNO h hf hd hw K
  have h2 := (zEp h hf hw K).1
  show Dry m N w ((zBw m N w (zAZ m N w s K)).getD _) m
  cases hs : zBw m N w (zAZ m N w s K) with
  | none => exact h1
  | some s' =>
   obtain ⟨c, r, g1, g2, g3, g4, rfl⟩ := zJL hs
   exact h2.dry_step h1 hw g1 g4
theorem zOg {k : Nat → Int} (hT : m ≤ s.rows.length) (hd : Dry m N w s m) : Dry m N w (recost k m N s) m := by
 refine ⟨fun i hi hb => ?_, fun i hi hb j hj => ?_⟩
 ·show at2 (zBJ _ _ _) i N = 0
  rw [zF5 hT _ hi]; exact hd.z i hi hb
 ·show at2 (zBJ _ _ _) i j = 0
  rw [zF5 hT _ hi]; exact hd.r i hi hb j hj
end
/-- the costs of the second phase -/
def zBU (p : Prog) (j : Nat) : Int := if j < p.n then -((zAj p.C).getD j 0) else 0
def M2 (p : Prog) : Tab := zCP (zBU p) p.m p.N (zAM p).rows
/-- the table after K steps of the first phase -/
def zCD (p : Prog) (K : Nat) : St := zAZ p.m p.N (p.n + p.m) (ph1 p) K
/-- the table before the second phase -/
def mid (p : Prog) (K : Nat) : St := if p.a = 0 then zAM p else zBS (p.n + p.m) (zCD p K) p.m
def ph2 (p : Prog) (K : Nat) : St := recost (zBU p) p.m p.N (mid p K)
def zDb (p : Prog) (K L : Nat) : St := zAZ p.m p.N (p.n + p.m) (ph2 p K) L
theorem zFe (p : Prog) : p.n + p.m ≤ p.N := Nat.le_add_right _ _
theorem zEq (p : Prog) (hp : p.Ok) (K : Nat) : Inv p.m p.N (M1 p) (zCD p K) ∧ zDc p.m p.N (zCD p K) := zEp (zMc p) (zKQ p hp) (zFe p) K
/-- The second phase begins well. -/
theorem mid_keep (p : Prog) (hp : p.Ok) (K : Nat) (h0 : 0 < p.a → at2 (zCD p K).rows p.m p.N = 0) :
 (∃ M, Inv p.m p.N M (mid p K) ∧ p.m ≤ M.length ∧ zCP (zBU p) p.m p.N M = M2 p) ∧ zDc p.m p.N (mid p K) ∧ Dry p.m p.N (p.n + p.m) (mid p K) p.m := by
 unfold mid
 by_cases e : p.a = 0
 ·rw [if_pos e]
  have hno : ∀ i, i < p.m → ¬ p.n + p.m ≤ (zAM p).basis.getD i 0 := by
   intro i hi
   have h1 := (zEt p).bc i hi
   have h2 : p.N = p.n + p.m + p.a := rfl
   omega
  exact ⟨⟨_, zEt p, zBF p, Z⟩, zKn p hp, fun i hi hb => absurd hb (hno i hi), fun i hi hb => absurd hb (hno i hi)⟩
 ·rw [if_neg e]
  obtain ⟨h1, h2⟩ := zEq p hp K
  obtain ⟨_, hz⟩ := zHS h1 h2
  obtain ⟨g1, g2, g3⟩ := h1.drives h2 (hz (h0 (by omega))) (zFe p) p.m (Nat.le_refl _)
  refine ⟨⟨_, g1, ?_, zM5 (zBF p) _ _⟩, g2, g3⟩
  have : (M1 p).length = p.m + 1 := zJf (zBF p) _
  omega
theorem zKR (p : Prog) (hp : p.Ok) (K : Nat) (h0 : 0 < p.a → at2 (zCD p K).rows p.m p.N = 0) :
 Inv p.m p.N (M2 p) (ph2 p K) ∧ zDc p.m p.N (ph2 p K) ∧ Dry p.m p.N (p.n + p.m) (ph2 p K) p.m := by
 obtain ⟨⟨M, h1, h2, h3⟩, h4, h5⟩ := mid_keep p hp K h0
 have hT : p.m ≤ (mid p K).rows.length := by rw [h1.n]; exact Nat.le_succ _
 have h6 := h1.recost (zBU p) h2
 rw [h3] at h6
 exact ⟨h6, zJc hT h4, zOg hT h5⟩
theorem zHW (p : Prog) (hp : p.Ok) (K L : Nat) (h0 : 0 < p.a → at2 (zCD p K).rows p.m p.N = 0) :
 Inv p.m p.N (M2 p) (zDb p K L) ∧ zDc p.m p.N (zDb p K L) ∧ Dry p.m p.N (p.n + p.m) (zDb p K L) p.m := by
 obtain ⟨h1, h2, h3⟩ := zKR p hp K h0
 obtain ⟨h4, h5⟩ := zEp h1 h2 (zFe p) L
 exact ⟨h4, h5, zNO h1 h2 h3 (zFe p) L⟩
end Go.Ax.Sx
namespace Go.Ax.Sx
open Go.Ax.Dt Go.Ax.Rt Go.Ax.Bg
structure Res where
 kind : Nat
 X : List Rat
 Y : List Rat
 R : List Rat
 V : Rat
/-- elements at the places of the basis -/
def zBu (n : Nat) (β : List Nat) (f : Nat → Rat) (l : List Rat) : Nat → List Rat
 | 0 => l
 | k + 1 => if β.getD k 0 < n then (zBu n β f l k).set (β.getD k 0) (f k) else zBu n β f l k
theorem zDk (n : Nat) (β : List Nat) (f : Nat → Rat) (l : List Rat) : ∀ k, (zBu n β f l k).length = l.length
 | 0 => rfl
 | k + 1 => by
  rw [zBu]
  split
  ·rw [List.length_set, zDk n β f l k]
  ·exact zDk n β f l k
theorem zKV {n : Nat} {β : List Nat} {f : Nat → Rat} {l : List Rat} {j : Nat} : ∀ {K : Nat}, (∀ k, k < K → β.getD k 0 ≠ j) → (zBu n β f l K).getD j 0 = l.getD j 0
 | 0, _ => rfl
 | K + 1, h => by
  have h1 := zKV (n := n) (f := f) (l := l) (K := K) (fun k hk => h k (by omega))
  rw [zBu]
  split
  ·rw [getD_set, if_neg (fun e => h K (Nat.lt_succ_self K) e.1.symm)]; exact h1
  ·exact h1
theorem zHx {n : Nat} {β : List Nat} {f : Nat → Rat} {l : List Rat} {k : Nat} (hl : l.length = n) (hlt : β.getD k 0 < n) :
 ∀ {K : Nat}, (∀ i, i < K → β.getD i 0 = β.getD k 0 → i = k) → k < K → (zBu n β f l K).getD (β.getD k 0) 0 = f k
 | 0, _, hk => absurd hk (Nat.not_lt_zero k)
 | K + 1, hi, hk => by
  rw [zBu]
  by_cases e : k = K
  ·subst e
   rw [if_pos hlt, getD_set, if_pos ⟨rfl, by rw [zDk, hl]; exact hlt⟩]
  ·have h1 := zHx (f := f) hl hlt (K := K) (fun i h => hi i (by omega)) (by omega)
   have hne : β.getD K 0 ≠ β.getD k 0 := fun q => e (hi K (Nat.lt_succ_self K) q).symm
   split
   ·rw [getD_set, if_neg (fun q => hne q.1.symm)]; exact h1
   ·exact h1
def zBj (p : Prog) (s : St) : List Rat := zBu p.n s.basis (fun k => Rat.divInt (at2 s.rows k p.N) s.den) (List.replicate p.n 0) p.m
def zFE (n c : Nat) : List Rat := if c < n then (List.replicate n 0).set c 1 else List.replicate n 0
def zHa (p : Prog) (s : St) (c : Nat) : List Rat := zBu p.n s.basis (fun k => Rat.divInt (-(at2 s.rows k c)) s.den) (zFE p.n c) p.m
def yL (p : Prog) (s : St) (d : Int) : List Rat := (List.range p.m).map (fun i => Rat.divInt (at2 s.rows p.m (p.n + i)) d * ((p.fac i : Nat) : Rat))
/-- the factor of the costs -/
def Prog.fc (p : Prog) : Nat := zCp 1 p.C
/-- what the program returns after K and L steps -/
def zDa (p : Prog) (K L : Nat) : Res :=
 if 0 < p.a ∧ at2 (zCD p K).rows p.m p.N < 0 then ⟨1, [], yL p (zCD p K) (zCD p K).den, [], 0⟩
 else if zCI p.m (p.n + p.m) (zDb p K L) < p.n + p.m then ⟨2, zBj p (zDb p K L), [], zHa p (zDb p K L) (zCI p.m (p.n + p.m) (zDb p K L)), 0⟩
 else ⟨0, zBj p (zDb p K L), yL p (zDb p K L) ((zDb p K L).den * (p.fc : Nat)), [], Rat.divInt (at2 (zDb p K L).rows p.m p.N) ((zDb p K L).den * (p.fc : Nat))⟩
structure Stops (p : Prog) (K L : Nat) : Prop where
 one : 0 < p.a → zBw p.m p.N (p.n + p.m) (zCD p K) = none
 two : ¬ (0 < p.a ∧ at2 (zCD p K).rows p.m p.N < 0) → zBw p.m p.N (p.n + p.m) (zDb p K L) = none
theorem zGv {p : Prog} (hp : p.Ok) {K : Nat} (h : ¬ (0 < p.a ∧ at2 (zCD p K).rows p.m p.N < 0)) : 0 < p.a → at2 (zCD p K).rows p.m p.N = 0 := by
 intro ha
 obtain ⟨h1, h2⟩ := zEq p hp K
 have := (zHS h1 h2).1
 have : ¬ at2 (zCD p K).rows p.m p.N < 0 := fun q => h ⟨ha, q⟩
 omega
/-- The algorithm ends. -/
theorem runs (p : Prog) (hp : p.Ok) : ∃ K L, Stops p K L := by
 obtain ⟨K, hK⟩ := ends (zMc p) (zKQ p hp) (zFe p)
 by_cases h : 0 < p.a ∧ at2 (zCD p K).rows p.m p.N < 0
 ·exact ⟨K, 0, fun _ => hK, fun q => absurd h q⟩
 ·obtain ⟨h1, h2, _⟩ := zKR p hp K (zGv hp h)
  obtain ⟨L, hL⟩ := ends h1 h2 (zFe p)
  exact ⟨K, L, fun _ => hK, fun _ => hL⟩
/-- A result with its proof. -/
inductive Good (p : Prog) : Res → Prop
 | best {X Y : List Rat} {V : Rat} (hx : X.length = p.n) (hy : Y.length = p.m) (x0 : ∀ j, j < p.n → 0 ≤ X.getD j 0) (y0 : ∀ i, i < p.m → 0 ≤ Y.getD i 0)
  (ax : ∀ i, i < p.m → zAK (p.A.getD i []) X ≤ p.B.getD i 0) (ya : ∀ j, j < p.n → p.C.getD j 0 ≤ zAK (zBn p.A j) Y) (cx : zAK p.C X = V) (yb : zAK p.B Y = V) : Good p ⟨0, X, Y, [], V⟩
 | none {Y : List Rat} (hm : 0 < p.m) (hy : Y.length = p.m) (y0 : ∀ i, i < p.m → 0 ≤ Y.getD i 0) (ya : ∀ j, j < p.n → 0 ≤ zAK (zBn p.A j) Y) (yb : zAK p.B Y < 0) : Good p ⟨1, [], Y, [], 0⟩
 | free {X R : List Rat} (hn : 0 < p.n) (hx : X.length = p.n) (hr : R.length = p.n) (x0 : ∀ j, j < p.n → 0 ≤ X.getD j 0) (r0 : ∀ j, j < p.n → 0 ≤ R.getD j 0)
  (ax : ∀ i, i < p.m → zAK (p.A.getD i []) X ≤ p.B.getD i 0) (ar : ∀ i, i < p.m → zAK (p.A.getD i []) R ≤ 0) (cr : 0 < zAK p.C R) : Good p ⟨2, X, [], R, 0⟩
theorem mul_le0 {a x : Rat} (ha : 0 < a) (h : a * x ≤ 0) : x ≤ 0 := Rat.le_of_mul_le_mul_right (c := a) (by rw [Rat.zero_mul, Rat.mul_comm]; exact h) ha
theorem zIa {a x : Rat} (ha : 0 < a) (h : 0 ≤ a * x) : 0 ≤ x := Rat.le_of_mul_le_mul_right (c := a) (by rw [Rat.zero_mul, Rat.mul_comm x]; exact h) ha
theorem zFt {k : Nat} (h : 0 < k) : (0 : Rat) < (k : Rat) := by
 have h1 : ((k : Int) : Rat) = (k : Rat) := Rat.intCast_natCast k
 rw [← h1]; exact zD8 (by omega)
theorem zJo (p : Prog) (i : Nat) : 0 < p.fac i := zIT _ 1 (by decide)
theorem zHp (p : Prog) : 0 < p.fc := zIT _ 1 (by decide)
theorem zPt {x : Int} (h : x ≤ 0) : (x : Rat) ≤ 0 := (Rat.intCast_le_intCast (a := x) (b := 0)).2 h
theorem zHN {x : Int} (h : 0 ≤ x) : (0 : Rat) ≤ (x : Rat) := (Rat.intCast_le_intCast (a := 0) (b := x)).2 h
theorem zMS {x : Int} (h : x < 0) : (x : Rat) < 0 := (Rat.intCast_lt_intCast (a := x) (b := 0)).2 h
theorem zE0 {x d : Int} (h : d ≠ 0) : Rat.divInt x d * (d : Rat) = (x : Rat) := by rw [Rat.divInt_eq_div, Rat.div_mul_cancel (zJp h)]
section
variable {p : Prog} {k : Nat → Int} {s : St}
/-- the sum of a condition -/
theorem zRS {x : Nat → Int} {i : Nat} (hi : i < p.m) (ha : ∀ q, q < p.a → x (p.n + p.m + q) = 0) :
 zBs (zAM p).rows p.N x i = p.eps i * (zt (fun j => (p.whole i).getD j 0 * x j) p.n + x (p.n + i) + (p.whole i).getD p.n 0 * x p.N) := by
 have e1 : ∀ j, j < p.n → at2 (zAM p).rows i j * x j = p.eps i * ((p.whole i).getD j 0 * x j) := fun j hj => by rw [zJy p hi hj, Int.mul_assoc]
 have e2 : ∀ q, q < p.m → at2 (zAM p).rows i (p.n + q) * x (p.n + q) = if q = i then p.eps i * x (p.n + q) else 0 := fun q hq => by
  rw [zIp p hi hq]
  by_cases e : i = q
  ·rw [if_pos e, if_pos e.symm]
  ·rw [if_neg e, if_neg (fun h => e h.symm), Int.zero_mul]
 have e3 : ∀ q, q < p.a → at2 (zAM p).rows i (p.n + p.m + q) * x (p.n + p.m + q) = 0 := fun q hq => by rw [ha q hq, Int.mul_zero]
 show zt (fun j => at2 (zAM p).rows i j * x j) (p.n + p.m + p.a) + at2 (zAM p).rows i p.N * x p.N = _
 rw [zFA _ (p.n + p.m) p.a, zFA _ p.n p.m, zB2 e3, zm e1, zm e2, zBK, zCM (f := fun q => p.eps i * x (p.n + q)) hi, zIo p hi, Int.mul_add, Int.mul_add, Int.mul_assoc]
 omega
/-- the conditions, for the vector of a column -/
theorem prim (h : Inv p.m p.N (zCP k p.m p.N (zAM p).rows) s) (hd : Dry p.m p.N (p.n + p.m) s p.m) {c : Nat} (hc : c < p.n + p.m ∨ c = p.N) {i : Nat} (hi : i < p.m) :
 zt (fun j => (p.whole i).getD j 0 * zBT p.m s c j) p.n + zBT p.m s c (p.n + i) + (p.whole i).getD p.n 0 * zBT p.m s c p.N = 0 := by
 have hw := zFe p
 have hcN : c < p.N + 1 := by omega
 have h1 := h.vec hcN (i := i) (by omega)
 rw [if_neg (Nat.ne_of_lt hi), cost_row (zBF p) _ hi, zRS hi] at h1
 ·have h2 := zMN p i
  generalize zt (fun j => (p.whole i).getD j 0 * zBT p.m s c j) p.n + zBT p.m s c (p.n + i) + (p.whole i).getD p.n 0 * zBT p.m s c p.N = z at *
  have h3 : p.eps i * (p.eps i * z) = 0 := by rw [h1, Int.mul_zero]
  rw [← Int.mul_assoc, h2, Int.one_mul] at h3
  exact h3
 ·intro q hq
  have hlt : p.n + p.m + q < p.N := Nat.add_lt_add_left hq _
  by_cases hb : zCa p.m s (p.n + p.m + q)
  ·obtain ⟨b, hbm, hbe⟩ := hb
   have h2 := h.vec_basic (c := c) hbm
   rw [hbe, if_neg (by omega)] at h2
   rw [h2]
   have : at2 s.rows b c = 0 := by
    rcases hc with hc | hc
    ·exact hd.r b hbm (by omega) c hc
    ·rw [hc]; exact hd.z b hbm (by omega)
   omega
  ·rw [zGV (fun b hb' e => hb ⟨b, hb', e⟩), if_neg (by omega)]
/-- the costs, told by the rows -/
theorem zN8 (hk : ∀ i, i < p.m → k (p.n + i) = 0) : Slack p.m p.N p.n (zCP k p.m p.N (zAM p).rows) p.eps := by
 have hs := zN9 p
 refine ⟨hs.lt, hs.sq, fun i q hi hq => ?_, fun q hq => ?_⟩
 ·rw [zGj (zBF p) hi]; exact hs.at' i q hi hq
 ·rw [zIJ (zBF p) (by have := hs.lt; omega)]; exact hk q hq
theorem dual_x (h : Inv p.m p.N (zCP k p.m p.N (zAM p).rows) s) (hk : ∀ i, i < p.m → k (p.n + i) = 0) {j : Nat} (hj : j < p.n) :
 at2 s.rows p.m j = zt (fun q => at2 s.rows p.m (p.n + q) * (p.whole q).getD j 0) p.m + s.den * k j := by
 have hw := zFe p
 have hjN : j < p.N + 1 := by omega
 rw [h.combo (zN8 hk) (Nat.lt_succ_self _) hjN, if_pos rfl, zIJ (zBF p) hjN]
 congr 1
 refine zm (fun q hq => ?_)
 rw [zGj (zBF p) hq, zJy p hq hj, ← Int.mul_assoc (p.eps q), zMN, Int.one_mul]
theorem dual_r (h : Inv p.m p.N (zCP k p.m p.N (zAM p).rows) s) (hk : ∀ i, i < p.m → k (p.n + i) = 0) :
 at2 s.rows p.m p.N = zt (fun q => at2 s.rows p.m (p.n + q) * (p.whole q).getD p.n 0) p.m + s.den * k p.N := by
 rw [h.combo (zN8 hk) (Nat.lt_succ_self _) (Nat.lt_succ_self _), if_pos rfl, zIJ (zBF p) (Nat.lt_succ_self _)]
 congr 1
 refine zm (fun q hq => ?_)
 rw [zGj (zBF p) hq, zIo p hq, ← Int.mul_assoc (p.eps q), zMN, Int.one_mul]
theorem a_len (hp : p.Ok) {i : Nat} (hi : i < p.m) : (p.A.getD i []).length = p.n := hp.cols _ (zAA [] (by rw [hp.rows]; exact hi))
theorem zQC (hp : p.Ok) {i : Nat} (hi : i < p.m) {x : Nat → Int} {X : List Rat} {d : Rat} (hX : ∀ j, j < p.n → X.getD j 0 * d = ((x j : Int) : Rat)) :
 ((zt (fun j => (p.whole i).getD j 0 * x j) p.n : Int) : Rat) = ((p.fac i : Nat) : Rat) * zAK (p.A.getD i []) X * d := by
 rw [zF2, zBE (a_len hp hi), ← zEL, ← zC3]
 refine zAU (fun j hj => ?_)
 have hj' : j < p.n + 1 := by omega
 rw [Rat.intCast_mul, ← hX j hj, zHY p hp hi hj', full_x p hp hi hj]
 grind
theorem zK5 {C : List Rat} {j : Nat} (hj : j < C.length) : (((zAj C).getD j 0 : Int) : Rat) = ((zCp 1 C : Nat) : Rat) * C.getD j 0 := by
 unfold zAj
 rw [zCK _ _ 0 _ _ hj]
 exact zL5 (zAA 0 hj)
theorem zPd {x : Nat → Int} {X : List Rat} {d : Rat} (hX : ∀ j, j < p.n → X.getD j 0 * d = ((x j : Int) : Rat)) :
 ((zt (fun j => (zAj p.C).getD j 0 * x j) p.n : Int) : Rat) = ((p.fc : Nat) : Rat) * zAK p.C X * d := by
 rw [zF2, zBE (a := p.C) (n := p.n) rfl, ← zEL, ← zC3]
 refine zAU (fun j hj => ?_)
 rw [Rat.intCast_mul, ← hX j hj, zK5 hj]
 show ((p.fc : Nat) : Rat) * _ * _ = _
 grind
theorem zPb (hp : p.Ok) {j : Nat} (hj : j < p.n) {y : Nat → Int} {Y : List Rat} {d : Rat} (hY : ∀ q, q < p.m → Y.getD q 0 * d = ((y q : Int) : Rat) * ((p.fac q : Nat) : Rat)) :
 ((zt (fun q => y q * (p.whole q).getD j 0) p.m : Int) : Rat) = zAK (zBn p.A j) Y * d := by
 rw [zF2, zBE (n := p.m) (by rw [zCo]; exact hp.rows), ← zC3]
 refine zAU (fun q hq => ?_)
 have h1 := hY q hq
 have hj' : j < p.n + 1 := by omega
 rw [Rat.intCast_mul, zHY p hp hq hj', full_x p hp hq hj, zED]
 grind
theorem zQB (hp : p.Ok) {y : Nat → Int} {Y : List Rat} {d : Rat} (hY : ∀ q, q < p.m → Y.getD q 0 * d = ((y q : Int) : Rat) * ((p.fac q : Nat) : Rat)) :
 ((zt (fun q => y q * (p.whole q).getD p.n 0) p.m : Int) : Rat) = zAK p.B Y * d := by
 rw [zF2, zBE (a := p.B) (n := p.m) rfl, ← zC3]
 refine zAU (fun q hq => ?_)
 have h1 := hY q hq
 rw [Rat.intCast_mul, zHY p hp hq (Nat.lt_succ_self _), zOn p hp hq]
 grind
theorem zK4 (p : Prog) (s : St) : (zBj p s).length = p.n := by unfold zBj; rw [zDk, List.length_replicate]
theorem zGy (n c : Nat) : (zFE n c).length = n := by
 unfold zFE
 split
 ·rw [List.length_set, List.length_replicate]
 ·rw [List.length_replicate]
theorem ray_len (p : Prog) (s : St) (c : Nat) : (zHa p s c).length = p.n := by unfold zHa; rw [zDk, zGy]
theorem y_len (p : Prog) (s : St) (d : Int) : (yL p s d).length = p.m := by simp [yL]
theorem zJw (n j : Nat) : (List.replicate n (0 : Rat)).getD j 0 = 0 := by
 simp only [List.getD, List.getElem?_replicate]
 split <;> rfl
theorem zH8 {M : Tab} (h : Inv p.m p.N M s) {j : Nat} (hj : j < p.n) : (zBj p s).getD j 0 * (s.den : Rat) = ((-(zBT p.m s p.N j) : Int) : Rat) := by
 have hw := zFe p
 have hd : s.den ≠ 0 := by have := h.dp; omega
 unfold zBj
 by_cases hb : zCa p.m s j
 ·obtain ⟨b, hbm, rfl⟩ := hb
  rw [zHx (by rw [List.length_replicate]) hj (fun i hi e => h.nodup hi hbm e) hbm, zE0 hd, h.vec_basic hbm, if_neg (by omega)]
  congr 1; omega
 ·rw [zKV (fun b hb' e => hb ⟨b, hb', e⟩), zJw, Rat.zero_mul, zGV (fun b hb' e => hb ⟨b, hb', e⟩), if_neg (by omega)]
  rfl
theorem zMg {M : Tab} (h : Inv p.m p.N M s) {c : Nat} (hc : at2 s.rows p.m c < 0) {j : Nat} (hj : j < p.n) : (zHa p s c).getD j 0 * (s.den : Rat) = ((zBT p.m s c j : Int) : Rat) := by
 have hd : s.den ≠ 0 := by have := h.dp; omega
 have hnb : ¬ zCa p.m s c := fun hb => by have := h.cost_basic hb; omega
 unfold zHa
 by_cases hb : zCa p.m s j
 ·have hjc : j ≠ c := fun e => hnb (e ▸ hb)
  obtain ⟨b, hbm, rfl⟩ := hb
  rw [zHx (zGy _ _) hj (fun i hi e => h.nodup hi hbm e) hbm, zE0 hd, h.vec_basic hbm, if_neg hjc]
  congr 1; omega
 ·rw [zKV (fun b hb' e => hb ⟨b, hb', e⟩), zGV (fun b hb' e => hb ⟨b, hb', e⟩)]
  unfold zFE
  by_cases e : j = c
  ·subst e
   rw [if_pos hj, if_pos rfl, getD_set, if_pos ⟨rfl, by rw [List.length_replicate]; exact hj⟩, Rat.one_mul]
  ·rw [if_neg e]
   have : (if c < p.n then (List.replicate p.n (0 : Rat)).set c 1 else List.replicate p.n 0).getD j 0 = 0 := by
    split
    ·rw [getD_set, if_neg (fun q => e q.1), zJw]
    ·exact zJw _ _
   rw [this, Rat.zero_mul]
   rfl
theorem y_get {d : Int} (hd : d ≠ 0) {i : Nat} (hi : i < p.m) : (yL p s d).getD i 0 * (d : Rat) = ((at2 s.rows p.m (p.n + i) : Int) : Rat) * ((p.fac i : Nat) : Rat) := by
 have : (yL p s d).getD i 0 = Rat.divInt (at2 s.rows p.m (p.n + i)) d * ((p.fac i : Nat) : Rat) := by
  have hi : i < p.B.length := hi
  simp [yL, List.getD, hi]
 rw [this, Rat.mul_assoc, Rat.mul_comm ((p.fac i : Nat) : Rat), ← Rat.mul_assoc, zE0 hd]
/-- the values satisfy the conditions -/
theorem zF3 (hp : p.Ok) (h : Inv p.m p.N (zCP k p.m p.N (zAM p).rows) s) (hf : zDc p.m p.N s) (hd : Dry p.m p.N (p.n + p.m) s p.m) :
 (∀ j, j < p.n → 0 ≤ (zBj p s).getD j 0) ∧ ∀ i, i < p.m → zAK (p.A.getD i []) (zBj p s) ≤ p.B.getD i 0 := by
 have hw := zFe p
 have hdp := zD8 h.dp
 refine ⟨fun j hj => ?_, fun i hi => ?_⟩
 ·have h1 := zH8 h hj
  have h2 := h.vec_val hf (j := j) (by omega)
  refine zIa hdp ?_
  rw [Rat.mul_comm, h1]
  exact zHN (by omega)
 ·have h1 := prim h hd (c := p.N) (.inr rfl) hi
  rw [h.vec_end] at h1
  have h2 := zQC hp hi (x := fun j => -(zBT p.m s p.N j)) (X := zBj p s) (fun j hj => zH8 h hj)
  have h3 : zt (fun j => (p.whole i).getD j 0 * -(zBT p.m s p.N j)) p.n = -(zt (fun j => (p.whole i).getD j 0 * zBT p.m s p.N j) p.n) := by
   have : zt (fun j => (p.whole i).getD j 0 * -(zBT p.m s p.N j)) p.n = zt (fun j => -1 * ((p.whole i).getD j 0 * zBT p.m s p.N j)) p.n := zm (fun j _ => by rw [Int.mul_neg]; omega)
   rw [this, zBK]; omega
  have h2 : ((zt (fun j => (p.whole i).getD j 0 * -(zBT p.m s p.N j)) p.n : Int) : Rat) = ((p.fac i : Nat) : Rat) * zAK (p.A.getD i []) (zBj p s) * (s.den : Rat) := h2
  rw [h3] at h2
  have h4 := h.vec_val hf (j := p.n + i) (by omega)
  have h5 : -(zt (fun j => (p.whole i).getD j 0 * zBT p.m s p.N j) p.n) = zBT p.m s p.N (p.n + i) + (p.whole i).getD p.n 0 * s.den := by omega
  rw [h5, Rat.intCast_add, Rat.intCast_mul, zHY p hp hi (Nat.lt_succ_self _), zOn p hp hi] at h2
  have h6 := zPt h4
  have hpos : (0 : Rat) < ((p.fac i : Nat) : Rat) * (s.den : Rat) := Rat.mul_pos (zFt (zJo p i)) hdp
  refine Rat.le_of_mul_le_mul_right ?_ hpos
  grind
theorem zQS (hp : p.Ok) (h : Inv p.m p.N (M2 p) s) (hf : zDc p.m p.N s) (hd : Dry p.m p.N (p.n + p.m) s p.m) (hc : ∀ a, a < p.n + p.m → 0 ≤ at2 s.rows p.m a) :
 Good p ⟨0, zBj p s, yL p s (s.den * (p.fc : Nat)), [], Rat.divInt (at2 s.rows p.m p.N) (s.den * (p.fc : Nat))⟩ := by
 have hw := zFe p
 have hdp := zD8 h.dp
 have hfp := zFt (zHp p)
 have hD : s.den * (p.fc : Int) ≠ 0 := by
  have h1 := h.dp
  have h2 := zHp p
  have := Int.mul_pos h1 (show (0 : Int) < (p.fc : Int) by omega)
  omega
 have hDr : ((s.den * (p.fc : Nat) : Int) : Rat) = (s.den : Rat) * ((p.fc : Nat) : Rat) := by rw [Rat.intCast_mul]; rfl
 have hpos : (0 : Rat) < (s.den : Rat) * ((p.fc : Nat) : Rat) := Rat.mul_pos hdp hfp
 have hY := fun q (hq : q < p.m) => y_get (p := p) (s := s) hD hq
 have hk : ∀ i, i < p.m → zBU p (p.n + i) = 0 := fun i hi => by unfold zBU; rw [if_neg (by omega)]
 have hkN : zBU p p.N = 0 := by unfold zBU; rw [if_neg (by omega)]
 obtain ⟨v1, v2⟩ := zF3 hp h hf hd
 refine .best (zK4 p s) (y_len p s _) v1 (fun i hi => ?_) v2 (fun j hj => ?_) ?_ ?_
 ·have h1 := hY i hi
  rw [hDr] at h1
  refine zIa hpos ?_
  rw [Rat.mul_comm, h1]
  exact Rat.mul_nonneg (zHN (hc _ (by omega))) (Rat.le_of_lt (zFt (zJo p i)))
 ·have h1 := zPb hp hj hY
  have h2 := dual_x h hk hj
  have hkj : zBU p j = -((zAj p.C).getD j 0) := by unfold zBU; rw [if_pos hj]
  rw [hkj] at h2
  have h3 := hc j (by omega)
  have h4 : zt (fun q => at2 s.rows p.m (p.n + q) * (p.whole q).getD j 0) p.m = at2 s.rows p.m j + s.den * (zAj p.C).getD j 0 := by
   rw [Int.mul_neg] at h2; omega
  rw [h4, hDr, Rat.intCast_add, Rat.intCast_mul, zK5 hj] at h1
  have h5 := zHN h3
  refine Rat.le_of_mul_le_mul_right ?_ hpos
  have e : ((zCp 1 p.C : Nat) : Rat) = ((p.fc : Nat) : Rat) := rfl
  rw [e] at h1
  grind
 ·have h1 := zPd (p := p) (x := fun j => -(zBT p.m s p.N j)) (X := zBj p s) (fun j hj => zH8 h hj)
  have h2 := h.vec (c := p.N) (i := p.m) (Nat.lt_succ_self _) (Nat.lt_succ_self _)
  rw [if_pos rfl] at h2
  have h3 : zBs (M2 p) p.N (zBT p.m s p.N) p.m = zt (fun j => zBU p j * zBT p.m s p.N j) (p.N + 1) := zIK (zBF p) _
  have h4 : zt (fun j => zBU p j * zBT p.m s p.N j) (p.N + 1) = zt (fun j => (zAj p.C).getD j 0 * -(zBT p.m s p.N j)) p.n := by
   rw [show p.N + 1 = p.n + (p.m + p.a + 1) by show p.n + p.m + p.a + 1 = _; omega, zFA, zB2 (f := fun q => zBU p (p.n + q) * zBT p.m s p.N (p.n + q)) (fun q _ => by
    show zBU p (p.n + q) * _ = 0
    unfold zBU
    rw [if_neg (by omega), Int.zero_mul]), Int.add_zero]
   exact zm (fun j hj => by
    show zBU p j * _ = _
    unfold zBU
    rw [if_pos hj, Int.neg_mul, Int.mul_neg])
  rw [h4] at h3
  have h1 : ((zt (fun j => (zAj p.C).getD j 0 * -(zBT p.m s p.N j)) p.n : Int) : Rat) = _ := h1
  rw [← h3, h2] at h1
  have h5 : Rat.divInt (at2 s.rows p.m p.N) (s.den * (p.fc : Nat)) * ((s.den : Rat) * ((p.fc : Nat) : Rat)) = ((at2 s.rows p.m p.N : Int) : Rat) := by rw [← hDr]; exact zE0 hD
  refine Rat.le_antisymm (Rat.le_of_mul_le_mul_right ?_ hpos) (Rat.le_of_mul_le_mul_right ?_ hpos) <;> grind
 ·have h1 := zQB hp hY
  have h2 := dual_r h hk
  rw [hkN, Int.mul_zero, Int.add_zero] at h2
  rw [← h2, hDr] at h1
  have h5 : Rat.divInt (at2 s.rows p.m p.N) (s.den * (p.fc : Nat)) * ((s.den : Rat) * ((p.fc : Nat) : Rat)) = ((at2 s.rows p.m p.N : Int) : Rat) := by rw [← hDr]; exact zE0 hD
  refine Rat.le_antisymm (Rat.le_of_mul_le_mul_right ?_ hpos) (Rat.le_of_mul_le_mul_right ?_ hpos) <;> grind
theorem zQ0 (hp : p.Ok) (h : Inv p.m p.N (M1 p) s) (hm : 0 < p.m) (hc : ∀ a, a < p.n + p.m → 0 ≤ at2 s.rows p.m a) (hv : at2 s.rows p.m p.N < 0) : Good p ⟨1, [], yL p s s.den, [], 0⟩ := by
 have hw := zFe p
 have hdp := zD8 h.dp
 have hD : s.den ≠ 0 := by have := h.dp; omega
 have hY := fun q (hq : q < p.m) => y_get (p := p) (s := s) hD hq
 have hk : ∀ i, i < p.m → zCw p (p.n + i) = 0 := fun i hi => by unfold zCw; rw [if_neg (by omega)]
 have hkN : zCw p p.N = 0 := by unfold zCw; rw [if_neg (by omega)]
 refine .none hm (y_len p s _) (fun i hi => ?_) (fun j hj => ?_) ?_
 ·refine zIa hdp ?_
  rw [Rat.mul_comm, hY i hi]
  exact Rat.mul_nonneg (zHN (hc _ (by omega))) (Rat.le_of_lt (zFt (zJo p i)))
 ·have h1 := zPb hp hj hY
  have h2 := dual_x h hk hj
  have hkj : zCw p j = 0 := by unfold zCw; rw [if_neg (by omega)]
  rw [hkj, Int.mul_zero, Int.add_zero] at h2
  rw [← h2] at h1
  refine zIa hdp ?_
  rw [Rat.mul_comm, ← h1]
  exact zHN (hc j (by omega))
 ·have h1 := zQB hp hY
  have h2 := dual_r h hk
  rw [hkN, Int.mul_zero, Int.add_zero] at h2
  rw [← h2] at h1
  have h3 := zMS hv
  refine Rat.not_le.1 (fun h4 => Rat.not_le.2 h3 ?_)
  rw [h1]
  exact Rat.mul_nonneg h4 (Rat.le_of_lt hdp)
theorem zQk (hp : p.Ok) (h : Inv p.m p.N (M2 p) s) (hf : zDc p.m p.N s) (hd : Dry p.m p.N (p.n + p.m) s p.m) {c : Nat} (hcw : c < p.n + p.m) (hneg : at2 s.rows p.m c < 0) (hle : ∀ i, i < p.m → at2 s.rows i c ≤ 0) :
 Good p ⟨2, zBj p s, [], zHa p s c, 0⟩ := by
 have hw := zFe p
 have hdp := zD8 h.dp
 obtain ⟨v1, v2⟩ := zF3 hp h hf hd
 have hN : zBT p.m s c p.N = 0 := by rw [zGV (fun b hb => by have := h.bc b hb; omega), if_neg (by omega)]
 have hcost : ((at2 s.rows p.m c : Int) : Rat) = -(((p.fc : Nat) : Rat) * zAK p.C (zHa p s c) * (s.den : Rat)) := by
  have h1 := zPd (p := p) (x := fun j => zBT p.m s c j) (X := zHa p s c) (fun j hj => zMg h hneg hj)
  have h2 := h.vec (c := c) (i := p.m) (by omega) (Nat.lt_succ_self _)
  rw [if_pos rfl] at h2
  have h3 : zBs (M2 p) p.N (zBT p.m s c) p.m = zt (fun j => zBU p j * zBT p.m s c j) (p.N + 1) := zIK (zBF p) _
  have h4 : zt (fun j => zBU p j * zBT p.m s c j) (p.N + 1) = -(zt (fun j => (zAj p.C).getD j 0 * zBT p.m s c j) p.n) := by
   rw [show p.N + 1 = p.n + (p.m + p.a + 1) by show p.n + p.m + p.a + 1 = _; omega, zFA, zB2 (f := fun q => zBU p (p.n + q) * zBT p.m s c (p.n + q)) (fun q _ => by
    show zBU p (p.n + q) * _ = 0
    unfold zBU
    rw [if_neg (by omega), Int.zero_mul]), Int.add_zero]
   have : zt (fun j => zBU p j * zBT p.m s c j) p.n = zt (fun j => -1 * ((zAj p.C).getD j 0 * zBT p.m s c j)) p.n := zm (fun j hj => by
    unfold zBU
    rw [if_pos hj, Int.neg_mul]; omega)
   rw [this, zBK]; omega
  rw [h4, h2] at h3
  have h1 : ((zt (fun j => (zAj p.C).getD j 0 * zBT p.m s c j) p.n : Int) : Rat) = _ := h1
  rw [← h1, h3, Rat.intCast_neg]
 have hn : 0 < p.n := by
  apply Classical.byContradiction
  intro h0
  have e : zAK p.C (zHa p s c) = 0 := by
   rw [zBE (a := p.C) (n := p.n) rfl, show p.n = 0 by omega]; rfl
  rw [e, Rat.mul_zero, Rat.zero_mul] at hcost
  have := zMS hneg
  rw [hcost] at this
  exact absurd this (by decide +kernel)
 refine .free hn (zK4 p s) (ray_len p s c) v1 (fun j hj => ?_) v2 (fun i hi => ?_) ?_
 ·refine zIa hdp ?_
  rw [Rat.mul_comm, zMg h hneg hj]
  exact zHN (h.vec_ray hle j)
 ·have h1 := prim h hd (c := c) (.inl hcw) hi
  rw [hN, Int.mul_zero, Int.add_zero] at h1
  have h2 := zQC hp hi (x := fun j => zBT p.m s c j) (X := zHa p s c) (fun j hj => zMg h hneg hj)
  have h4 := h.vec_ray hle (p.n + i)
  have h5 : zt (fun j => (p.whole i).getD j 0 * zBT p.m s c j) p.n ≤ 0 := by omega
  have h2 : ((zt (fun j => (p.whole i).getD j 0 * zBT p.m s c j) p.n : Int) : Rat) = _ := h2
  have h6 := zPt h5
  rw [h2] at h6
  have hpos : (0 : Rat) < ((p.fac i : Nat) : Rat) * (s.den : Rat) := Rat.mul_pos (zFt (zJo p i)) hdp
  refine mul_le0 hpos ?_
  grind
 ·have h1 := zMS hneg
  rw [hcost] at h1
  have hpos : (0 : Rat) < ((p.fc : Nat) : Rat) * (s.den : Rat) := Rat.mul_pos (zFt (zHp p)) hdp
  refine Rat.not_le.1 (fun h4 => Rat.not_le.2 h1 ?_)
  have h5 := Rat.mul_nonneg (show (0 : Rat) ≤ -(zAK p.C (zHa p s c)) by grind) (Rat.le_of_lt hpos)
  grind
end
/-- Each result is proved. -/
theorem zN0 {p : Prog} (hp : p.Ok) {K L : Nat} (hs : Stops p K L) : Good p (zDa p K L) := by
 unfold zDa
 by_cases h0 : 0 < p.a ∧ at2 (zCD p K).rows p.m p.N < 0
 ·rw [if_pos h0]
  obtain ⟨h1, h2⟩ := zEq p hp K
  have hm : 0 < p.m := by
   have := zJ5 p.B p.B.length
   have h3 : 0 < zGY p.B := h0.1
   show 0 < p.B.length
   exact Nat.lt_of_lt_of_le h3 this
  rcases zLt (hs.one h0.1) with ⟨_, h3⟩ | ⟨h3, h4, h5⟩
  ·exact zQ0 hp h1 hm h3 h0.2
  ·exact (zNg h1 (Nat.lt_of_lt_of_le h3 (zFe p)) h4 h5).elim
 ·rw [if_neg h0]
  obtain ⟨h1, h2, h3⟩ := zHW p hp K L (zGv hp h0)
  rcases zLt (hs.two h0) with ⟨g1, g2⟩ | ⟨g1, g2, g3⟩
  ·rw [if_neg (by omega)]
   exact zQS hp h1 h2 h3 g2
  ·rw [if_pos g1]
   exact zQk hp h1 h2 h3 g1 g2 g3
end Go.Ax.Sx
namespace Go.Ax.Sx
open Go.Ax.Dt Go.Ax.Rt Go.Ax.Bg
/-- numbers of at most k digits -/
structure Prog.Dig (p : Prog) (k : Nat) : Prop where
 a : ∀ r ∈ p.A, ∀ q ∈ r, D k q
 b : ∀ q ∈ p.B, D k q
 c : ∀ q ∈ p.C, D k q
def Prog.E (p : Prog) (k : Nat) : Nat := k + k * (p.n + 1)
def Prog.T (p : Prog) (k : Nat) : Nat := (p.E k + 2) * (p.m + 1)
def Prog.W (p : Prog) (k : Nat) : Nat := p.T k + 2 + 2 * (k * (p.n + 1))
section
variable {p : Prog} {k : Nat}
theorem zOm (hp : p.Ok) (hk : p.Dig k) {i : Nat} (hi : i < p.m) : ∀ q ∈ p.full i, D k q := by
 intro q hq
 rcases List.mem_append.1 hq with h | h
 ·exact hk.a _ (zAA [] (by rw [hp.rows]; exact hi)) q h
 ·rw [List.mem_singleton.1 h]; exact hk.b _ (zAA 0 hi)
theorem zOI (hp : p.Ok) (hk : p.Dig k) {i j : Nat} (hi : i < p.m) (hj : j < p.n + 1) : ((p.whole i).getD j 0).natAbs ≤ 10 ^ p.E k := by
 have h1 := zL4 (zOm hp hk hi)
 rw [zD2 p hp hi] at h1
 exact h1 _ (zAA 0 (by rw [zGW, zD2 p hp hi]; exact hj))
theorem zJQ (hk : p.Dig k) {j : Nat} (hj : j < p.n) : ((zAj p.C).getD j 0).natAbs ≤ 10 ^ p.E k := by
 refine Nat.le_trans (zL4 hk.c _ (zAA 0 (by rw [zGW]; exact hj))) (Nat.pow_le_pow_right (by decide) ?_)
 exact Nat.add_le_add_left (Nat.mul_le_mul_left k (Nat.le_succ p.n)) k
theorem zHG (p : Prog) (i : Nat) : (p.eps i).natAbs = 1 := by unfold Prog.eps; split <;> rfl
theorem zBq (n : Nat) : 1 ≤ 10 ^ n := Nat.pow_pos (by decide)
theorem zLs (hp : p.Ok) (hk : p.Dig k) {i j : Nat} (hi : i < p.m) (hj : j < p.N + 1) : (at2 (zAM p).rows i j).natAbs ≤ 10 ^ p.E k := by
 have h1 := zBq (p.E k)
 by_cases c1 : j < p.n
 ·rw [zJy p hi c1, Int.natAbs_mul, zHG, Nat.one_mul]
  exact zOI hp hk hi (by omega)
 ·by_cases c2 : j < p.n + p.m
  ·obtain ⟨q, rfl⟩ : ∃ q, j = p.n + q := ⟨j - p.n, by omega⟩
   rw [zIp p hi (by omega)]
   split
   ·rw [zHG]; exact h1
   ·exact Nat.zero_le _
  ·by_cases c3 : j < p.N
   ·obtain ⟨q, rfl⟩ : ∃ q, j = p.n + p.m + q := ⟨j - (p.n + p.m), by omega⟩
    rw [zMk p hi (Nat.lt_of_add_lt_add_left (show p.n + p.m + q < p.n + p.m + p.a from c3))]
    split
    ·exact h1
    ·exact Nat.zero_le _
   ·obtain rfl : j = p.N := by omega
    rw [zIo p hi, Int.natAbs_mul, zHG, Nat.one_mul]
    exact zOI hp hk hi (Nat.lt_succ_self _)
theorem M_abs (hp : p.Ok) (hk : p.Dig k) {f : Nat → Int} (hf : ∀ j, j < p.N + 1 → (f j).natAbs ≤ 10 ^ p.E k) : ∀ i j, i < p.m + 1 → j < p.N + 1 → (at2 (zCP f p.m p.N (zAM p).rows) i j).natAbs ≤ 10 ^ p.E k := by
 intro i j hi hj
 by_cases e : i = p.m
 ·rw [e, zIJ (zBF p) hj]; exact hf j hj
 ·have hi' : i < p.m := Nat.lt_of_le_of_ne (Nat.le_of_lt_succ hi) e
  rw [zGj (zBF p) hi']; exact zLs hp hk hi' hj
theorem zOL (hp : p.Ok) (hk : p.Dig k) : ∀ i j, i < p.m + 1 → j < p.N + 1 → (at2 (M1 p) i j).natAbs ≤ 10 ^ p.E k :=
 M_abs hp hk (fun j _ => by
  have h1 := zBq (p.E k)
  unfold zCw
  split
  ·exact h1
  ·exact Nat.zero_le _)
theorem zGc (hp : p.Ok) (hk : p.Dig k) : ∀ i j, i < p.m + 1 → j < p.N + 1 → (at2 (M2 p) i j).natAbs ≤ 10 ^ p.E k :=
 M_abs hp hk (fun j _ => by
  unfold zBU
  split
  ·rename_i h
   rw [Int.natAbs_neg]; exact zJQ hk h
  ·exact Nat.zero_le _)
/-- the elements of each table -/
theorem zEm {M : Tab} {s : St} (h : Inv p.m p.N M s) (hm : p.m + 1 ≤ 40) (hM : ∀ i j, i < p.m + 1 → j < p.N + 1 → (at2 M i j).natAbs ≤ 10 ^ p.E k) :
 (∀ i j, i < p.m + 1 → j < p.N + 1 → (at2 s.rows i j).natAbs ≤ 10 ^ p.T k) ∧ s.den.natAbs ≤ 10 ^ p.T k := by
 obtain ⟨h1, h2⟩ := h.bound (zBq (p.E k)) hM
 have h3 := zPh (k := p.E k) hm
 exact ⟨fun i j hi hj => Nat.le_trans (h1 i j hi hj) h3, Nat.le_trans h2 h3⟩
theorem zCt {x n : Nat} (h : x ≤ 10 ^ n) : x < 10 ^ (n + 1) := Nat.lt_of_le_of_lt h (Nat.pow_lt_pow_right (by decide) (Nat.lt_succ_self n))
theorem nat_D {x n : Nat} (h : x ≤ 10 ^ n) : D (n + 1) ((x : Nat) : Rat) := by
 refine ⟨?_, ?_⟩
 ·have : (((x : Nat) : Rat)).num = (x : Int) := rfl
  rw [this, Int.natAbs_natCast]; exact zCt h
 ·have : (((x : Nat) : Rat)).den = 1 := rfl
  rw [this]
  exact Nat.lt_of_lt_of_le (show 1 < 10 ^ 1 by decide) (Nat.pow_le_pow_right (by decide) (Nat.le_add_left 1 n))
theorem zOk (hp : p.Ok) (hk : p.Dig k) {i : Nat} (hi : i < p.m) : p.fac i ≤ 10 ^ (k * (p.n + 1)) := by
 have := zIS (p.full i) 1 (fun q hq => (zOm hp hk hi q hq).2)
 rw [Nat.one_mul, zD2 p hp hi] at this
 exact this
theorem fc_le (hk : p.Dig k) : p.fc ≤ 10 ^ (k * p.n) := by
 have := zIS p.C 1 (fun q hq => (hk.c q hq).2)
 rw [Nat.one_mul] at this
 exact this
theorem zIg {P : Rat → Prop} {n : Nat} {β : List Nat} {f : Nat → Rat} {l : List Rat} (hl : ∀ q ∈ l, P q) : ∀ {K : Nat}, (∀ i, i < K → P (f i)) → ∀ q ∈ zBu n β f l K, P q
 | 0, _, q, hq => hl q hq
 | K + 1, hf, q, hq => by
  have h1 := zIg (n := n) (β := β) hl (K := K) (fun i hi => hf i (by omega))
  rw [zBu] at hq
  split at hq
  ·rcases List.mem_or_eq_of_mem_set hq with h | h
   ·exact h1 q h
   ·rw [h]; exact hf K (Nat.lt_succ_self K)
  ·exact h1 q hq
theorem zMn (n : Nat) : D (n + 1) 0 := nat_D (x := 0) (Nat.zero_le _)
theorem zHe (n : Nat) : D (n + 1) 1 := nat_D (x := 1) (zBq n)
theorem zOH {M : Tab} {s : St} (h : Inv p.m p.N M s) (hm : p.m + 1 ≤ 40) (hM : ∀ i j, i < p.m + 1 → j < p.N + 1 → (at2 M i j).natAbs ≤ 10 ^ p.E k) : ∀ q ∈ zBj p s, D (p.T k + 1) q := by
 obtain ⟨h1, h2⟩ := zEm h hm hM
 have hd := h.dp
 refine zIg (fun q hq => ?_) (fun i hi => zEO (by omega) (zCt (h1 i p.N (by omega) (Nat.lt_succ_self _))) (zCt h2))
 rw [List.eq_of_mem_replicate hq]; exact zMn _
theorem ray_D {M : Tab} {s : St} (h : Inv p.m p.N M s) (hm : p.m + 1 ≤ 40) (hM : ∀ i j, i < p.m + 1 → j < p.N + 1 → (at2 M i j).natAbs ≤ 10 ^ p.E k) {c : Nat} (hc : c < p.N) : ∀ q ∈ zHa p s c, D (p.T k + 1) q := by
 obtain ⟨h1, h2⟩ := zEm h hm hM
 have hd := h.dp
 have h0 : ∀ q ∈ List.replicate p.n (0 : Rat), D (p.T k + 1) q := fun q hq => by rw [List.eq_of_mem_replicate hq]; exact zMn _
 refine zIg (fun q hq => ?_) (fun i hi => zEO (by omega) (by rw [Int.natAbs_neg]; exact zCt (h1 i c (by omega) (by omega))) (zCt h2))
 unfold zFE at hq
 split at hq
 ·rcases List.mem_or_eq_of_mem_set hq with h' | h'
  ·exact h0 q h'
  ·rw [h']; exact zHe _
 ·exact h0 q hq
theorem y_D {M : Tab} {s : St} (hp : p.Ok) (hk : p.Dig k) (h : Inv p.m p.N M s) (hm : p.m + 1 ≤ 40) (hM : ∀ i j, i < p.m + 1 → j < p.N + 1 → (at2 M i j).natAbs ≤ 10 ^ p.E k) {f : Nat} (hf0 : 0 < f) (hf : f ≤ 10 ^ (k * p.n)) : ∀ q ∈ yL p s (s.den * (f : Nat)), D (p.W k) q := by
 obtain ⟨h1, h2⟩ := zEm h hm hM
 have hd := h.dp
 intro q hq
 obtain ⟨i, hi, rfl⟩ := List.mem_map.1 hq
 have hi : i < p.m := by simpa using hi
 have hD : s.den * (f : Nat) ≠ 0 := by
  have := Int.mul_pos hd (show (0 : Int) < ((f : Nat) : Int) by omega)
  omega
 have hw := zFe p
 have hden : (s.den * (f : Nat)).natAbs ≤ 10 ^ (p.T k + k * p.n) := by
  rw [Int.natAbs_mul, Int.natAbs_natCast, Nat.pow_add]
  exact Nat.mul_le_mul h2 hf
 have a1 : D (p.T k + k * p.n + 1) (Rat.divInt (at2 s.rows p.m (p.n + i)) (s.den * (f : Nat))) :=
  zEO hD (zCt (Nat.le_trans (h1 p.m (p.n + i) (Nat.lt_succ_self _) (by omega)) (Nat.pow_le_pow_right (by decide) (Nat.le_add_right _ _)))) (zCt hden)
 refine (a1.mul (nat_D (zOk hp hk hi))).mono ?_
 unfold Prog.W
 have : k * p.n ≤ k * (p.n + 1) := Nat.mul_le_mul_left k (Nat.le_succ p.n)
 omega
theorem v_D {M : Tab} {s : St} (h : Inv p.m p.N M s) (hm : p.m + 1 ≤ 40) (hM : ∀ i j, i < p.m + 1 → j < p.N + 1 → (at2 M i j).natAbs ≤ 10 ^ p.E k) {f : Nat} (hf0 : 0 < f) (hf : f ≤ 10 ^ (k * p.n)) : D (p.W k) (Rat.divInt (at2 s.rows p.m p.N) (s.den * (f : Nat))) := by
 obtain ⟨h1, h2⟩ := zEm h hm hM
 have hd := h.dp
 have hD : s.den * (f : Nat) ≠ 0 := by
  have := Int.mul_pos hd (show (0 : Int) < ((f : Nat) : Int) by omega)
  omega
 have hden : (s.den * (f : Nat)).natAbs ≤ 10 ^ (p.T k + k * p.n) := by
  rw [Int.natAbs_mul, Int.natAbs_natCast, Nat.pow_add]
  exact Nat.mul_le_mul h2 hf
 have a1 : D (p.T k + k * p.n + 1) (Rat.divInt (at2 s.rows p.m p.N) (s.den * (f : Nat))) :=
  zEO hD (zCt (Nat.le_trans (h1 p.m p.N (Nat.lt_succ_self _) (Nat.lt_succ_self _)) (Nat.pow_le_pow_right (by decide) (Nat.le_add_right _ _)))) (zCt hden)
 refine a1.mono ?_
 unfold Prog.W
 have : k * p.n ≤ k * (p.n + 1) := Nat.mul_le_mul_left k (Nat.le_succ p.n)
 omega
/-- All numbers of a result are short. -/
theorem run_D (hp : p.Ok) (hk : p.Dig k) (hm : p.m + 1 ≤ 40) {K L : Nat} (hs : Stops p K L) :
 (∀ q ∈ (zDa p K L).X, D (p.W k) q) ∧ (∀ q ∈ (zDa p K L).Y, D (p.W k) q) ∧ (∀ q ∈ (zDa p K L).R, D (p.W k) q) ∧ D (p.W k) (zDa p K L).V := by
 have hTW : p.T k + 1 ≤ p.W k := by unfold Prog.W; omega
 have h0 : D (p.W k) 0 := (zMn (p.T k)).mono hTW
 have hnil : ∀ q ∈ ([] : List Rat), D (p.W k) q := fun q hq => by simp at hq
 unfold zDa
 by_cases h : 0 < p.a ∧ at2 (zCD p K).rows p.m p.N < 0
 ·rw [if_pos h]
  obtain ⟨h1, h2⟩ := zEq p hp K
  have h3 := y_D hp hk h1 hm (zOL hp hk) (f := 1) (by decide) (zBq _)
  have e : (zCD p K).den * ((1 : Nat) : Int) = (zCD p K).den := by omega
  rw [e] at h3
  exact ⟨hnil, h3, hnil, h0⟩
 ·rw [if_neg h]
  obtain ⟨h1, h2, h3⟩ := zHW p hp K L (zGv hp h)
  by_cases h4 : zCI p.m (p.n + p.m) (zDb p K L) < p.n + p.m
  ·rw [if_pos h4]
   exact ⟨fun q hq => (zOH h1 hm (zGc hp hk) q hq).mono hTW, hnil, fun q hq => (ray_D h1 hm (zGc hp hk) (Nat.lt_of_lt_of_le h4 (zFe p)) q hq).mono hTW, h0⟩
  ·rw [if_neg h4]
   exact ⟨fun q hq => (zOH h1 hm (zGc hp hk) q hq).mono hTW, y_D hp hk h1 hm (zGc hp hk) (zHp p) (fc_le hk), hnil, v_D h1 hm (zGc hp hk) (zHp p) (fc_le hk)⟩
end
end Go.Ax.Sx
namespace Go.Ax.Sx
open Go.Ax.Dt Go.Ax.Rt Go.Ax.Bg
theorem zEl {f g : Nat → Rat} : ∀ {n : Nat}, (∀ i, i < n → f i ≤ g i) → zAN f n ≤ zAN g n
 | 0, _ => Rat.le_refl
 | n + 1, h => by
  have h1 := zEl (n := n) (fun i hi => h i (by omega))
  have h2 := h n (Nat.lt_succ_self n)
  show zAN f n + f n ≤ zAN g n + g n
  grind
section
variable {p : Prog}
/-- the columns times the rows -/
theorem zIs (hp : p.Ok) (x y : List Rat) : zAN (fun j => zAK (zBn p.A j) y * x.getD j 0) p.n = zAN (fun i => y.getD i 0 * zAK (p.A.getD i []) x) p.m := by
 have e1 : ∀ j, j < p.n → zAK (zBn p.A j) y * x.getD j 0 = zAN (fun i => (p.A.getD i []).getD j 0 * y.getD i 0 * x.getD j 0) p.m := fun j hj => by
  rw [zBE (n := p.m) (by rw [zCo]; exact hp.rows), ← zC3]
  exact zAU (fun i hi => by rw [zED])
 have e2 : ∀ i, i < p.m → y.getD i 0 * zAK (p.A.getD i []) x = zAN (fun j => (p.A.getD i []).getD j 0 * y.getD i 0 * x.getD j 0) p.n := fun i hi => by
  rw [zBE (a_len hp hi), ← zEL]
  exact zAU (fun j hj => by grind)
 rw [zAU e1, zAU e2]
 exact zLx _ _ _
def Prim (p : Prog) (x : List Rat) : Prop := (∀ j, j < p.n → 0 ≤ x.getD j 0) ∧ ∀ i, i < p.m → zAK (p.A.getD i []) x ≤ p.B.getD i 0
def Dual (p : Prog) (y : List Rat) : Prop := (∀ i, i < p.m → 0 ≤ y.getD i 0) ∧ ∀ j, j < p.n → p.C.getD j 0 ≤ zAK (zBn p.A j) y
def RayP (p : Prog) (x : List Rat) : Prop := (∀ j, j < p.n → 0 ≤ x.getD j 0) ∧ (∀ i, i < p.m → zAK (p.A.getD i []) x ≤ 0) ∧ 0 < zAK p.C x
def RayD (p : Prog) (y : List Rat) : Prop := (∀ i, i < p.m → 0 ≤ y.getD i 0) ∧ (∀ j, j < p.n → 0 ≤ zAK (zBn p.A j) y) ∧ zAK p.B y < 0
theorem zDD {a b c : Rat} (hc : 0 ≤ c) (h : a ≤ b) : a * c ≤ b * c := Rat.mul_le_mul_of_nonneg_right h hc
theorem c_dot (p : Prog) (x : List Rat) : zAK p.C x = zAN (fun j => p.C.getD j 0 * x.getD j 0) p.n := zBE rfl
theorem b_dot (p : Prog) (y : List Rat) : zAK p.B y = zAN (fun i => p.B.getD i 0 * y.getD i 0) p.m := zBE rfl
/-- Weak duality. -/
theorem weak (hp : p.Ok) {x y : List Rat} (hx : Prim p x) (hy : Dual p y) : zAK p.C x ≤ zAK p.B y := by
 have h1 : zAK p.C x ≤ zAN (fun j => zAK (zBn p.A j) y * x.getD j 0) p.n := by
  rw [c_dot]
  exact zEl (fun j hj => zDD (hx.1 j hj) (hy.2 j hj))
 rw [zIs hp] at h1
 refine Rat.le_trans h1 ?_
 rw [b_dot]
 exact zEl (fun i hi => by rw [Rat.mul_comm]; exact zDD (hy.1 i hi) (hx.2 i hi))
theorem weak_ray (hp : p.Ok) {x y : List Rat} (hx : RayP p x) (hy : Dual p y) : False := by
 have h1 : zAK p.C x ≤ zAN (fun j => zAK (zBn p.A j) y * x.getD j 0) p.n := by
  rw [c_dot]
  exact zEl (fun j hj => zDD (hx.1 j hj) (hy.2 j hj))
 rw [zIs hp] at h1
 have h2 : zAN (fun i => y.getD i 0 * zAK (p.A.getD i []) x) p.m ≤ zAN (fun _ => 0) p.m :=
  zEl (fun i hi => by
   have := zDD (hy.1 i hi) (hx.2.1 i hi)
   rw [Rat.mul_comm]; rwa [Rat.zero_mul] at this)
 rw [zF1] at h2
 exact Rat.not_le.2 hx.2.2 (Rat.le_trans h1 h2)
theorem zRe (hp : p.Ok) {x y : List Rat} (hx : Prim p x) (hy : RayD p y) : False := by
 have h1 : 0 ≤ zAN (fun j => zAK (zBn p.A j) y * x.getD j 0) p.n := zFQ (fun j hj => Rat.mul_nonneg (hy.2.1 j hj) (hx.1 j hj))
 rw [zIs hp] at h1
 have h2 : zAN (fun i => y.getD i 0 * zAK (p.A.getD i []) x) p.m ≤ zAK p.B y := by
  rw [b_dot]
  exact zEl (fun i hi => by rw [Rat.mul_comm]; exact zDD (hy.1 i hi) (hx.2 i hi))
 exact Rat.not_le.2 hy.2.2 (Rat.le_trans h1 h2)
end
section
variable {p : Prog}
/-- No vector that satisfies the conditions has a greater value. -/
theorem bounds (hp : p.Ok) {r : Res} (hr : Good p r) {x : List Rat} (hx : Prim p x) : (r.kind = 0 → zAK p.C x ≤ r.V) ∧ (r.kind = 0 ∨ r.kind = 2) := by
 cases hr with
 | best hx' hy x0 y0 ax ya cx yb =>
  refine ⟨fun _ => ?_, .inl Z⟩
  have := weak hp hx ⟨y0, ya⟩
  rw [yb] at this
  exact this
 | none hm hy y0 ya yb => exact (zRe hp hx ⟨y0, ya, yb⟩).elim
 | free hn hx' hr x0 r0 ax ar cr => exact ⟨fun h => absurd h (by show ¬ (2 : Nat) = 0; omega), .inr rfl⟩
end
end Go.Ax.Sx
namespace Go.Ax.Rt
open Go.Ax.Bg Go.Ax.Dt
theorem dig_D {k : Nat} {q : Rat} (h1 : (Lib.decDigits q.num.natAbs).length ≤ k) (h2 : (Lib.decDigits q.den).length ≤ k) : D k q :=
 ⟨Nat.lt_of_lt_of_le (zEn _) (Nat.pow_le_pow_right (by decide) h1), Nat.lt_of_lt_of_le (zEn _) (Nat.pow_le_pow_right (by decide) h2)⟩
theorem zIv {m : List (List zu)} (h : zHt m = 0) : ∀ r ∈ inM m, r.length = zAH m ∧ ∀ q ∈ r, D 2000 q := by
 have hM := zFs h
 intro r hr
 refine ⟨zNN hM r hr, ?_⟩
 obtain ⟨x, hx, rfl⟩ := List.mem_map.1 hr
 intro q hq
 obtain ⟨s, hs, rfl⟩ := List.mem_map.1 hq
 have hf := (IsQ.self (hM.ok x hx s hs)).fit
 unfold zBx at hf
 rw [Bool.and_eq_true, decide_eq_true_eq, decide_eq_true_eq] at hf
 exact dig_D hf.1 hf.2
end Go.Ax.Rt
namespace Go.Ax.Sx
open Go.Ax.Dt Go.Ax.Rt Go.Ax.Bg
structure Prob where
 A : List (List zu)
 B : List zu
 C : List zu
def Prob.prog (P : Prob) : Prog := ⟨inM P.A, P.B.map zAI, P.C.map zAI⟩
/-- the form of a result -/
def lensP (P : Prob) (k x y r : Nat) : Prop := x = (if k = 1 then 0 else P.C.length) ∧ y = (if k = 2 then 0 else P.B.length) ∧ r = (if k = 2 then P.C.length else 0)
instance (P : Prob) (k x y r : Nat) : Decidable (lensP P k x y r) := inferInstanceAs (Decidable (_ ∧ _))
def zPx (l : List Rat) : Bool := l.all (fun q => decide (0 ≤ q))
theorem zJE {l : List Rat} {n : Nat} (hl : l.length = n) (h : ∀ j, j < n → 0 ≤ l.getD j 0) : zPx l = true := by
 unfold zPx
 rw [List.all_eq_true]
 intro q hq
 obtain ⟨i, hi, rfl⟩ := List.getElem_of_mem hq
 have := h i (by omega)
 rw [zDu 0 hi] at this
 exact decide_eq_true this
section
variable {P : Prob}
end
end Go.Ax.Sx
namespace Go.Ax.Sx
open Go.Ax.Dt Go.Ax.Rt Go.Ax.Bg
section
variable {P : Prob}
end
end Go.Ax.Sx
namespace Go.Ax.Mg
open Go.Ax.Dt Go.Ax.Rt Go.Ax.Bg Go.Ax.Sx
/-- Mixed strategies x of the rows and y of the columns with the value v. -/
structure Sad (M : List (List Rat)) (w : Nat) (v : Rat) (x y : List Rat) : Prop where
 xl : x.length = M.length
 yl : y.length = w
 x0 : ∀ i, i < M.length → 0 ≤ x.getD i 0
 y0 : ∀ j, j < w → 0 ≤ y.getD j 0
 xs : zAN (fun i => x.getD i 0) M.length = 1
 ys : zAN (fun j => y.getD j 0) w = 1
 up : ∀ i, i < M.length → zAK (M.getD i []) y ≤ v
 lo : ∀ j, j < w → v ≤ zAK (zBn M j) x
theorem zCd {n i : Nat} {c : Rat} (h : i < n) : (List.replicate n c).getD i 0 = c := by simp [List.getD, h]
def oneP (M : List (List Rat)) (w : Nat) : Prog := ⟨M, List.replicate M.length 1, List.replicate w 1⟩
theorem oneP_n (M : List (List Rat)) (w : Nat) : (oneP M w).n = w := List.length_replicate ..
theorem oneP_m (M : List (List Rat)) (w : Nat) : (oneP M w).m = M.length := List.length_replicate ..
theorem oneP_Ok {M : List (List Rat)} {w : Nat} (hM : ∀ r ∈ M, r.length = w) : (oneP M w).Ok :=
 ⟨(List.length_replicate ..).symm, fun r hr => by rw [hM r hr]; exact (List.length_replicate ..).symm⟩
/-- what the rows receive -/
def payN (M : List (List Rat)) (x y : List Rat) : Rat := zAN (fun i => x.getD i 0 * zAK (M.getD i []) y) M.length
section
variable {M : List (List Rat)} {w : Nat} {v v' : Rat} {x y x' y' : List Rat}
theorem pay_cols (hM : ∀ r ∈ M, r.length = w) (x y : List Rat) : zAN (fun j => zAK (zBn M j) x * y.getD j 0) w = payN M x y := by
 have h := zIs (oneP_Ok hM) y x
 rw [oneP_n, oneP_m] at h
 exact h
theorem Sad.low (h : Sad M w v x y) (hM : ∀ r ∈ M, r.length = w) {z : List Rat} (z0 : ∀ j, j < w → 0 ≤ z.getD j 0) (zs : zAN (fun j => z.getD j 0) w = 1) : v ≤ payN M x z := by
 rw [← pay_cols hM]
 have h1 : zAN (fun j => v * z.getD j 0) w ≤ zAN (fun j => zAK (zBn M j) x * z.getD j 0) w := zEl (fun j hj => zDD (z0 j hj) (h.lo j hj))
 rw [zEL, zs, Rat.mul_one] at h1
 exact h1
theorem Sad.high (h : Sad M w v x y) {z : List Rat} (z0 : ∀ i, i < M.length → 0 ≤ z.getD i 0) (zs : zAN (fun i => z.getD i 0) M.length = 1) : payN M z y ≤ v := by
 have h1 : payN M z y ≤ zAN (fun i => v * z.getD i 0) M.length := zEl (fun i hi => by
  rw [Rat.mul_comm]; exact zDD (z0 i hi) (h.up i hi))
 rw [zEL, zs, Rat.mul_one] at h1
 exact h1
/-- the value is unique -/
theorem Sad.uniq (h : Sad M w v x y) (h' : Sad M w v' x' y') (hM : ∀ r ∈ M, r.length = w) : v = v' :=
 Rat.le_antisymm (Rat.le_trans (h.low hM h'.y0 h'.ys) (h'.high h.x0 h.xs)) (Rat.le_trans (h'.low hM h.y0 h.ys) (h.high h'.x0 h'.xs))
end
def zAu (a : Rat) (l : List Rat) : Rat := l.foldl (fun a q => if zCn q a < 0 then q else a) a
def zGD (M : List (List Rat)) : Rat := M.foldl zAu ((M.getD 0 []).getD 0 0)
theorem zPY {a b : Rat} : zCn a b < 0 ↔ a < b := by
 unfold zCn
 split
 ·rename_i h; exact ⟨fun _ => h, fun _ => by omega⟩
 ·rename_i h
  split
  ·exact ⟨fun h2 => absurd h2 (by omega), fun h2 => absurd h2 h⟩
  ·exact ⟨fun h2 => absurd h2 (by omega), fun h2 => absurd h2 h⟩
theorem zLe : ∀ (l : List Rat) (a : Rat), zAu a l ≤ a ∧ ∀ q ∈ l, zAu a l ≤ q
 | [], a => ⟨Rat.le_refl, fun q hq => absurd hq (List.not_mem_nil)⟩
 | b :: l, a => by
  obtain ⟨h1, h2⟩ := zLe l (if zCn b a < 0 then b else a)
  have e : zAu a (b :: l) = zAu (if zCn b a < 0 then b else a) l := rfl
  rw [e]
  by_cases hc : zCn b a < 0
  ·rw [if_pos hc] at h1 h2 ⊢
   have hba := Rat.le_of_lt (zPY.1 hc)
   refine ⟨Rat.le_trans h1 hba, fun q hq => ?_⟩
   rcases List.mem_cons.1 hq with rfl | hq
   ·exact h1
   ·exact h2 q hq
  ·rw [if_neg hc] at h1 h2 ⊢
   have hab : a ≤ b := Rat.not_lt.1 (fun q => hc (zPY.2 q))
   refine ⟨h1, fun q hq => ?_⟩
   rcases List.mem_cons.1 hq with rfl | hq
   ·exact Rat.le_trans h1 hab
   ·exact h2 q hq
theorem zLd : ∀ (M : List (List Rat)) (a : Rat), M.foldl zAu a ≤ a ∧ ∀ r ∈ M, ∀ q ∈ r, M.foldl zAu a ≤ q
 | [], a => ⟨Rat.le_refl, fun q hq => absurd hq (List.not_mem_nil)⟩
 | r :: M, a => by
  obtain ⟨h1, h2⟩ := zLd M (zAu a r)
  obtain ⟨h3, h4⟩ := zLe r a
  refine ⟨Rat.le_trans h1 h3, fun s hs q hq => ?_⟩
  rcases List.mem_cons.1 hs with rfl | hs
  ·exact Rat.le_trans h1 (h4 q hq)
  ·exact h2 s hs q hq
theorem least_le (M : List (List Rat)) : ∀ r ∈ M, ∀ q ∈ r, zGD M ≤ q := (zLd M _).2
theorem zJC {P : Rat → Prop} : ∀ (l : List Rat) (a : Rat), P a → (∀ q ∈ l, P q) → P (zAu a l)
 | [], a, ha, _ => ha
 | b :: l, a, ha, h => by
  have e : zAu a (b :: l) = zAu (if zCn b a < 0 then b else a) l := rfl
  rw [e]
  refine zJC l _ ?_ (fun q hq => h q (List.mem_cons_of_mem _ hq))
  split
  ·exact h b (List.mem_cons_self ..)
  ·exact ha
theorem zHO {P : Rat → Prop} : ∀ (M : List (List Rat)) (a : Rat), P a → (∀ r ∈ M, ∀ q ∈ r, P q) → P (M.foldl zAu a)
 | [], a, ha, _ => ha
 | r :: M, a, ha, h => zHO M _ (zJC r a ha (h r (List.mem_cons_self ..))) (fun s hs => h s (List.mem_cons_of_mem _ hs))
def zDn (M : List (List Rat)) : Rat := 1 - zGD M
/-- the linear program of a game -/
def zAS (M : List (List Rat)) (w : Nat) : Prog := ⟨M.map (fun r => r.map (fun q => q + zDn M)), List.replicate M.length 1, List.replicate w 1⟩
/-- value, rows, columns -/
def zAm (M : List (List Rat)) (w K L : Nat) : Rat × List Rat × List Rat :=
 let r := zDa (zAS M w) K L
 (1 / r.V - zDn M, r.Y.map (fun q => q / r.V), r.X.map (fun q => q / r.V))
section
variable {M : List (List Rat)} {w : Nat}
theorem zIW (M : List (List Rat)) (w : Nat) : (zAS M w).n = w := List.length_replicate ..
theorem zIV (M : List (List Rat)) (w : Nat) : (zAS M w).m = M.length := List.length_replicate ..
theorem zFq (hM : ∀ r ∈ M, r.length = w) : (zAS M w).Ok := by
 refine ⟨?_, fun r hr => ?_⟩
 ·show (M.map _).length = (List.replicate _ _).length
  rw [List.length_map, List.length_replicate]
 ·obtain ⟨s, hs, rfl⟩ := List.mem_map.1 hr
  show (s.map _).length = (List.replicate _ _).length
  rw [List.length_map, List.length_replicate, hM s hs]
theorem zJA {i : Nat} (hi : i < M.length) : (zAS M w).A.getD i [] = (M.getD i []).map (fun q => q + zDn M) := zCK _ M [] [] i hi
theorem zKI (hM : ∀ r ∈ M, r.length = w) {i j : Nat} (hi : i < M.length) (hj : j < w) : ((zAS M w).A.getD i []).getD j 0 = (M.getD i []).getD j 0 + zDn M := by
 rw [zJA hi]
 exact zCK _ _ 0 0 j (by rw [hM _ (zAA [] hi)]; exact hj)
theorem zNK (hM : ∀ r ∈ M, r.length = w) {i j : Nat} (hi : i < M.length) (hj : j < w) : 1 ≤ ((zAS M w).A.getD i []).getD j 0 := by
 rw [zKI hM hi hj]
 have hr := zAA (l := M) [] hi
 have h := least_le M _ hr ((M.getD i []).getD j 0) (zAA 0 (by rw [hM _ hr]; exact hj))
 unfold zDn
 grind
theorem zQm (hM : ∀ r ∈ M, r.length = w) {i : Nat} (hi : i < M.length) (x : List Rat) :
 zAK ((zAS M w).A.getD i []) x = zAK (M.getD i []) x + zDn M * zAN (fun j => x.getD j 0) w := by
 have hl : (M.getD i []).length = w := hM _ (zAA [] hi)
 have hl' : ((zAS M w).A.getD i []).length = w := by rw [zJA hi, List.length_map, hl]
 rw [zBE hl', zBE hl, ← zEL, ← zIq]
 exact zAU (fun j hj => by rw [zKI hM hi hj]; grind)
theorem zQl (hM : ∀ r ∈ M, r.length = w) {j : Nat} (hj : j < w) (y : List Rat) :
 zAK (zBn (zAS M w).A j) y = zAK (zBn M j) y + zDn M * zAN (fun i => y.getD i 0) M.length := by
 have hl : (zBn M j).length = M.length := zCo M j
 have hl' : (zBn (zAS M w).A j).length = M.length := by
  rw [zCo]; exact List.length_map ..
 rw [zBE hl', zBE hl, ← zEL, ← zIq]
 exact zAU (fun i hi => by rw [zED, zED, zKI hM hi hj]; grind)
theorem zKq : ∀ {n : Nat} {f : Nat → Rat}, (∀ i, i < n → 0 ≤ f i) → zAN f n ≤ 0 → ∀ i, i < n → f i = 0
 | 0, f, _, _, i, hi => absurd hi (Nat.not_lt_zero i)
 | n + 1, f, h, hs, i, hi => by
  have h1 : 0 ≤ zAN f n := zFQ (fun i hi => h i (by omega))
  have h2 := h n (Nat.lt_succ_self n)
  have h3 : zAN f n + f n ≤ 0 := hs
  by_cases e : i = n
  ·subst e; grind
  ·exact zKq (n := n) (fun i hi => h i (by omega)) (by grind) i (by omega)
theorem sum_ge : ∀ {n : Nat} {f : Nat → Rat}, (∀ i, i < n → 0 ≤ f i) → ∀ i, i < n → f i ≤ zAN f n
 | 0, f, _, i, hi => absurd hi (Nat.not_lt_zero i)
 | n + 1, f, h, i, hi => by
  have h1 : 0 ≤ zAN f n := zFQ (fun i hi => h i (by omega))
  have h2 := h n (Nat.lt_succ_self n)
  show f i ≤ zAN f n + f n
  by_cases e : i = n
  ·subst e; grind
  ·have := sum_ge (n := n) (fun i hi => h i (by omega)) i (by omega)
   grind
theorem zNc (n : Nat) (x : List Rat) : zAK (List.replicate n 1) x = zAN (fun j => x.getD j 0) n := by
 rw [zBE List.length_replicate]
 exact zAU (fun j hj => by rw [zCd hj, Rat.one_mul])
theorem zIN (l : List Rat) (V : Rat) (i : Nat) : (l.map (fun q => q / V)).getD i 0 = l.getD i 0 * V⁻¹ := by
 by_cases h : i < l.length
 ·rw [zCK (fun q => q / V) l 0 0 i h, Rat.div_def]
 ·have e1 : (l.map (fun q => q / V)).getD i 0 = 0 := by simp [List.getD, h]
  have e2 : l.getD i 0 = 0 := by simp [List.getD, h]
  rw [e1, e2, Rat.zero_mul]
theorem zPk (a l : List Rat) (V : Rat) : zAK a (l.map (fun q => q / V)) = zAK a l * V⁻¹ := by
 unfold zAK
 rw [← zC3]
 exact zAU (fun i _ => by rw [zIN]; grind)
/-- The linear program of a game has a best solution; it gives strategies with the value. -/
theorem zLX (hM : ∀ r ∈ M, r.length = w) (hw : 0 < w) (hm : 0 < M.length) {r : Res} (g : Sx.Good (zAS M w) r) :
 r.kind = 0 ∧ 0 < r.V ∧ r.X.length = w ∧ r.Y.length = M.length ∧ Sad M w (1 / r.V - zDn M) (r.Y.map (fun q => q / r.V)) (r.X.map (fun q => q / r.V)) := by
 have hok := zFq hM
 have en := zIW M w
 have em := zIV M w
 have hk : r.kind = 0 ∨ r.kind = 2 := by
  refine (bounds hok g (x := List.replicate w 0) ⟨fun j hj => ?_, fun i hi => ?_⟩).2
  ·rw [en] at hj
   rw [zCd hj]; exact Rat.le_refl
  ·rw [em] at hi
   have e : zAK ((zAS M w).A.getD i []) (List.replicate w 0) = 0 := by
    unfold zAK
    refine Eq.trans (zAU (g := fun _ => 0) (fun j _ => ?_)) (zF1 _)
    rw [zJw, Rat.mul_zero]
   have e2 : (zAS M w).B.getD i 0 = 1 := zCd hi
   rw [e, e2]
   decide
 have hdual : Dual (zAS M w) (List.replicate M.length 1) := by
  refine ⟨fun i hi => ?_, fun j hj => ?_⟩
  ·rw [em] at hi
   rw [zCd hi]; decide
  ·rw [en] at hj
   have e2 : (zAS M w).C.getD j 0 = 1 := zCd hj
   have hl' : (zBn (zAS M w).A j).length = M.length := by
    rw [zCo]; exact List.length_map ..
   rw [e2, zBE hl']
   have h0 : ∀ i, i < M.length → 0 ≤ (zBn (zAS M w).A j).getD i 0 * (List.replicate M.length (1 : Rat)).getD i 0 := fun i hi => by
    rw [zCd hi, Rat.mul_one, zED]
    exact Rat.le_trans (by decide) (zNK hM hi hj)
   refine Rat.le_trans ?_ (sum_ge h0 0 hm)
   rw [zCd hm, Rat.mul_one, zED]
   exact zNK hM hm hj
 cases g with
 | none => rcases hk with h | h <;> cases h
 | free hn hx hr x0 r0 ax ar cr => exact (weak_ray hok (x := _) ⟨r0, ar, cr⟩ hdual).elim
 | @best X Y V hx hy x0 y0 ax ya cx yb =>
  rw [en] at hx x0 ya
  rw [em] at hy y0 ax
  have cx' : zAN (fun j => X.getD j 0) w = V := by rw [← zNc]; exact cx
  have yb' : zAN (fun i => Y.getD i 0) M.length = V := by rw [← zNc]; exact yb
  have hV : 0 < V := by
   refine Rat.not_le.1 (fun hV => ?_)
   rw [← yb'] at hV
   have h0 := zKq y0 hV
   have h1 := ya 0 hw
   have e2 : (zAS M w).C.getD 0 0 = 1 := zCd hw
   rw [e2, zBE (n := M.length) (by rw [zCo]; exact List.length_map ..)] at h1
   rw [zAU (g := fun _ => 0) (fun i hi => by rw [h0 i hi, Rat.mul_zero]), zF1] at h1
   exact absurd h1 (by decide)
  have hne : V ≠ 0 := fun e => by rw [e] at hV; exact Rat.lt_irrefl hV
  have hu : V * V⁻¹ = 1 := Rat.mul_inv_cancel V hne
  have hu0 : 0 ≤ V⁻¹ := Rat.le_of_lt (Rat.inv_pos.2 hV)
  refine ⟨Z, hV, hx, hy, ?_⟩
  refine ⟨by rw [List.length_map, hy], by rw [List.length_map, hx], fun i hi => ?_, fun j hj => ?_, ?_, ?_, fun i hi => ?_, fun j hj => ?_⟩
  ·rw [zIN]; exact Rat.mul_nonneg (y0 i hi) hu0
  ·rw [zIN]; exact Rat.mul_nonneg (x0 j hj) hu0
  ·rw [zAU (g := fun i => Y.getD i 0 * V⁻¹) (fun i _ => zIN _ _ _), zC3, yb']; exact hu
  ·rw [zAU (g := fun i => X.getD i 0 * V⁻¹) (fun i _ => zIN _ _ _), zC3, cx']; exact hu
  ·rw [zPk, Rat.div_def, Rat.one_mul]
   have h1 := ax i hi
   have e2 : (zAS M w).B.getD i 0 = 1 := zCd hi
   rw [e2, zQm hM hi, cx'] at h1
   have h2 := zDD hu0 (show zAK (M.getD i []) X ≤ 1 - zDn M * V by grind)
   have e3 : (1 - zDn M * V) * V⁻¹ = V⁻¹ - zDn M * (V * V⁻¹) := by grind
   rw [e3, hu, Rat.mul_one] at h2
   exact h2
  ·rw [zPk, Rat.div_def, Rat.one_mul]
   have h1 := ya j hj
   have e2 : (zAS M w).C.getD j 0 = 1 := zCd hj
   rw [e2, zQl hM hj, yb'] at h1
   have h2 := zDD hu0 (show 1 - zDn M * V ≤ zAK (zBn M j) Y by grind)
   have e3 : (1 - zDn M * V) * V⁻¹ = V⁻¹ - zDn M * (V * V⁻¹) := by grind
   rw [e3, hu, Rat.mul_one] at h2
   exact h2
end
section
variable {M : List (List Rat)} {w : Nat} {v : Rat} {x y : List Rat}
/-- elements multiplied by a number and increased by another one -/
def zDY (by' more : Rat) (M : List (List Rat)) : List (List Rat) := M.map (fun r => r.map (fun q => q * by' + more))
theorem aff_get (a b : Rat) (hM : ∀ r ∈ M, r.length = w) {i j : Nat} (hi : i < M.length) (hj : j < w) : ((zDY a b M).getD i []).getD j 0 = (M.getD i []).getD j 0 * a + b := by
 have e : (zDY a b M).getD i [] = (M.getD i []).map (fun q => q * a + b) := zCK _ M [] [] i hi
 rw [e]
 exact zCK _ _ 0 0 j (by rw [hM _ (zAA [] hi)]; exact hj)
theorem zJl (a b : Rat) (M : List (List Rat)) : (zDY a b M).length = M.length := List.length_map ..
theorem zJ4 (a b : Rat) (hM : ∀ r ∈ M, r.length = w) : ∀ r ∈ zDY a b M, r.length = w := fun r hr => by
 obtain ⟨s, hs, rfl⟩ := List.mem_map.1 hr
 rw [List.length_map, hM s hs]
end
def zBN {α : Type} (l : List α) (i : Nat) : List α := l.take i ++ l.drop (i + 1)
def skip (i j : Nat) : Nat := if j < i then j else j + 1
theorem zF8 {α : Type} {l : List α} {i : Nat} (hi : i < l.length) : (zBN l i).length + 1 = l.length := by
 unfold zBN
 rw [List.length_append, List.length_take, List.length_drop]; omega
theorem zMI {α : Type} {l : List α} {i : Nat} (hi : i < l.length) (j : Nat) (d : α) : (zBN l i).getD j d = l.getD (skip i j) d := by
 unfold zBN skip
 have hl : (l.take i).length = i := by rw [List.length_take]; omega
 by_cases h : j < i
 ·rw [if_pos h, List.getD_eq_getElem?_getD, List.getD_eq_getElem?_getD, List.getElem?_append_left (by omega), List.getElem?_take_of_lt h]
 ·rw [if_neg h, List.getD_eq_getElem?_getD, List.getD_eq_getElem?_getD, List.getElem?_append_right (by omega), List.getElem?_drop, hl]
  congr 2; omega
theorem zKp (f : Nat → Rat) (i : Nat) : ∀ {n : Nat}, i ≤ n → zAN f (n + 1) = f i + zAN (fun j => f (skip i j)) n
 | 0, h => by
  obtain rfl := Nat.le_zero.1 h
  show zAN f 0 + f 0 = f 0 + 0
  show 0 + f 0 = _
  grind
 | n + 1, h => by
  show zAN f (n + 1) + f (n + 1) = f i + (zAN (fun j => f (skip i j)) n + f (skip i n))
  by_cases e : i = n + 1
  ·subst e
   have e1 : zAN (fun j => f (skip (n + 1) j)) n = zAN f n := zAU (fun j hj => by unfold skip; rw [if_pos (by omega)])
   have e2 : skip (n + 1) n = n := if_pos (Nat.lt_succ_self n)
   rw [e1, e2]
   show (zAN f n + f n) + f (n + 1) = _
   grind
  ·rw [zKp f i (n := n) (by omega)]
   have e2 : skip i n = n + 1 := if_neg (by omega)
   rw [e2]; grind
section
variable {M : List (List Rat)} {w : Nat} {v : Rat} {x y : List Rat}
theorem Sad.drop (hw : 0 < w) (hM : ∀ r ∈ M, r.length = w) {i o : Nat} (hi : i < M.length) (ho : o < M.length) (hd : ∀ j, j < w → (M.getD i []).getD j 0 < (M.getD o []).getD j 0)
 (h : Sad (zBN M i) w v x y) : ∃ z, Sad M w v z y := by
 obtain ⟨n, hn⟩ : ∃ n, M.length = n + 1 := ⟨M.length - 1, by omega⟩
 have hdl : (zBN M i).length = n := by have := zF8 hi; omega
 have hoi : o ≠ i := fun e => by
  have := hd 0 hw
  rw [e] at this
  exact Rat.lt_irrefl this
 have hzs : ∀ j, j < n → ((List.range M.length).map (fun k => if k = i then (0 : Rat) else x.getD (if k < i then k else k - 1) 0)).getD (skip i j) 0 = x.getD j 0 := fun j hj => by
  rw [zCr (by unfold skip; split <;> omega)]
  unfold skip
  by_cases hji : j < i
  ·rw [if_pos hji, if_neg (by omega), if_pos hji]
  ·rw [if_neg hji, if_neg (by omega), if_neg (by omega)]; rfl
 have hzi : ((List.range M.length).map (fun k => if k = i then (0 : Rat) else x.getD (if k < i then k else k - 1) 0)).getD i 0 = 0 := by
  rw [zCr hi, if_pos rfl]
 have hun : ∀ k, k < M.length → k ≠ i → ∃ j, j < n ∧ skip i j = k := fun k hk hki => by
  unfold skip
  by_cases hlt : k < i
  ·exact ⟨k, by omega, if_pos hlt⟩
  ·exact ⟨k - 1, by omega, by rw [if_neg (by omega)]; omega⟩
 have h1 := h.up
 rw [hdl] at h1
 have hx0 := h.x0
 rw [hdl] at hx0
 have hxs := h.xs
 rw [hdl] at hxs
 have hrow : ∀ k, k < M.length → k ≠ i → zAK (M.getD k []) y ≤ v := fun k hk hki => by
  obtain ⟨j, hj, rfl⟩ := hun k hk hki
  have := h1 j hj
  rwa [zMI hi] at this
 refine ⟨_, ⟨(by rw [List.length_map, List.length_range] : ((List.range M.length).map (fun k => if k = i then (0 : Rat) else x.getD (if k < i then k else k - 1) 0)).length = M.length), h.yl, fun k hk => ?_, h.y0, ?_, h.ys, fun k hk => ?_, fun j hj => ?_⟩⟩
 ·by_cases hki : k = i
  ·subst hki; rw [hzi]; exact Rat.le_refl
  ·obtain ⟨j, hj, rfl⟩ := hun k hk hki
   rw [hzs j hj]; exact hx0 j hj
 ·rw [hn, zKp _ i (by omega), ← hn, hzi, zAU (fun j hj => hzs j hj), hxs]
  exact Rat.zero_add 1
 ·by_cases hki : k = i
  ·subst hki
   refine Rat.le_trans ?_ (hrow o ho hoi)
   rw [zBE (n := w) (hM _ (zAA [] hk)), zBE (n := w) (hM _ (zAA [] ho))]
   exact zEl (fun j hj => zDD (h.y0 j hj) (Rat.le_of_lt (hd j hj)))
  ·exact hrow k hk hki
 ·refine Rat.le_trans (h.lo j hj) ?_
  rw [zBE (n := n) (by rw [zCo]; exact hdl), zBE (n := n + 1) (by rw [zCo]; exact hn), zKp _ i (by omega), hzi, Rat.mul_zero, Rat.zero_add]
  have e := zAU (n := n) (f := fun k => (zBn (zBN M i) j).getD k 0 * x.getD k 0) (g := fun k => (zBn M j).getD (skip i k) 0 * ((List.range M.length).map (fun k => if k = i then (0 : Rat) else x.getD (if k < i then k else k - 1) 0)).getD (skip i k) 0) (fun k hk => by
   show (zBn (zBN M i) j).getD k 0 * x.getD k 0 = (zBn M j).getD (skip i k) 0 * ((List.range M.length).map (fun k => if k = i then (0 : Rat) else x.getD (if k < i then k else k - 1) 0)).getD (skip i k) 0
   rw [zED, zED, zMI hi, hzs k hk])
  rw [e]; exact Rat.le_refl
end
end Go.Ax.Mg
namespace Go.Ax.Rt
open Go.Ax.Bg
structure TNode where
 kind : Int
 player : Int
 info : Int
 next : List Int
 odds : List zu
 pay : zu
 deriving DecidableEq
def node0 : TNode := ⟨0, 0, 0, [], [], []⟩
abbrev Tree := List TNode
/-- how often a node is named -/
def named (t : Tree) (k : Nat) : Nat := ((t.flatMap TNode.next).filter (fun x => decide (x = (k : Int)))).length
/-- Is it the player's move, in an information set? -/
def own (p : Int) (n : TNode) : Bool := decide (n.kind = 2) && decide (n.player = p)
def inSet (p i : Int) (n : TNode) : Bool := own p n && decide (n.info = i)
/-- the first node of an information set -/
def firstIn (t : Tree) (p i : Int) : Nat := t.findIdx (inSet p i)
def infosOf (t : Tree) (p : Int) : List Int := ((List.range 10).map (fun i : Nat => (i : Int))).filter (fun i => t.any (inSet p i))
def zJ2 (t : Tree) (p i : Int) : Nat := (t.getD (firstIn t p i) node0).next.length
structure RSeq where
 info : Int
 choice : Int
 before : Int
 deriving DecidableEq
def seq0 : RSeq := ⟨-1, -1, -1⟩
structure RForm where
 seqs : List RSeq
 pos : List Int
 first : List (Int × Nat)
def lookA (m : List (Int × Nat)) (k : Int) : Option Nat := (m.find? (fun x => decide (x.1 = k))).map Prod.snd
def newSeqs (n : TNode) (b : Int) : List RSeq := (List.range n.next.length).map (fun k : Nat => ⟨n.info, (k : Int), b⟩)
def zJk (p : Int) (n : TNode) (i : Nat) (f : RForm) : RForm :=
 if own p n = true ∧ lookA f.first n.info = none then ⟨f.seqs ++ newSeqs n (f.pos.getD i 0), f.pos, f.first ++ [(n.info, f.seqs.length)]⟩ else f
def zQE (v : Nat → Int) : List Int → Nat → List Int → List Int
 | [], _, a => a
 | c :: r, k, a => zQE v r (k + 1) (a.set c.toNat (v k))
def nextV (p : Int) (n : TNode) (i : Nat) (f : RForm) (k : Nat) : Int := if own p n = true then (((lookA f.first n.info).getD 0 : Nat) : Int) + (k : Int) else f.pos.getD i 0
def stepF (p : Int) (n : TNode) (i : Nat) (f : RForm) : RForm := ⟨(zJk p n i f).seqs, zQE (nextV p n i (zJk p n i f)) n.next 0 (zJk p n i f).pos, (zJk p n i f).first⟩
def formN (t : Tree) (p : Int) : Nat → RForm
 | 0 => ⟨[seq0], List.replicate t.length 0, []⟩
 | i + 1 => stepF p (t.getD i node0) i (formN t p i)
def seqsOf (t : Tree) (p : Int) : List RSeq := (formN t p t.length).seqs
theorem zLy (q : Rat) : ∀ (l : List Rat) (acc : Rat), zIr acc (l ++ [q]) = zIr acc l + q
 | [], acc => rfl
 | a :: r, acc => by rw [List.cons_append, zIr, zIr, zLy q r]
theorem zLw : ∀ (m : Nat) (l : List Rat), m ≤ l.length → zAN (fun c => l.getD c 0) m = zIr 0 (l.take m)
 | 0, l, _ => rfl
 | m + 1, l, h => by
  rw [zAN, zLw m l (by omega), List.take_succ_eq_append_getElem (by omega), zLy, zDu 0 (by omega)]
end Go.Ax.Rt
namespace Go.Ax.Mg
open Go.Ax.Dt Go.Ax.Rt Go.Ax.Bg Go.Ax.Sx
/-- a number with the denominator d and a small numerator -/
def zJg (B : Nat) (d : Int) (q : Rat) : Prop := ∃ x : Int, x.natAbs ≤ B ∧ q = Rat.divInt x d
theorem zJg.zero (B : Nat) (d : Int) : zJg B d 0 := ⟨0, Nat.zero_le _, (Rat.zero_divInt d).symm⟩
/-- whole rows with at most e digits, factors with at most f digits -/
structure Fine (p : Prog) (e f : Nat) : Prop where
 w : ∀ i j, i < p.m → j < p.n + 1 → ((p.whole i).getD j 0).natAbs ≤ 10 ^ e
 c : ∀ j, j < p.n → ((zAj p.C).getD j 0).natAbs ≤ 10 ^ e
 fa : ∀ i, i < p.m → p.fac i ≤ 10 ^ f
 fc : p.fc ≤ 10 ^ f
theorem zPH {p : Prog} {e f : Nat} (hk : Fine p e f) {i j : Nat} (hi : i < p.m) (hj : j < p.N + 1) : (at2 (zAM p).rows i j).natAbs ≤ 10 ^ e := by
 have h1 := zBq e
 by_cases c1 : j < p.n
 ·rw [zJy p hi c1, Int.natAbs_mul, zHG, Nat.one_mul]
  exact hk.w _ _ hi (by omega)
 ·by_cases c2 : j < p.n + p.m
  ·obtain ⟨q, rfl⟩ : ∃ q, j = p.n + q := ⟨j - p.n, by omega⟩
   rw [zIp p hi (by omega)]
   split
   ·rw [zHG]; exact h1
   ·exact Nat.zero_le _
  ·by_cases c3 : j < p.N
   ·obtain ⟨q, rfl⟩ : ∃ q, j = p.n + p.m + q := ⟨j - (p.n + p.m), by omega⟩
    rw [zMk p hi (Nat.lt_of_add_lt_add_left (show p.n + p.m + q < p.n + p.m + p.a from c3))]
    split
    ·exact h1
    ·exact Nat.zero_le _
   ·obtain rfl : j = p.N := by omega
    rw [zIo p hi, Int.natAbs_mul, zHG, Nat.one_mul]
    exact hk.w _ _ hi (Nat.lt_succ_self _)
theorem M2_fine {p : Prog} {e f : Nat} (hk : Fine p e f) : ∀ i j, i < p.m + 1 → j < p.N + 1 → (at2 (M2 p) i j).natAbs ≤ 10 ^ e := by
 intro i j hi hj
 unfold M2
 by_cases c : i = p.m
 ·rw [c, zIJ (zBF p) hj]
  unfold zBU
  split
  ·rename_i h
   rw [Int.natAbs_neg]; exact hk.c _ h
  ·exact Nat.zero_le _
 ·have hi' : i < p.m := Nat.lt_of_le_of_ne (Nat.le_of_lt_succ hi) c
  rw [zGj (zBF p) hi']; exact zPH hk hi' hj
theorem run_frac {p : Prog} {e f : Nat} (hp : p.Ok) (hk : Fine p e f) (hm : p.m + 1 ≤ 40) {K L : Nat} (h0 : (zDa p K L).kind = 0) :
 ∃ d t : Int, 0 < d ∧ d.natAbs ≤ 10 ^ ((e + 2) * (p.m + 1) + f) ∧ t.natAbs ≤ 10 ^ ((e + 2) * (p.m + 1)) ∧ (zDa p K L).V = Rat.divInt t d ∧
  (∀ q ∈ (zDa p K L).X, zJg (10 ^ ((e + 2) * (p.m + 1) + f)) d q) ∧ ∀ q ∈ (zDa p K L).Y, zJg (10 ^ ((e + 2) * (p.m + 1) + f)) d q := by
 unfold zDa at h0 ⊢
 by_cases h : 0 < p.a ∧ at2 (zCD p K).rows p.m p.N < 0
 ·rw [if_pos h] at h0; cases h0
 rw [if_neg h] at h0 ⊢
 by_cases h4 : zCI p.m (p.n + p.m) (zDb p K L) < p.n + p.m
 ·rw [if_pos h4] at h0; cases h0
 rw [if_neg h4]
 obtain ⟨h1, _, _⟩ := zHW p hp K L (zGv hp h)
 obtain ⟨a1, a2⟩ := h1.bound (zBq e) (M2_fine hk)
 have a3 := zPh (k := e) hm
 have b1 : ∀ i j, i < p.m + 1 → j < p.N + 1 → (at2 (zDb p K L).rows i j).natAbs ≤ 10 ^ ((e + 2) * (p.m + 1)) := fun i j hi hj => Nat.le_trans (a1 i j hi hj) a3
 have b2 := Nat.le_trans a2 a3
 have hd := h1.dp
 have hf := zHp p
 have hw := zFe p
 generalize zDb p K L = s at *
 have hfz : ((p.fc : Nat) : Int) ≠ 0 := by omega
 refine ⟨s.den * (p.fc : Nat), at2 s.rows p.m p.N, Int.mul_pos hd (by omega), ?_, b1 _ _ (Nat.lt_succ_self _) (Nat.lt_succ_self _), Z, ?_, ?_⟩
 ·rw [Int.natAbs_mul, Int.natAbs_natCast, Nat.pow_add]
  exact Nat.mul_le_mul b2 hk.fc
 ·refine zIg (fun q hq => ?_) (fun i hi => ?_)
  ·rw [List.eq_of_mem_replicate hq]; exact zJg.zero _ _
  ·refine ⟨at2 s.rows i p.N * (p.fc : Nat), ?_, (Rat.divInt_mul_right hfz).symm⟩
   rw [Int.natAbs_mul, Int.natAbs_natCast, Nat.pow_add]
   exact Nat.mul_le_mul (b1 _ _ (by omega) (Nat.lt_succ_self _)) hk.fc
 ·intro q hq
  obtain ⟨i, hi, rfl⟩ := List.mem_map.1 hq
  have hi : i < p.m := by simpa using hi
  refine ⟨at2 s.rows p.m (p.n + i) * (p.fac i : Nat), ?_, ?_⟩
  ·rw [Int.natAbs_mul, Int.natAbs_natCast, Nat.pow_add]
   exact Nat.mul_le_mul (b1 _ _ (Nat.lt_succ_self _) (by omega)) (hk.fa i hi)
  ·generalize s.den * ((p.fc : Nat) : Int) = dd
   rw [Rat.divInt_eq_div, Rat.divInt_eq_div, Rat.intCast_mul, Rat.div_def, Rat.div_def, Rat.intCast_natCast, Rat.mul_assoc, Rat.mul_assoc, Rat.mul_comm ((dd : Int) : Rat)⁻¹]
theorem frac_div {B : Nat} {d t : Int} (hd : d ≠ 0) (ht : t ≠ 0) {q : Rat} (h : zJg B d q) : zJg B t (q / Rat.divInt t d) := by
 obtain ⟨x, hx, rfl⟩ := h
 refine ⟨x, hx, ?_⟩
 have hdr : ((d : Int) : Rat) ≠ 0 := zJp hd
 have htr : ((t : Int) : Rat) ≠ 0 := zJp ht
 have e1 : (t : Rat) * (t : Rat)⁻¹ = 1 := Rat.mul_inv_cancel _ htr
 have e2 : (d : Rat) * (d : Rat)⁻¹ = 1 := Rat.mul_inv_cancel _ hdr
 have e : Rat.divInt x d = Rat.divInt x t * Rat.divInt t d := by
  rw [Rat.divInt_eq_div, Rat.divInt_eq_div, Rat.divInt_eq_div, Rat.div_def, Rat.div_def, Rat.div_def]
  grind
 have hne : Rat.divInt t d ≠ 0 := fun q => by
  rw [Rat.divInt_eq_div, Rat.div_def] at q
  have : (t : Rat) * (d : Rat)⁻¹ * (d : Rat) = 0 := by rw [q, Rat.zero_mul]
  have : (t : Rat) = 0 := by grind
  exact htr this
 rw [e]
 exact Rat.mul_div_cancel hne
theorem frac_D {B k : Nat} {d : Int} (hd : d ≠ 0) {q : Rat} (h : zJg B d q) (h1 : B < 10 ^ k) (h2 : d.natAbs < 10 ^ k) : D k q := by
 obtain ⟨x, hx, rfl⟩ := h
 exact zEO hd (Nat.lt_of_le_of_lt hx h1) h2
theorem frac_add (x y d : Int) : Rat.divInt x d + Rat.divInt y d = Rat.divInt (x + y) d := by
 rw [Rat.divInt_eq_div, Rat.divInt_eq_div, Rat.divInt_eq_div, Rat.div_def, Rat.div_def, Rat.div_def, Rat.intCast_add]
 grind
/-- sums of numbers with one denominator -/
theorem zOB {B k : Nat} {t : Int} (ht : t ≠ 0) (hk : k ≤ 2000) (h2 : t.natAbs < 10 ^ k) : ∀ (l : List Rat) (a : Int), (∀ q ∈ l, zJg B t q) → a.natAbs + B * l.length < 10 ^ k → (zG4 (Rat.divInt a t) l).2 = 0
 | [], a, _, _ => rfl
 | q :: r, a, h, hb => by
  obtain ⟨x, hx, rfl⟩ := h q (List.mem_cons_self ..)
  rw [List.length_cons, Nat.mul_add, Nat.mul_one] at hb
  have h3 := Int.natAbs_add_le a x
  rw [zG4, frac_add, if_pos ((zEO ht (show (a + x).natAbs < 10 ^ k by omega) h2).fit hk)]
  exact zOB ht hk h2 r (a + x) (fun q hq => h q (List.mem_cons_of_mem _ hq)) (by omega)
theorem odds_com {qs : List Rat} (hn : qs.length ≤ 256) (hf : ∀ q ∈ qs, zBx q = true) (hs : (zG4 0 qs).2 = 0) (h0 : ∀ q ∈ qs, 0 ≤ q) (h1 : zIr 0 qs = 1) : zEY (qs.map zr) = 0 := by
 have v1 : (qs.map zr).map zAI = qs := by
  rw [List.map_map]
  conv => rhs; rw [← List.map_id qs]
  exact List.map_congr_left (fun q hq => (zJB (hf q hq)).2)
 have v2 : zEv (qs.map zr) = 0 := zL9 (fun s hs => by
  obtain ⟨q, hq, rfl⟩ := List.mem_map.1 hs
  exact (zJB (hf q hq)).1)
 have v3 : zG5 (qs.map zr) = (1, 0) := by
  unfold zG5
  rw [if_neg (by rw [List.length_map]; omega), if_pos v2, v1]
  have := zLz qs 0 hs
  rw [h1] at this
  exact Prod.ext this hs
 have v4 : (qs.map zr).any zDZ = false := by
  rw [List.any_eq_false]
  intro s hs'
  obtain ⟨q, hq, rfl⟩ := List.mem_map.1 hs'
  have e := zJB (hf q hq)
  have := (zJE e.1).2 (by rw [e.2]; exact h0 q hq)
  simp [this]
 unfold zEY posE
 rw [v3, v4]; rfl
theorem zGp {N : Nat} : ∀ (l : List Rat) (f : Nat), f ∣ N → (∀ q ∈ l, q.den ∣ N) → zCp f l ∣ N
 | [], f, h, _ => h
 | a :: r, f, h, hq => by
  rw [zCp]
  refine zGp r _ ?_ (fun q hq' => hq q (List.mem_cons_of_mem _ hq'))
  have e : f * (a.den / Nat.gcd f a.den) = Nat.lcm f a.den := by
   unfold Nat.lcm
   rw [Nat.mul_div_assoc _ (Nat.gcd_dvd_right f a.den)]
  rw [e]
  exact Nat.lcm_dvd h (hq a (List.mem_cons_self ..))
def zLm : List Rat → Nat
 | [] => 1
 | q :: r => q.den * zLm r
theorem zLo : ∀ l, 0 < zLm l
 | [] => Nat.zero_lt_one
 | q :: r => Nat.mul_pos q.den_pos (zLo r)
theorem zLn : ∀ {l : List Rat}, ∀ q ∈ l, q.den ∣ zLm l
 | [], q, h => absurd h List.not_mem_nil
 | a :: r, q, h => by
  rcases List.mem_cons.1 h with rfl | h
  ·exact Nat.dvd_mul_right _ _
  ·exact Nat.dvd_trans (zLn q h) (Nat.dvd_mul_left _ _)
theorem zNk {k : Nat} : ∀ {l : List Rat}, (∀ q ∈ l, D k q) → zLm l ≤ 10 ^ (k * l.length)
 | [], _ => by rw [List.length_nil, Nat.mul_zero]; exact Nat.le_refl _
 | a :: r, h => by
  rw [List.length_cons, Nat.mul_add, Nat.mul_one, Nat.add_comm, Nat.pow_add]
  exact Nat.mul_le_mul (Nat.le_of_lt (h a (List.mem_cons_self ..)).2) (zNk (fun q hq => h q (List.mem_cons_of_mem _ hq)))
/-- an element of the program: (q - c) a + 1 -/
theorem zOi {k : Nat} {q c a : Rat} (hq : D k q) (hc : D k c) (ha : D k a) :
 ((q * a + 1) - c * a).num.natAbs ≤ 10 ^ (3 * k + 1) ∧ ((q * a + 1) - c * a).den ∣ q.den * (c.den * a.den) := by
 have e : (q * a + 1) - c * a = Rat.divInt ((q.num * c.den - c.num * q.den) * a.num + (q.den * (c.den * a.den) : Nat)) ((q.den * (c.den * a.den) : Nat) : Int) := by
  have n1 : q * (q.den : Rat) = (q.num : Rat) := zJr q
  have n2 : c * (c.den : Rat) = (c.num : Rat) := zJr c
  have n3 : a * (a.den : Rat) = (a.num : Rat) := zJr a
  have hne : (((q.den * (c.den * a.den) : Nat) : Int) : Rat) ≠ 0 := zJp (by
   have := Nat.mul_pos q.den_pos (Nat.mul_pos c.den_pos a.den_pos)
   omega)
  rw [Rat.divInt_eq_div]
  have h : ((q * a + 1) - c * a) * (((q.den * (c.den * a.den) : Nat) : Int) : Rat) = (((q.num * c.den - c.num * q.den) * a.num + (q.den * (c.den * a.den) : Nat) : Int) : Rat) := by
   rw [Rat.intCast_add, Rat.intCast_mul, Rat.intCast_sub, Rat.intCast_mul, Rat.intCast_mul, Rat.intCast_natCast, Rat.intCast_natCast, Rat.intCast_natCast, Rat.natCast_mul, Rat.natCast_mul, ← n1, ← n2, ← n3]
   grind
  rw [← h]
  exact (Rat.mul_div_cancel hne).symm
 have hpos : ((q.den * (c.den * a.den) : Nat) : Int) ≠ 0 := by
  have := Nat.mul_pos q.den_pos (Nat.mul_pos c.den_pos a.den_pos)
  omega
 obtain ⟨e1, e2, _⟩ := zGB ((q.num * c.den - c.num * q.den) * a.num + (q.den * (c.den * a.den) : Nat)) _ hpos
 rw [e]
 refine ⟨?_, ?_⟩
 ·rw [e1]
  refine Nat.le_trans (Nat.div_le_self _ _) ?_
  have b1 : q.num.natAbs * c.den ≤ 10 ^ k * 10 ^ k := Nat.mul_le_mul (Nat.le_of_lt hq.1) (Nat.le_of_lt hc.2)
  have b2 : c.num.natAbs * q.den ≤ 10 ^ k * 10 ^ k := Nat.mul_le_mul (Nat.le_of_lt hc.1) (Nat.le_of_lt hq.2)
  have b3 : q.den * (c.den * a.den) ≤ 10 ^ k * (10 ^ k * 10 ^ k) := Nat.mul_le_mul (Nat.le_of_lt hq.2) (Nat.mul_le_mul (Nat.le_of_lt hc.2) (Nat.le_of_lt ha.2))
  have s1 := Int.natAbs_add_le ((q.num * c.den - c.num * q.den) * a.num) ((q.den * (c.den * a.den) : Nat) : Int)
  have s2 : (q.num * c.den - c.num * q.den).natAbs ≤ 10 ^ k * 10 ^ k + 10 ^ k * 10 ^ k := by
   have := Int.natAbs_sub_le (q.num * c.den) (c.num * q.den)
   rw [Int.natAbs_mul, Int.natAbs_mul, Int.natAbs_natCast, Int.natAbs_natCast] at this
   omega
  have s3 : ((q.num * c.den - c.num * q.den) * a.num).natAbs ≤ (10 ^ k * 10 ^ k + 10 ^ k * 10 ^ k) * 10 ^ k := by
   rw [Int.natAbs_mul]
   exact Nat.mul_le_mul s2 (Nat.le_of_lt ha.1)
  rw [Int.natAbs_natCast] at s1
  have e3 : 10 ^ (3 * k + 1) = 10 ^ k * (10 ^ k * 10 ^ k) * 10 := by
   rw [Nat.pow_succ, show 3 * k = k + (k + k) by omega, Nat.pow_add, Nat.pow_add]
  have e4 : (10 ^ k * 10 ^ k + 10 ^ k * 10 ^ k) * 10 ^ k = 10 ^ k * (10 ^ k * 10 ^ k) + 10 ^ k * (10 ^ k * 10 ^ k) := by
   rw [Nat.add_mul, Nat.mul_assoc]
  rw [e3]
  omega
 ·rw [e2]
  exact Nat.div_dvd_of_dvd (by
   refine Nat.dvd_trans (Nat.gcd_dvd_right _ _) ?_
   rw [Int.natAbs_natCast]; exact Nat.dvd_refl _)
section
variable {M : List (List Rat)} {w : Nat}
theorem zLr {n : Nat} : zCp 1 (List.replicate n (1 : Rat)) = 1 := by
 have := zGp (N := 1) (List.replicate n (1 : Rat)) 1 (Nat.dvd_refl _) (fun q hq => by rw [List.eq_of_mem_replicate hq]; exact Nat.dvd_refl _)
 exact Nat.dvd_one.1 this
/-- the least element of a shifted game is the shifted one of some element -/
theorem zLf (a b : Rat) {k : Nat} (hw : 0 < w) (hm : 0 < M.length) (hM : ∀ r ∈ M, r.length = w) (hD : ∀ r ∈ M, ∀ q ∈ r, D k q) : ∃ c, D k c ∧ zGD (zDY a b M) = c * a + b := by
 refine zHO (P := fun x => ∃ c, D k c ∧ x = c * a + b) (zDY a b M) _ ?_ ?_
 ·have hr := zAA (l := M) [] hm
  exact ⟨(M.getD 0 []).getD 0 0, hD _ hr _ (zAA 0 (by rw [hM _ hr]; exact hw)), aff_get a b hM hm hw⟩
 ·intro r hr q hq
  obtain ⟨s, hs, rfl⟩ := List.mem_map.1 hr
  obtain ⟨c, hc, rfl⟩ := List.mem_map.1 hq
  exact ⟨c, hD s hs c hc, Z⟩
theorem zQn (a b : Rat) {k : Nat} (hw : 0 < w) (hm : 0 < M.length) (hM : ∀ r ∈ M, r.length = w) (hD : ∀ r ∈ M, ∀ q ∈ r, D k q) (ha : D k a) :
 Fine (zAS (zDY a b M) w) (k * (w + 2) + (3 * k + 1)) (k * (w + 2)) := by
 obtain ⟨c, hc, hl⟩ := zLf a b hw hm hM hD
 have en := zIW (zDY a b M) w
 have em : (zAS (zDY a b M) w).m = M.length := by rw [zIV, zJl]
 have hok := zFq (zJ4 a b hM)
 have hM' := zJ4 a b hM
 -- the elements of a row and its right side
 have hel : ∀ i, i < M.length → ∀ q ∈ (zAS (zDY a b M) w).full i, q.num.natAbs ≤ 10 ^ (3 * k + 1) ∧ q.den ∣ zLm (M.getD i []) * (c.den * a.den) := by
  intro i hi q hq
  rcases List.mem_append.1 hq with h | h
  ·rw [zJA (by rw [zJl]; exact hi)] at h
   obtain ⟨x, hx, rfl⟩ := List.mem_map.1 h
   have e : (zDY a b M).getD i [] = (M.getD i []).map (fun q => q * a + b) := zCK _ M [] [] i hi
   rw [e] at hx
   obtain ⟨y, hy, rfl⟩ := List.mem_map.1 hx
   have hy' := hD _ (zAA [] hi) y hy
   obtain ⟨g1, g2⟩ := zOi hy' hc ha
   have e2 : y * a + b + zDn (zDY a b M) = (y * a + 1) - c * a := by
    unfold zDn; rw [hl]; grind
   rw [e2]
   exact ⟨g1, Nat.dvd_trans g2 (Nat.mul_dvd_mul_right (zLn y hy) _)⟩
  ·rw [List.mem_singleton.1 h]
   have e2 : (zAS (zDY a b M) w).B.getD i 0 = 1 := zCd (by rw [zJl]; exact hi)
   rw [e2]
   exact ⟨zBq _, Nat.one_dvd _⟩
 have hN : ∀ i, i < M.length → zLm (M.getD i []) * (c.den * a.den) ≤ 10 ^ (k * (w + 2)) := fun i hi => by
  have h1 := zNk (k := k) (hD _ (zAA [] hi))
  rw [hM _ (zAA [] hi)] at h1
  have h2 : c.den * a.den ≤ 10 ^ k * 10 ^ k := Nat.mul_le_mul (Nat.le_of_lt hc.2) (Nat.le_of_lt ha.2)
  rw [Nat.mul_add, Nat.pow_add, show k * 2 = k + k by omega, Nat.pow_add]
  exact Nat.mul_le_mul h1 h2
 have hfac : ∀ i, i < M.length → (zAS (zDY a b M) w).fac i ≤ 10 ^ (k * (w + 2)) := fun i hi => by
  refine Nat.le_trans (Nat.le_of_dvd (Nat.mul_pos (zLo _) (Nat.mul_pos c.den_pos a.den_pos)) ?_) (hN i hi)
  exact zGp _ 1 (Nat.one_dvd _) (fun q hq => (hel i hi q hq).2)
 refine ⟨fun i j hi hj => ?_, fun j hj => ?_, fun i hi => ?_, ?_⟩
 ·rw [zJR _ hok hi hj, Int.natAbs_mul, Int.natAbs_natCast, Nat.pow_add, Nat.mul_comm]
  rw [em] at hi
  have hin : ((zAS (zDY a b M) w).full i).getD j 0 ∈ (zAS (zDY a b M) w).full i := zAA 0 (by rw [zD2 _ hok (by rw [em]; exact hi)]; exact hj)
  exact Nat.mul_le_mul (Nat.le_trans (Nat.div_le_self _ _) (hfac i hi)) (hel i hi _ hin).1
 ·have e : (zAj (zAS (zDY a b M) w).C).getD j 0 = 1 := by
   have hx : (zAj (List.replicate w (1 : Rat))).getD j 0 = 1 := by
    rw [en] at hj
    unfold zAj
    rw [zCK _ _ 0 _ _ (by rw [List.length_replicate]; exact hj), zCd hj, zLr]
    rfl
   exact hx
  rw [e]; exact zBq _
 ·rw [em] at hi; exact hfac i hi
 ·have e : (zAS (zDY a b M) w).fc = 1 := zLr
  rw [e]; exact zBq _
/-- The results of a small game. -/
structure Small (M : List (List Rat)) (w K L : Nat) : Prop where
 sad : Sad M w (zAm M w K L).1 (zAm M w K L).2.1 (zAm M w K L).2.2
 v : D 1300 (zAm M w K L).1
 r : ∀ q ∈ (zAm M w K L).2.1, D 1320 q
 c : ∀ q ∈ (zAm M w K L).2.2, D 1320 q
 rs : zEY ((zAm M w K L).2.1.map zr) = 0
 cs : zEY ((zAm M w K L).2.2.map zr) = 0
theorem ten5 {k : Nat} : 10 ^ k * 5 < 10 ^ (k + 1) := by
 rw [Nat.pow_succ]
 have := zBq k
 omega
theorem zOz {l : List Rat} {n : Nat} (hl : l.length = n) (h : ∀ i, i < n → 0 ≤ l.getD i 0) : ∀ q ∈ l, 0 ≤ q := by
 intro q hq
 obtain ⟨i, hi, rfl⟩ := List.mem_iff_getElem.1 hq
 have := h i (by omega)
 simpa [List.getD, hi] using this
theorem sum_all {l : List Rat} {n : Nat} (hl : l.length = n) : zAN (fun i => l.getD i 0) n = zIr 0 l := by
 rw [zLw n l (by omega), List.take_of_length_le (by omega)]
theorem zOo (a b : Rat) (hM : ∀ r ∈ M, r.length = w) (hw : 0 < w) (hm : 0 < M.length) (hw5 : w ≤ 5) (hm5 : M.length ≤ 5) (hD : ∀ r ∈ M, ∀ q ∈ r, D 12 q) (ha : D 12 a) (hb : D 12 b) {K L : Nat}
 (hs : Stops (zAS (zDY a b M) w) K L) : Small (zDY a b M) w K L := by
 have hM' := zJ4 a b hM
 have hl' := zJl a b M
 have hok := zFq hM'
 obtain ⟨g0, gV, gX, gY, gS⟩ := zLX hM' hw (by rw [hl']; exact hm) (zN0 hok hs)
 have en := zIW (zDY a b M) w
 have em : (zAS (zDY a b M) w).m = M.length := by rw [zIV, hl']
 have hfine := zQn a b hw hm hM hD ha
 obtain ⟨d, t, d0, d1, t1, eV, fX, fY⟩ := run_frac hok hfine (by rw [em]; omega) g0
 rw [em] at d1 t1 fX fY
 have hdz : d ≠ 0 := by omega
 have hT : (12 * (w + 2) + (3 * 12 + 1) + 2) * (M.length + 1) ≤ 738 := Nat.le_trans (Nat.mul_le_mul (show 12 * (w + 2) + (3 * 12 + 1) + 2 ≤ 123 by omega) (show M.length + 1 ≤ 6 by omega)) (by decide)
 generalize (12 * (w + 2) + (3 * 12 + 1) + 2) * (M.length + 1) = T at *
 obtain ⟨e1, he1⟩ : ∃ e : Nat, e = 1200 := ⟨_, rfl⟩
 obtain ⟨e2, he2⟩ : ∃ e : Nat, e = 1310 := ⟨_, rfl⟩
 obtain ⟨e3, he3⟩ : ∃ e : Nat, e = 1320 := ⟨_, rfl⟩
 have hd1 : d.natAbs ≤ 10 ^ e1 := Nat.le_trans d1 (Nat.pow_le_pow_right (by decide) (by omega))
 have ht1 : t.natAbs ≤ 10 ^ e1 := Nat.le_trans t1 (Nat.pow_le_pow_right (by decide) (by omega))
 have htz : t ≠ 0 := fun e => by
  rw [eV, e, Rat.zero_divInt] at gV
  exact Rat.lt_irrefl gV
 have hlt : e1 < e3 := by omega
 have ht2 : t.natAbs < 10 ^ e3 := Nat.lt_of_le_of_lt ht1 (Nat.pow_lt_pow_right (a := 10) (m := e1) (n := e3) (by decide) hlt)
 have hB : 10 ^ (T + 12 * (w + 2)) ≤ 10 ^ e2 := Nat.pow_le_pow_right (by decide) (by omega)
 have mono : ∀ {l : List Rat}, (∀ q ∈ l, zJg (10 ^ (T + 12 * (w + 2))) d q) → ∀ q ∈ l.map (fun q => q / (zDa (zAS (zDY a b M) w) K L).V), zJg (10 ^ e2) t q := fun hl q hq => by
  obtain ⟨a, ha, rfl⟩ := List.mem_map.1 hq
  rw [eV]
  obtain ⟨x, hx, e⟩ := frac_div hdz htz (hl a ha)
  exact ⟨x, Nat.le_trans hx hB, e⟩
 have mX := mono fX
 have mY := mono fY
 have hb2 : 10 ^ e2 < 10 ^ e3 := Nat.pow_lt_pow_right (by decide) (by omega)
 have dX : ∀ q ∈ (zAm (zDY a b M) w K L).2.2, D 1320 q := fun q hq => (frac_D htz (mX q hq) hb2 ht2).mono (by omega)
 have dY : ∀ q ∈ (zAm (zDY a b M) w K L).2.1, D 1320 q := fun q hq => (frac_D htz (mY q hq) hb2 ht2).mono (by omega)
 have sum : ∀ (l : List Rat) (n : Nat), l.length = n → n ≤ 5 → (∀ q ∈ l, zJg (10 ^ e2) t q) → (∀ q ∈ l, D 1320 q) → (∀ i, i < n → 0 ≤ l.getD i 0) → zAN (fun i => l.getD i 0) n = 1 → zEY (l.map zr) = 0 := fun l n hl hn hf hd h0 h1 => by
  refine odds_com (by omega) (fun q hq => (hd q hq).fit (by decide)) ?_ (zOz hl h0) (by rw [← sum_all hl]; exact h1)
  have := zOB (B := 10 ^ e2) (k := e3) htz (by omega) ht2 l 0 hf (by
   refine Nat.lt_of_le_of_lt ?_ (Nat.lt_of_lt_of_le (ten5 (k := e2)) (Nat.pow_le_pow_right (by decide) (by omega)))
   rw [Int.natAbs_zero, Nat.zero_add]
   exact Nat.mul_le_mul_left _ (by omega))
  rwa [Rat.zero_divInt] at this
 refine ⟨gS, ?_, dY, dX, sum _ _ gS.xl (by rw [hl']; exact hm5) mY dY gS.x0 gS.xs, sum _ _ gS.yl hw5 mX dX gS.y0 gS.ys⟩
 have h1 : D 1201 (Rat.divInt t d) := (zEO hdz (zCt ht1) (zCt hd1)).mono (by omega)
 have h2 : D 1202 (1 / (zDa (zAS (zDY a b M) w) K L).V) := by
  rw [eV]
  exact ((zHe 0).div h1 (by rw [← eV]; intro e; rw [e] at gV; exact Rat.lt_irrefl gV)).mono (by decide)
 obtain ⟨c, hc, hl⟩ := zLf a b hw hm hM hD
 have h3 : D 39 (zDn (zDY a b M)) := by
  unfold zDn; rw [hl]
  exact ((zHe 0).sub ((hc.mul ha).add hb)).mono (by decide)
 exact (h2.sub h3).mono (by decide)
end
end Go.Ax.Mg
namespace Go.Ax.Rt
open Go.Ax.Bg
abbrev firstF (t : Tree) (p : Int) : List (Int × Nat) := (formN t p t.length).first
/-- The choices from e on belong to whole sets. -/
structure Bnd (t : Tree) (p : Int) (e : Nat) : Prop where
 one : 1 ≤ e
 le : e ≤ (seqsOf t p).length
 whole : ∀ x ∈ firstF t p, x.2 < e → x.2 + zJ2 t p x.1 ≤ e
structure Blk (t : Tree) (p : Int) (e : Nat) (x : Int × Nat) (b : Nat) : Prop where
 mem : x ∈ firstF t p
 info : x.1 ∈ infosOf t p
 one : 1 ≤ x.2
 w1 : 1 ≤ zJ2 t p x.1
 fin : x.2 + zJ2 t p x.1 = e
 lt : b < x.2
 bnd : Bnd t p x.2
 seqs : ∀ c, c < zJ2 t p x.1 → (seqsOf t p).getD (x.2 + c) seq0 = ⟨x.1, (c : Int), (b : Int)⟩
end Go.Ax.Rt
namespace Go.Ax.Rt
open Go.Ax.Bg Go.Ax.Idx
theorem zOC : ∀ (qs : List Rat) (acc : Rat), (zG4 acc qs).2 = 0 → (zG4 acc qs).1 = zIr acc qs
 | [], acc, _ => rfl
 | q :: r, acc, h => by
  rw [zG4] at h ⊢
  rw [zIr]
  split at h
  ·rename_i hf
   rw [if_pos hf]
   exact zOC r _ h
  ·cases h
theorem zHP {l : List zu} (h : zEY l = 0) : l.length ≤ 256 ∧ (∀ s ∈ l, zER s = 0) ∧ zIr 0 (l.map zAI) = 1 ∧ ∀ q ∈ l.map zAI, 0 ≤ q ∧ D 2000 q := by
 unfold zEY at h
 split at h
 case isFalse h1 => exact absurd h h1
 rename_i h1
 split at h
 case isFalse => cases h
 rename_i h2
 unfold posE at h1
 split at h1
 ·cases h1
 rename_i h3
 have h4 : l.any zDZ = false := by
  cases hb : l.any zDZ
  ·rfl
  ·exact absurd ⟨h1, hb⟩ h3
 unfold zG5 at h1 h2
 split at h1
 ·cases h1
 rename_i h5
 split at h1
 case isFalse h6 => exact absurd h1 h6
 rename_i h6
 rw [if_neg h5, if_pos h6] at h2
 have h7 := zFg h6
 refine ⟨by omega, h7, ?_, fun q hq => ?_⟩
 ·have := zOC _ _ h1
  rw [this] at h2
  unfold zCn at h2
  split at h2
  ·cases h2
  ·split at h2
   ·rename_i e; exact e
   ·cases h2
 ·obtain ⟨s, hs, rfl⟩ := List.mem_map.1 hq
  have hn := (zJE (h7 s hs)).1 (by rw [List.any_eq_false] at h4; simpa using h4 s hs)
  refine ⟨hn, ?_⟩
  have hf := (IsQ.self (h7 s hs)).fit
  unfold zBx at hf
  rw [Bool.and_eq_true, decide_eq_true_eq, decide_eq_true_eq] at hf
  exact dig_D hf.1 hf.2
end Go.Ax.Rt
namespace Go.Ax.Mg
open Go.Ax.Dt Go.Ax.Rt Go.Ax.Bg Go.Ax.Sx
abbrev ResG := zu × List zu × List zu
def zMl (g : Rat × List Rat × List Rat) : ResG := (zr g.1, g.2.1.map zr, g.2.2.map zr)
def zLV (g : Rat × List Rat × List Rat) : Bool := (g.1 :: (g.2.1 ++ g.2.2)).all zBx
/-- matgame.Solve -/
def zGP (m : List (List zu)) (K L : Nat) : ResG × Int :=
 if zA0 m ≠ 0 then (([], [], []), zA0 m) else if zLV (zAm (inM m) (zAH m) K L) = true then (zMl (zAm (inM m) (zAH m) K L), 0) else (([], [], []), 2)
def zEk (m : List (List zu)) (r c : List zu) : Int := if r.length ≠ m.length ∨ c.length ≠ zAH m then 3 else if zEY r ≠ 0 then zEY r else zEY c
/-- matgame.Pay -/
def payG (m : List (List zu)) (r c : List zu) : zu × Int :=
 if zA0 m ≠ 0 then ([], zA0 m) else if zEk m r c ≠ 0 then ([], zEk m r c) else outF (zAK (r.map zAI) ((inM m).map (fun row => zAK row (c.map zAI))))
/-- matgame.Verify -/
def verG (m : List (List zu)) (v : zu) (r c : List zu) : Int :=
 if zA0 m ≠ 0 then zA0 m else if zEk m r c ≠ 0 then zEk m r c else if zER v ≠ 0 then zER v
 else if (inM m).any (fun row => decide (0 < zCn (zAK row (c.map zAI)) (zAI v))) = true then 16
 else if (zHd (inM m) c.length).any (fun col => decide (zCn (zAK col (r.map zAI)) (zAI v) < 0)) = true then 16 else 0
/-- is row i less than row o in all its elements? -/
def zGU (x : List (List Rat)) (i o : Nat) : Bool := (List.range (x.getD i []).length).all (fun k => decide (0 < zCn ((x.getD o []).getD k 0) ((x.getD i []).getD k 0)))
def domL (x : List (List Rat)) : List Nat := (List.range x.length).filter (fun i => (List.range x.length).any (fun o => zGU x i o))
theorem zPX {a b : Rat} : 0 < zCn a b ↔ b < a := by
 unfold zCn
 split
 ·rename_i h; exact ⟨fun h2 => absurd h2 (by omega), fun h2 => absurd (le_lt (Rat.le_of_lt h) h2) Rat.lt_irrefl⟩
 ·rename_i h
  split
  ·rename_i h2; subst h2; exact ⟨fun h2 => absurd h2 (by omega), fun h2 => absurd h2 Rat.lt_irrefl⟩
  ·rename_i h2
   refine ⟨fun _ => ?_, fun _ => by omega⟩
   rcases Rat.le_iff_lt_or_eq.1 (Rat.not_lt.1 h) with q | q
   ·exact q
   ·exact absurd q.symm h2
theorem zLJ {l : List Rat} (h : ∀ q ∈ l, zBx q = true) : (l.map zr).map zAI = l := by
 rw [List.map_map]
 conv => rhs; rw [← List.map_id l]
 exact List.map_congr_left (fun q hq => (zJB (h q hq)).2)
theorem aff_id (M : List (List Rat)) : zDY 1 0 M = M := by
 unfold zDY
 conv => rhs; rw [← List.map_id M]
 refine List.map_congr_left (fun r _ => ?_)
 conv => rhs; rw [id, ← List.map_id r]
 exact List.map_congr_left (fun q _ => by rw [Rat.mul_one, Rat.add_zero]; rfl)
theorem zNJ {m : List (List zu)} {p q : Nat} (h : IsM m p q) (hp : 0 < p) (hp' : p ≤ 12) (hq : 0 < q) (hq' : q ≤ 12) : zA0 m = 0 := by
 have hne : m ≠ [] := fun e => by have := h.rows; rw [e] at this; exact absurd this (by show ¬ 0 = p; omega)
 unfold zA0
 rw [if_neg (by rw [h.rows]; omega), if_neg (fun c => c (matE_of h)), if_neg (by rw [h.wid hne]; omega), if_neg (by rw [h.wid hne]; omega)]
/-- what a good game gives -/
structure IsG (m : List (List zu)) : Prop where
 is : IsM m m.length (zAH m)
 w : 0 < zAH m
 w12 : zAH m ≤ 12
 l : 0 < m.length
 l12 : m.length ≤ 12
theorem zE4 {m : List (List zu)} (h : zA0 m = 0) : IsG m := by
 obtain ⟨h1, h2, h3, h4, h5⟩ := zE2 h
 exact ⟨zFs h1, by omega, h4, List.length_pos_iff.2 h5, h2⟩
theorem IsG.rows {m : List (List zu)} (h : IsG m) : ∀ r ∈ inM m, r.length = zAH m := zNN h.is
/-- what the results of a solved game are -/
structure Solv (m : List (List zu)) (K L : Nat) : Prop where
 g : IsG m
 eq : zGP m K L = (zMl (zAm (inM m) (zAH m) K L), 0)
 sad : Sad (inM m) (zAH m) (zAm (inM m) (zAH m) K L).1 (zAm (inM m) (zAH m) K L).2.1 (zAm (inM m) (zAH m) K L).2.2
 v : IsQ (zr (zAm (inM m) (zAH m) K L).1) (zAm (inM m) (zAH m) K L).1
 vD : D 1300 (zAm (inM m) (zAH m) K L).1
 r : ((zAm (inM m) (zAH m) K L).2.1.map zr).map zAI = (zAm (inM m) (zAH m) K L).2.1
 c : ((zAm (inM m) (zAH m) K L).2.2.map zr).map zAI = (zAm (inM m) (zAH m) K L).2.2
 rs : zEY ((zAm (inM m) (zAH m) K L).2.1.map zr) = 0
 cs : zEY ((zAm (inM m) (zAH m) K L).2.2.map zr) = 0
theorem solv_of {m : List (List zu)} {K L : Nat} (hg : zA0 m = 0) (S : Small (inM m) (zAH m) K L) : Solv m K L := by
 have f1 : ∀ q ∈ (zAm (inM m) (zAH m) K L).2.1, zBx q = true := fun q hq => (S.r q hq).fit (by decide)
 have f2 : ∀ q ∈ (zAm (inM m) (zAH m) K L).2.2, zBx q = true := fun q hq => (S.c q hq).fit (by decide)
 have f0 : zBx (zAm (inM m) (zAH m) K L).1 = true := S.v.fit (by decide)
 have hf : zLV (zAm (inM m) (zAH m) K L) = true := by
  unfold zLV
  rw [List.all_eq_true]
  intro q hq
  rcases List.mem_cons.1 hq with rfl | hq
  ·exact f0
  ·rcases List.mem_append.1 hq with hq | hq
   ·exact f1 q hq
   ·exact f2 q hq
 refine ⟨zE4 hg, ?_, S.sad, zJB f0, S.v, zLJ f1, zLJ f2, S.rs, S.cs⟩
 unfold zGP
 rw [if_neg (fun q => q hg), if_pos hf]
/-- small games -/
theorem zRP (a b : Rat) {m m' : List (List zu)} {K L : Nat} (hg : zA0 m' = 0) (hM : inM m' = zDY a b (inM m)) (hc : ∀ r ∈ inM m, r.length = zAH m') (hl : 0 < m.length) (hw5 : zAH m' ≤ 5) (hl5 : m.length ≤ 5)
 (hD : ∀ r ∈ inM m, ∀ q ∈ r, D 12 q) (ha : D 12 a) (hb : D 12 b) (hs : Stops (zAS (inM m') (zAH m')) K L) : Solv m' K L := by
 have h := zE4 hg
 refine solv_of hg ?_
 rw [hM] at hs ⊢
 exact zOo a b hc h.w (by rw [zCG]; exact hl) hw5 (by rw [zCG]; exact hl5) hD ha hb hs
theorem zJN {m : List (List zu)} {K L n : Nat} (hn : n ≤ 5) (hg : zA0 m = 0) (ht : zH4 n 12 m = true) (hs : Stops (zAS (inM m) (zAH m)) K L) : Solv m K L := by
 have h := zE4 hg
 obtain ⟨t1, t2⟩ := zHV ht
 have hne : m ≠ [] := List.length_pos_iff.1 h.l
 have hw : zAH m ≤ 5 := by
  have := (t2 _ (zAA (l := m) [] h.l)).1
  show (m.getD 0 []).length ≤ 5
  omega
 exact zRP 1 0 hg (aff_id _).symm h.rows h.l hw (by omega) (inM_D h.is (fun v hv => (t2 v hv).2) (by decide)) ((zHe 0).mono (by decide)) ((zMn 0).mono (by decide)) hs
/-- a payment that is returned -/
theorem pay_ok {m : List (List zu)} {r c : List zu} (h : (payG m r c).2 = 0) : zEk m r c = 0 ∧ IsQ (payG m r c).1 (zAK (r.map zAI) ((inM m).map (fun row => zAK row (c.map zAI)))) := by
 unfold payG at h ⊢
 split at h
 ·rename_i h1; exact absurd h h1
 split at h
 ·rename_i h1; exact absurd h h1
 rename_i h1 h2
 rw [if_neg h1, if_neg h2]
 refine ⟨Classical.not_not.1 h2, ?_⟩
 unfold outF at h ⊢
 split at h
 ·rename_i h3
  rw [if_pos h3]; exact zJB h3
 ·cases h
theorem zLu {m : List (List zu)} {r c : List zu} (h : zEk m r c = 0) : r.length = m.length ∧ c.length = zAH m ∧ zEY r = 0 ∧ zEY c = 0 := by
 unfold zEk at h
 split at h
 ·cases h
 split at h
 ·rename_i h1; exact absurd h h1
 rename_i h1 h2
 exact ⟨Classical.not_not.1 (fun q => h1 (.inl q)), Classical.not_not.1 (fun q => h1 (.inr q)), Classical.not_not.1 h2, h⟩
theorem wid_of {m : List (List zu)} {p q : Nat} (h : IsM m p q) (hp : 0 < p) : zAH m = q := h.wid (fun e => by have := h.rows; rw [e] at this; exact absurd this (by show ¬ 0 = p; omega))
/-- MatgameDrops -/
theorem zPv {m : List (List zu)} {i K L K' L' : Nat} (hg : zA0 m = 0) (ht : zH4 5 12 m = true) (hi : i ∈ domL (inM m))
 (hs : Stops (zAS (inM m) (zAH m)) K L) (hs' : Stops (zAS (inM (zBN m i)) (zAH (zBN m i))) K' L') :
 i < m.length ∧ zA0 (zBN m i) = 0 ∧ Solv m K L ∧ Solv (zBN m i) K' L' ∧ (zGP m K L).1.1 = (zGP (zBN m i) K' L').1.1 := by
 have h := zE4 hg
 obtain ⟨t1, t2⟩ := zHV ht
 obtain ⟨hi1, hi2⟩ := List.mem_filter.1 hi
 obtain ⟨o, ho, hu⟩ := List.any_eq_true.1 hi2
 rw [List.mem_range, zCG] at hi1 ho
 have hrl : ((inM m).getD i []).length = zAH m := h.rows _ (zAA [] (by rw [zCG]; exact hi1))
 have hd : ∀ j, j < zAH m → ((inM m).getD i []).getD j 0 < ((inM m).getD o []).getD j 0 := fun j hj => by
  unfold zGU at hu
  rw [List.all_eq_true] at hu
  have := hu j (by rw [List.mem_range, hrl]; exact hj)
  rw [decide_eq_true_eq, zPX] at this
  exact this
 have hoi : o ≠ i := fun e => by
  have := hd 0 h.w
  rw [e] at this
  exact Rat.lt_irrefl this
 have hdl := zF8 hi1
 have hsub : ∀ r ∈ zBN m i, r ∈ m := fun r hr => by
  rcases List.mem_append.1 hr with q | q
  ·exact List.mem_of_mem_take q
  ·exact List.mem_of_mem_drop q
 have hM : IsM (zBN m i) (m.length - 1) (zAH m) := ⟨by omega, fun r hr => h.is.cols r (hsub r hr), by have := h.is.sp; omega, fun _ => by have := h.w12; omega, fun r hr => h.is.ok r (hsub r hr)⟩
 have hw := wid_of hM (by omega)
 have hg' : zA0 (zBN m i) = 0 := zNJ hM (by omega) (by have := h.l12; omega) h.w h.w12
 have ht' : zH4 5 12 (zBN m i) = true := by
  unfold zH4
  rw [Bool.and_eq_true, decide_eq_true_eq, List.all_eq_true]
  refine ⟨by omega, fun v hv => ?_⟩
  have := t2 v (hsub v hv)
  rw [Bool.and_eq_true, decide_eq_true_eq, List.all_eq_true]
  exact ⟨this.1, fun s hs => decide_eq_true (this.2 s hs)⟩
 have S := zJN (by decide) hg ht hs
 have S' := zJN (by decide) hg' ht' hs'
 refine ⟨hi1, hg', S, S', ?_⟩
 rw [S.eq, S'.eq]
 show zr _ = zr _
 congr 1
 have s2 := S'.sad
 have e : inM (zBN m i) = zBN (inM m) i := by
  unfold inM zBN
  rw [List.map_append, List.map_take, List.map_drop]
 rw [hw, e] at s2 ⊢
 obtain ⟨z, hz⟩ := s2.drop h.w h.rows (by rw [zCG]; exact hi1) (by rw [zCG]; exact ho) hd
 exact S.sad.uniq hz h.rows
section
variable {M : List (List Rat)} {w k : Nat}
theorem zPu (hw : 0 < w) (hm : 0 < M.length) (hM : ∀ r ∈ M, r.length = w) (hD : ∀ r ∈ M, ∀ q ∈ r, D k q) : D k (zGD M) :=
 zHO (P := fun q => D k q) M _ (hD _ (zAA [] hm) _ (zAA 0 (by rw [hM _ (zAA [] hm)]; exact hw))) hD
theorem addM_D (hw : 0 < w) (hm : 0 < M.length) (hM : ∀ r ∈ M, r.length = w) (hD : ∀ r ∈ M, ∀ q ∈ r, D k q) : D (k + 2) (zDn M) := by
 unfold zDn
 exact ((zHe 0).sub (zPu hw hm hM hD)).mono (by omega)
theorem zLW (hw : 0 < w) (hm : 0 < M.length) (hM : ∀ r ∈ M, r.length = w) (hD : ∀ r ∈ M, ∀ q ∈ r, D k q) : (zAS M w).Dig (2 * k + 3) := by
 have ha := addM_D hw hm hM hD
 refine ⟨fun r hr q hq => ?_, fun q hq => ?_, fun q hq => ?_⟩
 ·obtain ⟨s, hs, rfl⟩ := List.mem_map.1 hr
  obtain ⟨c, hc, rfl⟩ := List.mem_map.1 hq
  exact ((hD s hs c hc).add ha).mono (by omega)
 ·obtain ⟨_, rfl⟩ := List.mem_replicate.1 hq
  exact (zHe 0).mono (by omega)
 ·obtain ⟨_, rfl⟩ := List.mem_replicate.1 hq
  exact (zHe 0).mono (by omega)
/-- what the program of a game gives -/
structure Ran (M : List (List Rat)) (w K L : Nat) : Prop where
 kind : (zDa (zAS M w) K L).kind = 0
 pos : (zDa (zAS M w) K L).V ≠ 0
 xl : (zDa (zAS M w) K L).X.length = w
 yl : (zDa (zAS M w) K L).Y.length = M.length
 xd : ∀ q ∈ (zDa (zAS M w) K L).X, D 30000 q
 yd : ∀ q ∈ (zDa (zAS M w) K L).Y, D 30000 q
 vd : D 30000 (zDa (zAS M w) K L).V
theorem ran (hw : 0 < w) (hw12 : w ≤ 12) (hm : 0 < M.length) (hm12 : M.length ≤ 12) (hM : ∀ r ∈ M, r.length = w) (hD : ∀ r ∈ M, ∀ q ∈ r, D k q) (hk : k ≤ 48) {K L : Nat} (hs : Stops (zAS M w) K L) : Ran M w K L := by
 have hok := zFq hM
 obtain ⟨g0, gV, gX, gY, _⟩ := zLX hM hw hm (zN0 hok hs)
 have en := zIW M w
 have em := zIV M w
 obtain ⟨d1, d2, _, d4⟩ := run_D hok (zLW hw hm hM hD) (by rw [em]; omega) hs
 have hW : (zAS M w).W (2 * k + 3) ≤ 30000 := by
  unfold Prog.W Prog.T Prog.E
  rw [en, em]
  have h1 : (2 * k + 3) * (w + 1) ≤ 99 * 13 := Nat.mul_le_mul (by omega) (by omega)
  have h2 : (2 * k + 3 + (2 * k + 3) * (w + 1) + 2) * (M.length + 1) ≤ 1388 * 13 := Nat.mul_le_mul (by omega) (by omega)
  omega
 exact ⟨g0, fun e => by rw [e] at gV; exact Rat.lt_irrefl gV, gX, gY, fun q hq => (d1 q hq).mono hW, fun q hq => (d2 q hq).mono hW, d4.mono hW⟩
end
end Go.Ax.Mg
namespace Go.Ax.Mg
open Go.Ax.Dt Go.Ax.Rt Go.Ax.Bg Go.Ax.Sx
theorem zD0 {α : Type} (l : List α) (d : α) {i : Nat} (h : i < l.length) : l.take (i + 1) = l.take i ++ [l.getD i d] := by
 rw [List.take_succ_eq_append_getElem h]
 simp [List.getD, h]
theorem zNQ (a : Rat) (l : List Rat) {j : Nat} (h : j < l.length) : zAu a (l.take (j + 1)) = if zCn (l.getD j 0) (zAu a (l.take j)) < 0 then l.getD j 0 else zAu a (l.take j) := by
 rw [zD0 l 0 h]
 unfold zAu
 rw [List.foldl_append]; rfl
theorem zNP (a : Rat) (M : List (List Rat)) {i : Nat} (h : i < M.length) : (M.take (i + 1)).foldl zAu a = zAu ((M.take i).foldl zAu a) (M.getD i []) := by
 rw [zD0 M [] h, List.foldl_append]; rfl
/-- the row of the program -/
def zFD (c : Rat) (l : List Rat) : List Rat := l.map (fun q => q + c)
theorem zQM (c : Rat) (l : List Rat) {j : Nat} (h : j < l.length) : zFD c (l.take (j + 1)) = zFD c (l.take j) ++ [l.getD j 0 + c] := by
 unfold zFD
 rw [zD0 l 0 h, List.map_append]; rfl
theorem zMq (c : Rat) (l : List Rat) : (zFD c l).length = l.length := List.length_map ..
theorem zQN (c : Rat) (M : List (List Rat)) {i : Nat} (h : i < M.length) : (M.take (i + 1)).map (zFD c) = (M.take i).map (zFD c) ++ [zFD c (M.getD i [])] := by
 rw [zD0 M [] h, List.map_append]; rfl
theorem zLi (i : Nat) : List.replicate (i + 1) (1 : Rat) = List.replicate i 1 ++ [1] := List.replicate_succ'
def zFV (v : Rat) (l : List Rat) : List Rat := l.map (fun q => q / v)
theorem zLR (v : Rat) (l : List Rat) {j : Nat} (h : j < l.length) : zFV v (l.take (j + 1)) = zFV v (l.take j) ++ [l.getD j 0 / v] := by
 unfold zFV
 rw [zD0 l 0 h, List.map_append]; rfl
def zIQ (c : List Rat) (M : List (List Rat)) : List Rat := M.map (fun row => zAK row c)
theorem zQg (c : List Rat) (M : List (List Rat)) {i : Nat} (h : i < M.length) : zIQ c (M.take (i + 1)) = zIQ c (M.take i) ++ [zAK (M.getD i []) c] := by
 unfold zIQ
 rw [zD0 M [] h, List.map_append]; rfl
theorem zPN {α : Type} (P : α → Bool) (d : α) (l : List α) (h : ∀ i, i < l.length → P (l.getD i d) = false) : l.any P = false := by
 rw [List.any_eq_false]
 intro x hx
 obtain ⟨i, hi, rfl⟩ := List.mem_iff_getElem.1 hx
 have := h i hi
 rw [show l.getD i d = l[i] by simp [List.getD, hi]] at this
 rw [this]; exact fun h => by cases h
theorem any_at {α : Type} (P : α → Bool) (d : α) (l : List α) {i : Nat} (hi : i < l.length) (h : P (l.getD i d) = true) : l.any P = true := by
 rw [List.any_eq_true]
 exact ⟨l.getD i d, by rw [show l.getD i d = l[i] by simp [List.getD, hi]]; exact List.getElem_mem hi, h⟩
def zH5 (x : List (List Rat)) (i o n : Nat) : Bool := (List.range n).all (fun k => decide (0 < zCn ((x.getD o []).getD k 0) ((x.getD i []).getD k 0)))
theorem zOF (x : List (List Rat)) (i o n : Nat) : zH5 x i o (n + 1) = (zH5 x i o n && decide (0 < zCn ((x.getD o []).getD n 0) ((x.getD i []).getD n 0))) := by
 unfold zH5
 rw [List.range_succ, List.all_append]
 simp
def domB (x : List (List Rat)) (i : Nat) : Bool := (List.range x.length).any (fun o => zGU x i o)
theorem domB_yes (x : List (List Rat)) {i o : Nat} (ho : o < x.length) (h : zGU x i o = true) : domB x i = true := by
 unfold domB
 rw [List.any_eq_true]
 exact ⟨o, by simpa using ho, h⟩
theorem domB_no (x : List (List Rat)) {i : Nat} (h : ∀ o, o < x.length → zGU x i o = false) : domB x i = false := by
 unfold domB
 rw [List.any_eq_false]
 intro o ho
 rw [h o (by simpa using ho)]
 exact fun h => by cases h
def zIO (x : List (List Rat)) (i : Nat) : List Int := ((List.range i).filter (domB x)).map (fun j : Nat => (j : Int))
theorem zQe (x : List (List Rat)) (i : Nat) : zIO x (i + 1) = if domB x i = true then zIO x i ++ [(i : Int)] else zIO x i := by
 unfold zIO
 rw [List.range_succ, List.filter_append, List.map_append]
 by_cases h : domB x i = true
 ·rw [if_pos h, List.filter_cons_of_pos h]; rfl
 ·rw [if_neg h, List.filter_cons_of_neg h]; simp
theorem domI_len (x : List (List Rat)) (i : Nat) : (zIO x i).length ≤ i := by
 unfold zIO
 rw [List.length_map]
 exact Nat.le_trans (List.length_filter_le _ _) (by rw [List.length_range]; exact Nat.le_refl i)
theorem zND (x : List (List Rat)) : zIO x x.length = (domL x).map (fun j : Nat => (j : Int)) := rfl
def domR (m : List (List zu)) : List Int × Int := if zA0 m ≠ 0 then ([], zA0 m) else (zIO (inM m) m.length, 0)
def zCI (x : List (List Rat)) (i k n : Nat) : Bool := (List.range n).all (fun j => decide (0 ≤ zCn ((x.getD i []).getD k 0) ((x.getD j []).getD k 0)))
end Go.Ax.Mg
namespace Go.Ax
variable [Pins]
open Go.RowKit
/-- Does operation j wait, at last, for operation i? -/
def zNZ (all : Array Oper) (idx : List Nat) : Nat → Nat → Nat → Bool
 | 0, _, _ => false
 | n + 1, j, i => match all[j]? with
  | some o => o.after.toList.any (fun e => Region.binds .any e && Nat.beq e.on i) || o.after.toList.any (fun e => Region.binds .any e && (idx.contains e.on && zNZ all idx n e.on i))
  | none => false
theorem zLY {cur : Array Bool} {i : Nat} (h : cur.getD i false = true) : cur.getD i true = true := by
 have _p := ‹Pins›
 unfold Array.getD at h ⊢
 split at h
 ·rename_i q
  rw [dif_pos q]; exact h
 ·cases h
theorem zHu {all : Array Oper} {idx : List Nat} {cur : Array Bool} (hcl : ∀ m' ∈ idx, cur.getD m' true = true → ∀ o, all[m']? = some o → ∀ e ∈ o.after, Region.binds .any e = true → cur.getD e.on false = true) :
 ∀ (n j i : Nat), zNZ all idx n j i = true → (∀ o, all[j]? = some o → ∀ e ∈ o.after, Region.binds .any e = true → cur.getD e.on false = true) → cur.getD i true = true
 | 0, _, _, h, _ => by cases h
 | n + 1, j, i, h, hd => by
  have _p := ‹Pins›
  rw [zNZ] at h
  split at h
  ·rename_i o ho
   rw [Bool.or_eq_true] at h
   rcases h with h | h
   ·obtain ⟨e, he1, he2⟩ := List.any_eq_true.1 h
    rw [Bool.and_eq_true] at he2
    have h3 := hd o ho e (Array.mem_toList_iff.1 he1) he2.1
    rw [Nat.eq_of_beq_eq_true he2.2] at h3
    exact zLY h3
   ·obtain ⟨e, he1, he2⟩ := List.any_eq_true.1 h
    simp only [Bool.and_eq_true] at he2
    have h3 := zLY (hd o ho e (Array.mem_toList_iff.1 he1) he2.1)
    have hm : e.on ∈ idx := by simpa using he2.2.1
    exact zHu hcl n e.on i he2.2.2 (hcl e.on hm h3)
  ·cases h
theorem zN3 {cur : Array Bool} {i j : Nat} (h : cur.getD j false = true) : (cur.setIfInBounds i true).getD j false = true := by
 have _p := ‹Pins›
 simp only [Array.getD_eq_getD_getElem?, Array.getElem?_setIfInBounds] at h ⊢
 split
 ·split
  ·rfl
  ·rename_i h1 h2
   subst h1
   rw [Array.getElem?_eq_none (by omega)] at h
   cases h
 ·exact h
theorem zLL {all : Array Oper} {idx : List Nat} {cur : Array Bool} {i : Nat} (_hi : i ∈ idx) (hcl : ∀ m' ∈ idx, cur.getD m' true = true → ∀ o, all[m']? = some o → ∀ e ∈ o.after, Region.binds .any e = true → cur.getD e.on false = true)
 (hd : ∀ o, all[i]? = some o → ∀ e ∈ o.after, Region.binds .any e = true → cur.getD e.on false = true) :
 ∀ m' ∈ idx, (cur.setIfInBounds i true).getD m' true = true → ∀ o, all[m']? = some o → ∀ e ∈ o.after, Region.binds .any e = true → (cur.setIfInBounds i true).getD e.on false = true := by
 have _p := ‹Pins›
 intro m' hm' hu o ho e he hb
 by_cases h : m' = i
 ·subst h
  exact zN3 (hd o ho e he hb)
 ·refine zN3 (hcl m' hm' ?_ o ho e he hb)
  have h' : ¬ i = m' := fun q => h q.symm
  simpa [Array.getD_eq_getD_getElem?, Array.getElem?_setIfInBounds, h'] using hu
/-- May these operations run in any order, ahead of all others? -/
def okRunT (all : Array Oper) (listed : Array Bool) (idx : List Nat) (k0 : List Nat) : Bool :=
 (idx.all fun i => !listed.getD i true && (match all[i]? with
  | some o => (match o.dst with | some d => !k0.contains d | none => false) && o.after.toList.all (fun e => !Region.binds .any e || (Nat.blt e.on i && (idx.contains e.on || listed.getD e.on false)))
  | none => false)) &&
 ((List.range all.size).all fun j => idx.contains j || listed.getD j true || idx.all (fun i => zNZ all idx (idx.length + 1) j i)) &&
 (idx.all fun i => idx.all fun j => Nat.beq i j || !(match all[i]?, all[j]? with | some o, some o' => o.dst == o'.dst | _, _ => false))
section
variable {P : Program} {fn : Func} {c : Ctx} {fr : Fr} {H : zM} {k : List It}
theorem zCm {all : Array Oper} {fuel : Nat} {listed listed' : Array Bool} (idx : List Nat) (K0 : Fr) (hK : zCE fr K0) (hok : okRunT all listed idx (K0.map (·.1)) = true) (hnd : idx.Nodup) (hd : zDN fn.ntmps all.toList = true) (hl : zGN listed idx = listed')
 (h : zD9 P fn c H all K0 idx [] (fun st => Ax P fn c (.any all fuel listed' k) (st.map (·.2) ++ K0) H)) : Ax P fn c (.any all (fuel + idx.length) listed k) fr H := by
 obtain ⟨st, hG, hidx, hst⟩ := zGH h (fun s hs => by simp at hs)
 rw [List.map_nil, List.append_nil] at hidx
 clear h
 unfold okRunT at hok
 simp only [Bool.and_eq_true] at hok
 obtain ⟨⟨ok1, ok2⟩, ok3⟩ := hok
 rw [List.all_eq_true] at ok1 ok2 ok3
 have hmem : ∀ i, i ∈ idx ↔ ∃ s ∈ st, s.1 = i := fun i => by
  have : i ∈ idx.reverse ↔ ∃ s ∈ st, s.1 = i := by rw [← hidx]; simp
  rw [← this, List.mem_reverse]
 have hlen : st.length = idx.length := by
  have := congrArg List.length hidx
  simpa using this
 have hnd' : (st.map (·.1)).Nodup := by rw [hidx]; exact (List.reverse_perm idx).nodup_iff.2 hnd
 have hlt : ∀ i ∈ idx, i < listed.size := fun i hi => by
  have := ok1 i hi
  simp only [Bool.and_eq_true, Bool.not_eq_true'] at this
  rcases Nat.lt_or_ge i listed.size with q | q
  ·exact q
  ·have h1 := this.1
   simp only [Array.getD, show ¬ i < listed.size by omega, dite_false] at h1
   cases h1
 -- the induction
 have key : ∀ (m : Nat) (cur : Array Bool) (fr : Fr), cur.size = listed.size → (∀ j, j ∉ idx → cur[j]? = listed[j]?) → unl cur st = m → (∀ s ∈ st, cur.getD s.1 true = true → look s.2.1 fr = some s.2.2) → zCE fr K0 → (∀ m' ∈ idx, cur.getD m' true = true → ∀ o, all[m']? = some o → ∀ e ∈ o.after, Region.binds .any e = true → cur.getD e.on false = true) → Ax P fn c (.any all (fuel + m) cur k) fr H := by
  intro m
  induction m with
  | zero =>
   intro cur fr hcs hco hcm hck hk0 hcl
   have hall : ∀ s ∈ st, cur.getD s.1 true = true := fun s hs => by
    cases hq : cur.getD s.1 true with
    | true => rfl
    | false =>
     exfalso
     have h0 : st.filter (fun s => !cur.getD s.1 true) = [] := List.length_eq_zero_iff.1 hcm
     have : s ∈ st.filter (fun s => !cur.getD s.1 true) := List.mem_filter.2 ⟨hs, by rw [hq]; rfl⟩
     rw [h0] at this; simp at this
   have hcur : cur = listed' := by
    rw [← hl]
    apply Array.ext_getElem?
    intro j
    rcases Nat.lt_or_ge j listed.size with q | q
    ·rw [zGO idx listed j q]
     by_cases hj : j ∈ idx
     ·rw [if_pos hj]
      obtain ⟨s, hs1, hs2⟩ := (hmem j).1 hj
      have := hall s hs1
      rw [hs2] at this
      simp only [Array.getD, show j < cur.size by omega, dite_true] at this
      rw [Array.getElem?_eq_getElem (by omega)]
      exact congrArg some this
     ·rw [if_neg hj]; exact hco j hj
    ·rw [Array.getElem?_eq_none (by omega), Array.getElem?_eq_none (by rw [zFP]; omega)]
   subst hcur
   intro w a σ S hr
   refine hG w a σ S (hr.weaken (zDC fun p hp => ?_))
   rcases List.mem_append.1 hp with q | q
   ·obtain ⟨s, q1, q2⟩ := List.mem_map.1 q
    rw [← q2]; exact hck s q1 (hall s q1)
   ·exact zDE hk0 p q
  | succ m ih =>
   intro cur fr hcs hco hcm hck hk0 hcl
   -- some step is left
   obtain ⟨s0, hs0, hs0u⟩ : ∃ s ∈ st, cur.getD s.1 true = false := by
    rcases hq : st.filter (fun s => !cur.getD s.1 true) with _ | ⟨s, r⟩
    ·unfold unl at hcm; rw [hq] at hcm; simp at hcm
    ·have : s ∈ st.filter (fun s => !cur.getD s.1 true) := by rw [hq]; simp
     obtain ⟨h1, h2⟩ := List.mem_filter.1 this
     exact ⟨s, h1, by simpa using h2⟩
   have hsub : ∀ i ∈ Region.ready .any all cur, i ∈ idx ∧ cur.getD i true = false := by
    intro i hi
    obtain ⟨h1, o, ho, hdeps⟩ := mem_ready.1 hi
    refine ⟨?_, h1⟩
    apply Classical.byContradiction
    intro hni
    have hjs : i < all.size := (Array.getElem?_eq_some_iff.1 ho).1
    have := ok2 i (List.mem_range.2 hjs)
    simp only [Bool.or_eq_true, ho] at this
    rcases this with (q | q) | q
    ·exact hni (by simpa using q)
    ·have hco' := hco i hni
     have h2 : listed.getD i true = cur.getD i true := by
      simp only [Array.getD_eq_getD_getElem?, hco']
     rw [h2, h1] at q; cases q
    ·rw [List.all_eq_true] at q
     have h3 := zHu hcl _ i s0.1 (q s0.1 ((hmem s0.1).2 ⟨s0, hs0, rfl⟩)) (fun o' ho' e he hb => by
      rw [ho] at ho'
      obtain rfl := Option.some.inj ho'
      exact hdeps e he hb)
     rw [h3] at hs0u; cases hs0u
   have hne : Region.ready .any all cur ≠ [] := by
    intro h0
    -- the least one that is left
    have hex : ∃ i, i ∈ idx ∧ cur.getD i true = false := ⟨s0.1, (hmem s0.1).2 ⟨s0, hs0, rfl⟩, hs0u⟩
    have least : ∀ n i, i ≤ n → i ∈ idx → cur.getD i true = false → False := by
     intro n
     induction n with
     | zero =>
      intro i hi him hiu
      have h1 := ok1 i him
      simp only [Bool.and_eq_true] at h1
      cases hoo : all[i]? with
      | none => rw [hoo] at h1; exact absurd h1.2 (by simp)
      | some o =>
       rw [hoo] at h1
       simp only [Bool.and_eq_true] at h1
       have h2 := List.all_eq_true.1 h1.2.2
       have : i ∈ Region.ready .any all cur := mem_ready.2 ⟨hiu, o, hoo, fun e he hb => by
        have := h2 e (Array.mem_toList_iff.2 he)
        rw [hb] at this
        simp only [Bool.not_true, Bool.false_or, Bool.and_eq_true] at this
        have := Nat.le_of_ble_eq_true this.1
        omega⟩
       rw [h0] at this; simp at this
     | succ n ihn =>
      intro i hi him hiu
      have h1 := ok1 i him
      simp only [Bool.and_eq_true] at h1
      cases hoo : all[i]? with
      | none => rw [hoo] at h1; exact absurd h1.2 (by simp)
      | some o =>
       rw [hoo] at h1
       simp only [Bool.and_eq_true] at h1
       have h2 := List.all_eq_true.1 h1.2.2
       have : i ∈ Region.ready .any all cur := mem_ready.2 ⟨hiu, o, hoo, fun e he hb => by
        have h3 := h2 e (Array.mem_toList_iff.2 he)
        rw [hb] at h3
        simp only [Bool.not_true, Bool.false_or, Bool.and_eq_true, Bool.or_eq_true] at h3
        have hlt' : e.on < i := Nat.le_of_ble_eq_true h3.1
        by_cases hei : e.on ∈ idx
        ·cases hq : cur.getD e.on true with
         | false => exact (ihn e.on (by omega) hei hq).elim
         | true =>
          have hsz := hlt e.on hei
          simp only [Array.getD, show e.on < cur.size by omega, dite_true] at hq ⊢
          exact hq
        ·rcases h3.2 with q | q
         ·exact absurd (by simpa using q) hei
         ·have h2 : cur.getD e.on false = listed.getD e.on false := by simp only [Array.getD_eq_getD_getElem?, hco e.on hei]
          rw [h2]; exact q⟩
       rw [h0] at this; simp at this
    obtain ⟨i, hi1, hi2⟩ := hex
    exact least i i (Nat.le_refl _) hi1 hi2
   refine zG Z hne hd (zJm (fun i hi o ho => ?_))
   obtain ⟨him, hiu⟩ := hsub i hi
   obtain ⟨s, hs1, hs2⟩ := (hmem i).1 him
   obtain ⟨o', K, g1, g2, g3, g4⟩ := hst s hs1
   rw [hs2, ho] at g1
   obtain rfl := Option.some.inj g1
   obtain ⟨_, o2, ho2, hdeps⟩ := mem_ready.1 hi
   rw [ho] at ho2
   obtain rfl := Option.some.inj ho2
   refine g3 _ fr (zDC fun p hp => ?_) (zQ (zAD ?_))
   ·rcases g4 p hp with q | ⟨s', q1, ⟨e, q2, q3, q4⟩, q5⟩
    ·exact zDE hk0 p q
    ·have h1 := hdeps e q2 q3
     rw [q4] at h1
     rw [← q5]
     refine hck s' q1 ?_
     have hsz := hlt s'.1 ((hmem s'.1).2 ⟨s', q1, rfl⟩)
     simp only [Array.getD, show s'.1 < cur.size by omega, dite_true] at h1 ⊢
     exact h1
   ·have hisz := hlt i him
    refine ih (cur.setIfInBounds i true) _ (by simpa using hcs) (fun j hj => ?_) ?_ (fun s' hs' hu => ?_) ?_ (zLL him hcl (fun o' ho' e he hb => by rw [ho] at ho'; obtain rfl := Option.some.inj ho'; exact hdeps e he hb))
    ·rw [Array.getElem?_setIfInBounds_ne (show i ≠ j from fun e => hj (e ▸ him))]; exact hco j hj
    ·-- one less
     have hf : st.filter (fun s' => !(cur.setIfInBounds i true).getD s'.1 true) = (st.filter (fun s' => !cur.getD s'.1 true)).filter (fun s' => decide (s'.1 ≠ i)) := by
      rw [List.filter_filter]
      congr 1
      funext s'
      by_cases hq : s'.1 = i
      ·rw [hq]; simp [Array.getD, show i < cur.size by omega]
      ·have hq' : ¬ i = s'.1 := fun e => hq e.symm
       simp [Array.getD_eq_getD_getElem?, Array.getElem?_setIfInBounds, hq, hq']
     unfold unl at hcm ⊢
     rw [hf]
     have hmemf : s ∈ st.filter (fun s' => !cur.getD s'.1 true) := List.mem_filter.2 ⟨hs1, by rw [hs2, hiu]; rfl⟩
     have hndf : ((st.filter (fun s' => !cur.getD s'.1 true)).map (·.1)).Nodup := List.Nodup.sublist (List.Sublist.map _ List.filter_sublist) hnd'
     revert hcm hmemf hndf
     generalize st.filter (fun s' => !cur.getD s'.1 true) = L
     intro hcm hmemf hndf
     have gen : ∀ (L : Steps) (n : Nat), L.length = n + 1 → s ∈ L → (L.map (·.1)).Nodup → (L.filter (fun s' => decide (s'.1 ≠ i))).length = n := by
      intro L
      induction L with
      | nil => intro n h; simp at h
      | cons x r ihL =>
       intro n hn hm hnd
       simp only [List.map_cons, List.nodup_cons] at hnd
       rcases List.mem_cons.1 hm with rfl | hm
       ·have hno : ∀ y ∈ r, y.1 ≠ i := fun y hy e => hnd.1 (List.mem_map.2 ⟨y, hy, by rw [e, hs2]⟩)
        have : (r.filter (fun s' => decide (s'.1 ≠ i))) = r := List.filter_eq_self.2 (fun y hy => by simpa using hno y hy)
        rw [List.filter_cons_of_neg (by simp [hs2]), this]
        simpa using hn
       ·have hx : x.1 ≠ i := fun e => hnd.1 (List.mem_map.2 ⟨s, hm, by rw [hs2, e]⟩)
        have hr0 : 0 < r.length := List.length_pos_iff.2 (by rintro rfl; simp at hm)
        obtain ⟨n', rfl⟩ : ∃ n', n = n' + 1 := ⟨n - 1, by simp at hn; omega⟩
        rw [List.filter_cons_of_pos (by simpa using hx), List.length_cons, ihL n' (by simpa using hn) hm hnd.2]
     exact gen L m hcm hmemf hndf
    ·by_cases hq : s'.1 = i
     ·have : s' = s := by
       have h1 : s ∈ st := hs1
       have hinj : ∀ (L : Steps), (L.map (·.1)).Nodup → ∀ x ∈ L, ∀ y ∈ L, x.1 = y.1 → x = y := by
        intro L
        induction L with
        | nil => intro _ x hx; simp at hx
        | cons z r ihL =>
         intro hnd x hx y hy hxy
         simp only [List.map_cons, List.nodup_cons] at hnd
         rcases List.mem_cons.1 hx with hx | hx <;> rcases List.mem_cons.1 hy with hy | hy
         ·rw [hx, hy]
         ·exact absurd (List.mem_map.2 ⟨y, hy, by rw [← hxy, hx]⟩) hnd.1
         ·exact absurd (List.mem_map.2 ⟨x, hx, by rw [hxy, hy]⟩) hnd.1
         ·exact ihL hnd.2 x hx y hy hxy
       exact hinj st hnd' s' hs' s hs1 (by rw [hq, hs2])
      rw [this]
      exact zMU _ _ _
     ·have h1 : cur.getD s'.1 true = true := by
       have hq' : ¬ i = s'.1 := fun e => hq e.symm
       simpa [Array.getD_eq_getD_getElem?, Array.getElem?_setIfInBounds, hq'] using hu
      have h2 := hck s' hs' h1
      -- another slot
      have hne2 : s'.2.1 ≠ s.2.1 := by
       intro e
       obtain ⟨o3, _, f1, f2, _, _⟩ := hst s' hs'
       have h3 := List.all_eq_true.1 (ok3 s'.1 ((hmem s'.1).2 ⟨s', hs', rfl⟩)) i him
       rw [f1, ho] at h3
       simp only [Bool.or_eq_true, Bool.not_eq_true', f2, g2] at h3
       rcases h3 with h3 | h3
       ·exact hq (Nat.eq_of_beq_eq_true h3)
       ·rw [e] at h3; simp at h3
      show (bif Nat.beq s'.2.1 s.2.1 then some s.2.2 else look s'.2.1 fr) = _
      rw [zq hne2]; exact h2
    ·refine zDC fun p hp => ?_
     have h1 := ok1 i him
     simp only [Bool.and_eq_true] at h1
     rw [ho] at h1
     simp only [g2, Bool.and_eq_true, Bool.not_eq_true'] at h1
     have hne3 : p.1 ≠ s.2.1 := by
      intro e
      have : (K0.map (·.1)).contains s.2.1 = true := by
       rw [List.contains_iff_mem]
       exact List.mem_map.2 ⟨p, hp, e⟩
      rw [h1.2.1] at this; cases this
     show (bif Nat.beq p.1 s.2.1 then some s.2.2 else look p.1 fr) = _
     rw [zq hne3]; exact zDE hk0 p hp
 have hm0 : unl listed st = idx.length := by
  unfold unl
  rw [List.filter_eq_self.2 (fun s hs => ?_), hlen]
  have := ok1 s.1 ((hmem s.1).2 ⟨s, hs, rfl⟩)
  simp only [Bool.and_eq_true] at this
  exact this.1
 have := key idx.length listed fr rfl (fun _ _ => rfl) hm0 (fun s hs hu => by
  have h1 := ok1 s.1 ((hmem s.1).2 ⟨s, hs, rfl⟩)
  simp only [Bool.and_eq_true, Bool.not_eq_true'] at h1
  rw [h1.1] at hu; cases hu) hK (fun m' hm' hu => by
  have h1 := ok1 m' hm'
  simp only [Bool.and_eq_true, Bool.not_eq_true'] at h1
  rw [h1.1] at hu; cases hu)
 exact this
end
end Go.Ax
namespace Go.Ax
variable [Pins]
open Go.RowKit
theorem zHf {P : Program} {fn : Func} {c : Ctx} {H : zM} {all : Array Oper} {K0 : Fr} {i : Nat} {r : List Nat} {st : Steps} {G : Steps → Prop} {d : Nat} {g : Operand} {args : List Operand} {ats : Array TypeId} {ty : TypeId} {pos : String} {after : Array Edge} {f : FuncId} {caps ags ags' : List AV} {v : AV} {K : Fr} {j t : Nat} {p : Bool}
 (hi : all[i]? = some ⟨some d, .call { callee := .value g, args := args.toArray, argTypes := ats }, ty, pos, after, some (j, p)⟩)
 (hK : zFp st K0 ⟨some d, .call { callee := .value g, args := args.toArray, argTypes := ats }, ty, pos, after, some (j, p)⟩ = K) (hy : zEZ all j = some t) (hb : look t K = some (.bool p)) (hg : ev K g = some (.fn f caps)) (ha : evs K args = some ags) (has : ags ++ caps = ags') (hcall : zV P f ags' v)
 (h : zD9 P fn c H all K0 r ((i, d, v) :: st) G) : zD9 P fn c H all K0 (i :: r) st G :=
 ⟨_, _, _, hi, rfl, hK ▸ zJF hy hb (pure_v hg ha has hcall), h⟩
end Go.Ax
namespace Go.Ax.Rt
open Go.Ax.Bg Go.Ax.Dt
def allV : List zu → List Rat → Bool
 | [], [] => true
 | s :: r, q :: t => decide (IsQ s q) && allV r t
 | _, _ => false
theorem zMs : ∀ {s : List zu} {l : List Rat}, allV s l = true → l.map zr = s ∧ l.all zBx = true
 | [], [], _ => ⟨rfl, rfl⟩
 | [], _ :: _, h => by cases h
 | _ :: _, [], h => by cases h
 | a :: r, q :: t, h => by
  simp only [allV, Bool.and_eq_true, decide_eq_true_eq] at h
  obtain ⟨h1, h2⟩ := zMs h.2
  refine ⟨by rw [List.map_cons, h.1.text, h1], ?_⟩
  rw [List.all_cons, h.1.fit, h2]; rfl
end Go.Ax.Rt
namespace Go.Ax.Mg
open Go.Ax.Dt Go.Ax.Rt Go.Ax.Bg Go.Ax.Sx
def zDo : List (List zu) := [[[49], [45, 49]], [[45, 49], [49]]]
def sadT : List (List zu) := [[[50], [51]], [[49], [48]]]
def zAk : zu := [49, 47, 50]
theorem zKP : zA0 zDo = 0 := by decide +kernel
theorem zQ8 : Stops (zAS (inM zDo) (zAH zDo)) 0 2 := by
 refine ⟨fun h => absurd h (by decide +kernel), fun _ => ?_⟩
 exact Option.isNone_iff_eq_none.1 (by decide +kernel)
theorem pen_v : (zAm (inM zDo) (zAH zDo) 0 2).1 = 0 := by decide +kernel
theorem pen_r : (zAm (inM zDo) (zAH zDo) 0 2).2.1 = [Rat.divInt 1 2, Rat.divInt 1 2] := by decide +kernel
theorem pen_c : (zAm (inM zDo) (zAH zDo) 0 2).2.2 = [Rat.divInt 1 2, Rat.divInt 1 2] := by decide +kernel
theorem pen_q : zAm (inM zDo) (zAH zDo) 0 2 = (0, [Rat.divInt 1 2, Rat.divInt 1 2], [Rat.divInt 1 2, Rat.divInt 1 2]) := by
 have h1 := pen_v
 have h2 := pen_r
 have h3 := pen_c
 generalize zAm (inM zDo) (zAH zDo) 0 2 = r at *
 obtain ⟨a, b, c⟩ := r
 simp only at *
 subst h1 h2 h3
 rfl
theorem zQ7 : zGP zDo 0 2 = (([48], [zAk, zAk], [zAk, zAk]), 0) := by
 have h : allV [[48], zAk, zAk, zAk, zAk] [0, Rat.divInt 1 2, Rat.divInt 1 2, Rat.divInt 1 2, Rat.divInt 1 2] = true := by decide +kernel
 obtain ⟨h1, h2⟩ := zMs h
 unfold zGP
 rw [pen_q, if_neg (fun q => q zKP), if_pos (show zLV (0, [Rat.divInt 1 2, Rat.divInt 1 2], [Rat.divInt 1 2, Rat.divInt 1 2]) = true from h2)]
 have e1 : zr 0 = [48] := (List.cons.inj h1).1
 have e2 : zr (Rat.divInt 1 2) = zAk := (List.cons.inj (List.cons.inj h1).2).1
 show ((zr 0, [zr (Rat.divInt 1 2), zr (Rat.divInt 1 2)], [zr (Rat.divInt 1 2), zr (Rat.divInt 1 2)]), (0 : Int)) = _
 rw [e1, e2]
theorem pen_pay : payG zDo [[49], [48]] [[49], [48]] = ([49], 0) := by
 have h : IsQ [49] (zAK ([[49], [48]].map zAI) ((inM zDo).map (fun row => zAK row ([[49], [48]].map zAI)))) := by decide +kernel
 unfold payG
 rw [if_neg (by decide +kernel), if_neg (by decide +kernel), h.out]
theorem pen_ver : verG zDo [48] [zAk, zAk] [zAk, zAk] = 0 := by decide +kernel
theorem pen_bad : verG zDo [49] [zAk, zAk] [zAk, zAk] = 16 := by decide +kernel
theorem sad_dom : domL (inM sadT) = [1] := by decide +kernel
theorem zN1 : zA0 sadT = 0 := by decide +kernel
end Go.Ax.Mg
namespace Go.Ax
variable [Pins]
open Go.RowKit
section
variable {P : Program} {fn : Func} {c : Ctx} {fr : Fr} {H : zM} {k : List It} {ind : Bool} {d : Option Nat} {ty : TypeId} {pos : String} {after : Array Edge} {g : Option (Nat × Bool)}
end
end Go.Ax
namespace Go.Ax
variable [Pins]
open Go.RowKit
/-- Does operation j wait, at last, for operation i? -/
def waitsU (all : Array Oper) (listed : Array Bool) (idx : List Nat) (j : Nat) : Bool := match all[j]? with
 | some o => o.after.toList.any (fun e => Region.binds .any e && (!idx.contains e.on && !listed.getD e.on true))
 | none => false
/-- May these operations run in any order, ahead of all others? -/
def okRunU (all : Array Oper) (listed : Array Bool) (idx : List Nat) (k0 : List Nat) : Bool :=
 (idx.all fun i => !listed.getD i true && (match all[i]? with
  | some o => (match o.dst with | some d => !k0.contains d | none => false) && o.after.toList.all (fun e => !Region.binds .any e || (Nat.blt e.on i && (idx.contains e.on || listed.getD e.on false)))
  | none => false)) &&
 ((List.range all.size).all fun j => idx.contains j || listed.getD j true || idx.all (fun i => zNZ all idx (idx.length + 1) j i) || waitsU all listed idx j) &&
 (idx.all fun i => idx.all fun j => Nat.beq i j || !(match all[i]?, all[j]? with | some o, some o' => o.dst == o'.dst | _, _ => false))
section
variable {P : Program} {fn : Func} {c : Ctx} {fr : Fr} {H : zM} {k : List It}
theorem zFG {all : Array Oper} {fuel : Nat} {listed listed' : Array Bool} (idx : List Nat) (K0 : Fr) (hK : zCE fr K0) (hok : okRunU all listed idx (K0.map (·.1)) = true) (hnd : idx.Nodup) (hd : zDN fn.ntmps all.toList = true) (hl : zGN listed idx = listed')
 (h : zD9 P fn c H all K0 idx [] (fun st => Ax P fn c (.any all fuel listed' k) (st.map (·.2) ++ K0) H)) : Ax P fn c (.any all (fuel + idx.length) listed k) fr H := by
 obtain ⟨st, hG, hidx, hst⟩ := zGH h (fun s hs => by simp at hs)
 rw [List.map_nil, List.append_nil] at hidx
 clear h
 unfold okRunU at hok
 simp only [Bool.and_eq_true] at hok
 obtain ⟨⟨ok1, ok2⟩, ok3⟩ := hok
 rw [List.all_eq_true] at ok1 ok2 ok3
 have hmem : ∀ i, i ∈ idx ↔ ∃ s ∈ st, s.1 = i := fun i => by
  have : i ∈ idx.reverse ↔ ∃ s ∈ st, s.1 = i := by rw [← hidx]; simp
  rw [← this, List.mem_reverse]
 have hlen : st.length = idx.length := by
  have := congrArg List.length hidx
  simpa using this
 have hnd' : (st.map (·.1)).Nodup := by rw [hidx]; exact (List.reverse_perm idx).nodup_iff.2 hnd
 have hlt : ∀ i ∈ idx, i < listed.size := fun i hi => by
  have := ok1 i hi
  simp only [Bool.and_eq_true, Bool.not_eq_true'] at this
  rcases Nat.lt_or_ge i listed.size with q | q
  ·exact q
  ·have h1 := this.1
   simp only [Array.getD, show ¬ i < listed.size by omega, dite_false] at h1
   cases h1
 -- the induction
 have key : ∀ (m : Nat) (cur : Array Bool) (fr : Fr), cur.size = listed.size → (∀ j, j ∉ idx → cur[j]? = listed[j]?) → unl cur st = m → (∀ s ∈ st, cur.getD s.1 true = true → look s.2.1 fr = some s.2.2) → zCE fr K0 → (∀ m' ∈ idx, cur.getD m' true = true → ∀ o, all[m']? = some o → ∀ e ∈ o.after, Region.binds .any e = true → cur.getD e.on false = true) → Ax P fn c (.any all (fuel + m) cur k) fr H := by
  intro m
  induction m with
  | zero =>
   intro cur fr hcs hco hcm hck hk0 hcl
   have hall : ∀ s ∈ st, cur.getD s.1 true = true := fun s hs => by
    cases hq : cur.getD s.1 true with
    | true => rfl
    | false =>
     exfalso
     have h0 : st.filter (fun s => !cur.getD s.1 true) = [] := List.length_eq_zero_iff.1 hcm
     have : s ∈ st.filter (fun s => !cur.getD s.1 true) := List.mem_filter.2 ⟨hs, by rw [hq]; rfl⟩
     rw [h0] at this; simp at this
   have hcur : cur = listed' := by
    rw [← hl]
    apply Array.ext_getElem?
    intro j
    rcases Nat.lt_or_ge j listed.size with q | q
    ·rw [zGO idx listed j q]
     by_cases hj : j ∈ idx
     ·rw [if_pos hj]
      obtain ⟨s, hs1, hs2⟩ := (hmem j).1 hj
      have := hall s hs1
      rw [hs2] at this
      simp only [Array.getD, show j < cur.size by omega, dite_true] at this
      rw [Array.getElem?_eq_getElem (by omega)]
      exact congrArg some this
     ·rw [if_neg hj]; exact hco j hj
    ·rw [Array.getElem?_eq_none (by omega), Array.getElem?_eq_none (by rw [zFP]; omega)]
   subst hcur
   intro w a σ S hr
   refine hG w a σ S (hr.weaken (zDC fun p hp => ?_))
   rcases List.mem_append.1 hp with q | q
   ·obtain ⟨s, q1, q2⟩ := List.mem_map.1 q
    rw [← q2]; exact hck s q1 (hall s q1)
   ·exact zDE hk0 p q
  | succ m ih =>
   intro cur fr hcs hco hcm hck hk0 hcl
   -- some step is left
   obtain ⟨s0, hs0, hs0u⟩ : ∃ s ∈ st, cur.getD s.1 true = false := by
    rcases hq : st.filter (fun s => !cur.getD s.1 true) with _ | ⟨s, r⟩
    ·unfold unl at hcm; rw [hq] at hcm; simp at hcm
    ·have : s ∈ st.filter (fun s => !cur.getD s.1 true) := by rw [hq]; simp
     obtain ⟨h1, h2⟩ := List.mem_filter.1 this
     exact ⟨s, h1, by simpa using h2⟩
   have hsub : ∀ i ∈ Region.ready .any all cur, i ∈ idx ∧ cur.getD i true = false := by
    intro i hi
    obtain ⟨h1, o, ho, hdeps⟩ := mem_ready.1 hi
    refine ⟨?_, h1⟩
    apply Classical.byContradiction
    intro hni
    have hjs : i < all.size := (Array.getElem?_eq_some_iff.1 ho).1
    have := ok2 i (List.mem_range.2 hjs)
    simp only [Bool.or_eq_true, ho] at this
    rcases this with ((q | q) | q) | q
    ·exact hni (by simpa using q)
    ·have hco' := hco i hni
     have h2 : listed.getD i true = cur.getD i true := by
      simp only [Array.getD_eq_getD_getElem?, hco']
     rw [h2, h1] at q; cases q
    ·rw [List.all_eq_true] at q
     have h3 := zHu hcl _ i s0.1 (q s0.1 ((hmem s0.1).2 ⟨s0, hs0, rfl⟩)) (fun o' ho' e he hb => by
      rw [ho] at ho'
      obtain rfl := Option.some.inj ho'
      exact hdeps e he hb)
     rw [h3] at hs0u; cases hs0u
    ·unfold waitsU at q
     rw [ho] at q
     obtain ⟨e, he1, he2⟩ := List.any_eq_true.1 q
     simp only [Bool.and_eq_true, Bool.not_eq_true'] at he2
     obtain ⟨hb, hne, hnl⟩ := he2
     have hni' : e.on ∉ idx := fun q => by
      have : idx.contains e.on = true := by simpa using q
      rw [this] at hne; cases hne
     have hd1 := hdeps e (Array.mem_toList_iff.1 he1) hb
     have hco' := hco e.on hni'
     rw [Array.getD_eq_getD_getElem?] at hd1 hnl
     rw [hco'] at hd1
     cases hx : listed[e.on]? with
     | none => rw [hx] at hd1; cases hd1
     | some b =>
      rw [hx] at hd1 hnl
      have e1 : b = true := hd1
      have e2 : b = false := hnl
      rw [e1] at e2; cases e2
   have hne : Region.ready .any all cur ≠ [] := by
    intro h0
    -- the least one that is left
    have hex : ∃ i, i ∈ idx ∧ cur.getD i true = false := ⟨s0.1, (hmem s0.1).2 ⟨s0, hs0, rfl⟩, hs0u⟩
    have least : ∀ n i, i ≤ n → i ∈ idx → cur.getD i true = false → False := by
     intro n
     induction n with
     | zero =>
      intro i hi him hiu
      have h1 := ok1 i him
      simp only [Bool.and_eq_true] at h1
      cases hoo : all[i]? with
      | none => rw [hoo] at h1; exact absurd h1.2 (by simp)
      | some o =>
       rw [hoo] at h1
       simp only [Bool.and_eq_true] at h1
       have h2 := List.all_eq_true.1 h1.2.2
       have : i ∈ Region.ready .any all cur := mem_ready.2 ⟨hiu, o, hoo, fun e he hb => by
        have := h2 e (Array.mem_toList_iff.2 he)
        rw [hb] at this
        simp only [Bool.not_true, Bool.false_or, Bool.and_eq_true] at this
        have := Nat.le_of_ble_eq_true this.1
        omega⟩
       rw [h0] at this; simp at this
     | succ n ihn =>
      intro i hi him hiu
      have h1 := ok1 i him
      simp only [Bool.and_eq_true] at h1
      cases hoo : all[i]? with
      | none => rw [hoo] at h1; exact absurd h1.2 (by simp)
      | some o =>
       rw [hoo] at h1
       simp only [Bool.and_eq_true] at h1
       have h2 := List.all_eq_true.1 h1.2.2
       have : i ∈ Region.ready .any all cur := mem_ready.2 ⟨hiu, o, hoo, fun e he hb => by
        have h3 := h2 e (Array.mem_toList_iff.2 he)
        rw [hb] at h3
        simp only [Bool.not_true, Bool.false_or, Bool.and_eq_true, Bool.or_eq_true] at h3
        have hlt' : e.on < i := Nat.le_of_ble_eq_true h3.1
        by_cases hei : e.on ∈ idx
        ·cases hq : cur.getD e.on true with
         | false => exact (ihn e.on (by omega) hei hq).elim
         | true =>
          have hsz := hlt e.on hei
          simp only [Array.getD, show e.on < cur.size by omega, dite_true] at hq ⊢
          exact hq
        ·rcases h3.2 with q | q
         ·exact absurd (by simpa using q) hei
         ·have h2 : cur.getD e.on false = listed.getD e.on false := by simp only [Array.getD_eq_getD_getElem?, hco e.on hei]
          rw [h2]; exact q⟩
       rw [h0] at this; simp at this
    obtain ⟨i, hi1, hi2⟩ := hex
    exact least i i (Nat.le_refl _) hi1 hi2
   refine zG Z hne hd (zJm (fun i hi o ho => ?_))
   obtain ⟨him, hiu⟩ := hsub i hi
   obtain ⟨s, hs1, hs2⟩ := (hmem i).1 him
   obtain ⟨o', K, g1, g2, g3, g4⟩ := hst s hs1
   rw [hs2, ho] at g1
   obtain rfl := Option.some.inj g1
   obtain ⟨_, o2, ho2, hdeps⟩ := mem_ready.1 hi
   rw [ho] at ho2
   obtain rfl := Option.some.inj ho2
   refine g3 _ fr (zDC fun p hp => ?_) (zQ (zAD ?_))
   ·rcases g4 p hp with q | ⟨s', q1, ⟨e, q2, q3, q4⟩, q5⟩
    ·exact zDE hk0 p q
    ·have h1 := hdeps e q2 q3
     rw [q4] at h1
     rw [← q5]
     refine hck s' q1 ?_
     have hsz := hlt s'.1 ((hmem s'.1).2 ⟨s', q1, rfl⟩)
     simp only [Array.getD, show s'.1 < cur.size by omega, dite_true] at h1 ⊢
     exact h1
   ·have hisz := hlt i him
    refine ih (cur.setIfInBounds i true) _ (by simpa using hcs) (fun j hj => ?_) ?_ (fun s' hs' hu => ?_) ?_ (zLL him hcl (fun o' ho' e he hb => by rw [ho] at ho'; obtain rfl := Option.some.inj ho'; exact hdeps e he hb))
    ·rw [Array.getElem?_setIfInBounds_ne (show i ≠ j from fun e => hj (e ▸ him))]; exact hco j hj
    ·-- one less
     have hf : st.filter (fun s' => !(cur.setIfInBounds i true).getD s'.1 true) = (st.filter (fun s' => !cur.getD s'.1 true)).filter (fun s' => decide (s'.1 ≠ i)) := by
      rw [List.filter_filter]
      congr 1
      funext s'
      by_cases hq : s'.1 = i
      ·rw [hq]; simp [Array.getD, show i < cur.size by omega]
      ·have hq' : ¬ i = s'.1 := fun e => hq e.symm
       simp [Array.getD_eq_getD_getElem?, Array.getElem?_setIfInBounds, hq, hq']
     unfold unl at hcm ⊢
     rw [hf]
     have hmemf : s ∈ st.filter (fun s' => !cur.getD s'.1 true) := List.mem_filter.2 ⟨hs1, by rw [hs2, hiu]; rfl⟩
     have hndf : ((st.filter (fun s' => !cur.getD s'.1 true)).map (·.1)).Nodup := List.Nodup.sublist (List.Sublist.map _ List.filter_sublist) hnd'
     revert hcm hmemf hndf
     generalize st.filter (fun s' => !cur.getD s'.1 true) = L
     intro hcm hmemf hndf
     have gen : ∀ (L : Steps) (n : Nat), L.length = n + 1 → s ∈ L → (L.map (·.1)).Nodup → (L.filter (fun s' => decide (s'.1 ≠ i))).length = n := by
      intro L
      induction L with
      | nil => intro n h; simp at h
      | cons x r ihL =>
       intro n hn hm hnd
       simp only [List.map_cons, List.nodup_cons] at hnd
       rcases List.mem_cons.1 hm with rfl | hm
       ·have hno : ∀ y ∈ r, y.1 ≠ i := fun y hy e => hnd.1 (List.mem_map.2 ⟨y, hy, by rw [e, hs2]⟩)
        have : (r.filter (fun s' => decide (s'.1 ≠ i))) = r := List.filter_eq_self.2 (fun y hy => by simpa using hno y hy)
        rw [List.filter_cons_of_neg (by simp [hs2]), this]
        simpa using hn
       ·have hx : x.1 ≠ i := fun e => hnd.1 (List.mem_map.2 ⟨s, hm, by rw [hs2, e]⟩)
        have hr0 : 0 < r.length := List.length_pos_iff.2 (by rintro rfl; simp at hm)
        obtain ⟨n', rfl⟩ : ∃ n', n = n' + 1 := ⟨n - 1, by simp at hn; omega⟩
        rw [List.filter_cons_of_pos (by simpa using hx), List.length_cons, ihL n' (by simpa using hn) hm hnd.2]
     exact gen L m hcm hmemf hndf
    ·by_cases hq : s'.1 = i
     ·have : s' = s := by
       have h1 : s ∈ st := hs1
       have hinj : ∀ (L : Steps), (L.map (·.1)).Nodup → ∀ x ∈ L, ∀ y ∈ L, x.1 = y.1 → x = y := by
        intro L
        induction L with
        | nil => intro _ x hx; simp at hx
        | cons z r ihL =>
         intro hnd x hx y hy hxy
         simp only [List.map_cons, List.nodup_cons] at hnd
         rcases List.mem_cons.1 hx with hx | hx <;> rcases List.mem_cons.1 hy with hy | hy
         ·rw [hx, hy]
         ·exact absurd (List.mem_map.2 ⟨y, hy, by rw [← hxy, hx]⟩) hnd.1
         ·exact absurd (List.mem_map.2 ⟨x, hx, by rw [hxy, hy]⟩) hnd.1
         ·exact ihL hnd.2 x hx y hy hxy
       exact hinj st hnd' s' hs' s hs1 (by rw [hq, hs2])
      rw [this]
      exact zMU _ _ _
     ·have h1 : cur.getD s'.1 true = true := by
       have hq' : ¬ i = s'.1 := fun e => hq e.symm
       simpa [Array.getD_eq_getD_getElem?, Array.getElem?_setIfInBounds, hq'] using hu
      have h2 := hck s' hs' h1
      -- another slot
      have hne2 : s'.2.1 ≠ s.2.1 := by
       intro e
       obtain ⟨o3, _, f1, f2, _, _⟩ := hst s' hs'
       have h3 := List.all_eq_true.1 (ok3 s'.1 ((hmem s'.1).2 ⟨s', hs', rfl⟩)) i him
       rw [f1, ho] at h3
       simp only [Bool.or_eq_true, Bool.not_eq_true', f2, g2] at h3
       rcases h3 with h3 | h3
       ·exact hq (Nat.eq_of_beq_eq_true h3)
       ·rw [e] at h3; simp at h3
      show (bif Nat.beq s'.2.1 s.2.1 then some s.2.2 else look s'.2.1 fr) = _
      rw [zq hne2]; exact h2
    ·refine zDC fun p hp => ?_
     have h1 := ok1 i him
     simp only [Bool.and_eq_true] at h1
     rw [ho] at h1
     simp only [g2, Bool.and_eq_true, Bool.not_eq_true'] at h1
     have hne3 : p.1 ≠ s.2.1 := by
      intro e
      have : (K0.map (·.1)).contains s.2.1 = true := by
       rw [List.contains_iff_mem]
       exact List.mem_map.2 ⟨p, hp, e⟩
      rw [h1.2.1] at this; cases this
     show (bif Nat.beq p.1 s.2.1 then some s.2.2 else look p.1 fr) = _
     rw [zq hne3]; exact zDE hk0 p hp
 have hm0 : unl listed st = idx.length := by
  unfold unl
  rw [List.filter_eq_self.2 (fun s hs => ?_), hlen]
  have := ok1 s.1 ((hmem s.1).2 ⟨s, hs, rfl⟩)
  simp only [Bool.and_eq_true] at this
  exact this.1
 have := key idx.length listed fr rfl (fun _ _ => rfl) hm0 (fun s hs hu => by
  have h1 := ok1 s.1 ((hmem s.1).2 ⟨s, hs, rfl⟩)
  simp only [Bool.and_eq_true, Bool.not_eq_true'] at h1
  rw [h1.1] at hu; cases hu) hK (fun m' hm' hu => by
  have h1 := ok1 m' hm'
  simp only [Bool.and_eq_true, Bool.not_eq_true'] at h1
  rw [h1.1] at hu; cases hu)
 exact this
end
end Go.Ax
namespace Go.Ax.Rt
open Go.Ax.Bg Go.Ax.Dt
/-- The first k elements are new. -/
def chg {α : Type} (g : Nat → α) (d : α) (x : List α) (k : Nat) : List α := (List.range x.length).map (fun j => if j < k then g j else x.getD j d)
theorem zCk {α : Type} (g : Nat → α) (d : α) (x : List α) (k : Nat) : (chg g d x k).length = x.length := by simp [chg]
theorem zC8 {α : Type} (g : Nat → α) (d : α) (x : List α) : chg g d x 0 = x := by
 apply List.ext_getElem (zCk _ _ _ _)
 intro i h1 h2
 simp [chg, List.getD, h2]
theorem zC0 {α : Type} (g : Nat → α) (d : α) (x : List α) {k i : Nat} (hi : i < x.length) : (chg g d x k).getD i d = if i < k then g i else x.getD i d := by
 unfold chg
 rw [zCK _ _ 0 _ _ (by simpa using hi)]
 simp [List.getD, hi]
theorem zDd {α : Type} (g : Nat → α) (d : α) (x : List α) {k : Nat} (hk : k < x.length) : (chg g d x k).set k (g k) = chg g d x (k + 1) := by
 apply List.ext_getElem (by simp [chg])
 intro i h1 h2
 have hi : i < x.length := by simpa [chg] using h2
 have e1 := zC0 g d x (k := k + 1) hi
 rw [zDu d h2] at e1
 rw [e1, List.getElem_set]
 by_cases hik : k = i
 ·subst hik; simp
 ·have e2 := zC0 g d x (k := k) hi
  rw [zDu d (by rw [zCk]; exact hi)] at e2
  rw [if_neg hik, e2]
  by_cases h3 : i < k
  ·rw [if_pos h3, if_pos (by omega)]
  ·rw [if_neg h3, if_neg (by omega)]
theorem zEd {α : Type} (g : Nat → α) (d : α) (x : List α) : chg g d x x.length = (List.range x.length).map g := by
 unfold chg
 refine List.map_congr_left (fun j hj => ?_)
 rw [if_pos (by simpa using hj)]
theorem chg_same {α : Type} (g : Nat → α) (d : α) (x : List α) {k : Nat} (hk : k < x.length) (h : g k = x.getD k d) : chg g d x (k + 1) = chg g d x k := by
 rw [← zDd g d x hk, h]
 apply List.ext_getElem (by simp [chg])
 intro i h1 h2
 rw [List.getElem_set]
 split
 ·rename_i e; subst e
  have e2 := zC0 g d x (k := k) hk
  rw [if_neg (Nat.lt_irrefl k)] at e2
  rw [← zDu d h2, e2]
 ·rfl
structure Perm (n : Nat) (ρ : List Nat) (X : Tab) : Prop where
 len : ρ.length = n
 lenX : X.length = n
 nd : ρ.Nodup
 lt : ∀ a ∈ ρ, a < n
theorem Perm.at {n : Nat} {ρ : List Nat} {X : Tab} (h : Perm n ρ X) {i : Nat} (hi : i < n) : ρ.getD i 0 < n := h.lt _ (zAA 0 (by rw [h.len]; exact hi))
/-- The rows that are new, one by one. -/
def zCQ (T : Tab) (k c : Nat) (d : Int) (i : Nat) : List Int := if i = k then T.getD k [] else zFI (T.getD i []) (T.getD k []) (at2 T k c) (at2 T i c) d
theorem zKE (T : Tab) (k c : Nat) (d : Int) : zEW T k c d = chg (zCQ T k c d) [] T T.length := by rw [zEd]; rfl
def rowG (R K : List Int) (p f d : Int) (j : Nat) : Int := zDf (R.getD j 0 * p - f * K.getD j 0) d
theorem row_chg (R K : List Int) (p f d : Int) : zFI R K p f d = chg (rowG R K p f d) 0 R R.length := by rw [zEd]; rfl
end Go.Ax.Rt
namespace Go.Ax.Tb
open Go.Ax.Bg (zDB)
end Go.Ax.Tb
namespace Go.Ax
variable [Pins]
section
variable {P : Program} {fn : Func} {c : Ctx} {fr : Fr} {H : zM} {k : List It}
theorem zEw {x : Code} (h : Nat) (o : AObj) {ob : AObj} (c' : Cells) (hh : H[h]? = some (some ob)) (ho : o.c.len = 0) (h1 : c'.len = ob.c.len) (h2 : c'.kd = ob.c.kd)
 (h3 : ∀ i j, i < ob.c.len → j < ob.c.sz → c'.at i j = ob.c.at i j ∨ (ob.c.at i j = .nil ∧ c'.at i j = .sl H.length 0 0)) (hk : Ax P fn c (.code x k) fr ((H ++ [some o]).set h (some ⟨ob.ty, c'⟩))) : Ax P fn c (.code x k) fr H := by
 intro w a σ S hr
 have g1 := hr.nowhere1 ho
 have hlt : h < H.length := (List.getElem?_eq_some_iff.1 hh).1
 have hh' : (H ++ [some o])[h]? = some (some ob) := by rw [List.getElem?_append_left hlt]; exact hh
 refine hk w a _ S (g1.recell hh' h1 h2 (fun i j v hi hj hv => ?_))
 rcases h3 i j hi hj with e | ⟨e1, e2⟩
 ·rw [e]; exact hv
 ·rw [e1] at hv
  rw [e2]
  cases hv
  exact .sl0 _ _ (by simp [upσ])
end
end Go.Ax
namespace Go.Ax
variable [Pins]
open Go.RowKit
section
variable {ind : Bool} {P : Program} {fn : Func} {c : Ctx} {fr : Fr} {H : zM} {k : List It}
variable {d : Option Nat} {ty : TypeId} {pos : String} {after : Array Edge} {g : Option (Nat × Bool)}
theorem zGx {x : Operand} {t : TypeId} {u : TypeDesc} {h i : Nat} {oty : TypeId} {kk : IntKind} {l : List Int} (ht : P.underlying t = some u) (hu : zBY u = false) (hx : ev fr x = some (.ptr h i 0)) (hh : H[h]? = some (some ⟨oty, .ints kk l⟩)) (hi : i < l.length) :
 QOp false P fn c fr H ⟨d, .load t x, ty, pos, after, g⟩ (.int kk (l.getD i 0)) := zFN ht hu hx hh hi
theorem zAx {x : Operand} {t : TypeId} {u : TypeDesc} {h i j : Nat} {oty : TypeId} {n s : Nat} {f : Nat → Nat → AV} (ht : P.underlying t = some u) (hu : zBY u = false) (hx : ev fr x = some (.ptr h i j)) (hh : H[h]? = some (some ⟨oty, .fn n s f⟩)) (hj : Nat.blt j s = true) (hi : i < n) :
 QOp false P fn c fr H ⟨d, .load t x, ty, pos, after, g⟩ (f i j) := zGw ht hu hx hh hj hi
end
end Go.Ax
