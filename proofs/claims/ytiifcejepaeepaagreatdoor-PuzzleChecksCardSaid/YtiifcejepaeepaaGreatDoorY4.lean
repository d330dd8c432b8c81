import Derived.Lib.Bytealg
import Derived.Lib.Join
import Derived.Shelf.SlSortCmp.NoneTotal
import Derived.Lib.ItoaLen
import Derived.Shelf.Strconv.AppendIntPublic10
import Derived.Test.YtiifcejepaeepaaGreatDoorY3
set_option linter.unusedVariables false
set_option linter.unusedSimpArgs false
namespace Go.Ax.Gm
def ltM (a b : Mv) : Bool := decide (zIL a b < 0)
theorem zKl {a b : Mv} : ltM a b = true ↔ a.fr < b.fr ∨ (a.fr = b.fr ∧ (a.to < b.to ∨ (a.to = b.to ∧ a.pc < b.pc))) := by
 unfold ltM zIL cmpI
 rw [decide_eq_true_eq]
 repeat' split
 all_goals omega
theorem zKm {a b : Mv} : ltM a b = false ↔ b.fr < a.fr ∨ (a.fr = b.fr ∧ (b.to < a.to ∨ (a.to = b.to ∧ b.pc ≤ a.pc))) := by
 rw [← Bool.not_eq_true, zKl]; omega
theorem zMb (a : Mv) : ltM a a = false := by rw [zKm]; omega
theorem zN0 (a b c : Mv) (h : ltM a b = true) (h' : ltM b c = true) : ltM a c = true := by rw [zKl] at *; omega
theorem zMc (a b c : Mv) (h : ltM a b = false) (h' : ltM b c = false) : ltM a c = false := by rw [zKm] at *; omega
theorem zNz (a b : Mv) (h : ltM a b = false) (h' : ltM b a = false) : a = b := by
 rw [zKm] at *
 obtain ⟨x, y, z⟩ := a
 obtain ⟨x', y', z'⟩ := b
 simp only at h h'
 rw [Mv.mk.injEq]; omega
theorem le_of_lt (a b : Mv) : (!(ltM b a)) = leM a b := by
 unfold leM
 cases h : ltM b a with
 | false => rw [zKm] at h; symm; show decide (zIL a b ≤ 0) = true; rw [decide_eq_true_eq]; unfold zIL cmpI; repeat' split
            all_goals omega
 | true => rw [zKl] at h; symm; show decide (zIL a b ≤ 0) = false; rw [decide_eq_false_iff_not]; unfold zIL cmpI; repeat' split
           all_goals omega
theorem sort_le (l : List Mv) : (l.mergeSort fun x y => !(ltM y x)) = l.mergeSort leM := by
 rw [show (fun x y => !(ltM y x)) = leM from funext fun a => funext fun b => le_of_lt a b]
theorem zFb (a b : Mv) (r : List Mv) : zt (a :: b :: r) = if a = b then zt (b :: r) else a :: zt (b :: r) := rfl
theorem zG2 : ∀ (l : List Mv) (x y : Mv), zt ((l ++ [x]) ++ [y]) = if x = y then zt (l ++ [x]) else zt (l ++ [x]) ++ [y]
 | [], x, y => by
  show zt (x :: y :: []) = if x = y then [x] else [x] ++ [y]
  rw [zFb]
  by_cases h : x = y
  ·rw [if_pos h, if_pos h, h]; rfl
  ·rw [if_neg h, if_neg h]; rfl
 | a :: l, x, y => by
  have ih := zG2 l x y
  obtain ⟨b, r, e⟩ : ∃ b r, l ++ [x] = b :: r := by
   cases l with
   | nil => exact ⟨x, [], rfl⟩
   | cons b l => exact ⟨b, l ++ [x], rfl⟩
  show zt (a :: ((l ++ [x]) ++ [y])) = if x = y then zt (a :: (l ++ [x])) else zt (a :: (l ++ [x])) ++ [y]
  rw [e] at ih ⊢
  show zt (a :: b :: (r ++ [y])) = _
  have ih : zt (b :: (r ++ [y])) = _ := ih
  rw [zFb, zFb, ih]
  by_cases h : x = y
  ·simp only [h, if_true]
  ·by_cases h2 : a = b
   ·simp only [h, h2, if_true, if_false]
   ·simp only [h, h2, if_false]; rfl
theorem zG3 {l : List Mv} {i : Nat} (h0 : 0 < i) (h : i < l.length) : zt (l.take (i + 1)) = if l.getD (i - 1) mv0 = l.getD i mv0 then zt (l.take i) else zt (l.take i) ++ [l.getD i mv0] := by
 obtain ⟨j, rfl⟩ : ∃ j, i = j + 1 := ⟨i - 1, by omega⟩
 have e1 : l.take (j + 1 + 1) = l.take (j + 1) ++ [l.getD (j + 1) mv0] := by rw [List.take_succ_eq_append_getElem h]; simp [List.getD, h]
 have hj : j < l.length := by omega
 have e2 : l.take (j + 1) = l.take j ++ [l.getD j mv0] := by rw [List.take_succ_eq_append_getElem hj]; simp [List.getD, hj]
 rw [e1, e2, zG2, Nat.add_sub_cancel]
theorem zH2 : ∀ l : List Mv, (zt l).length ≤ l.length
 | [] => Nat.le_refl _
 | [a] => Nat.le_refl _
 | a :: b :: r => by
  have := zH2 (b :: r)
  rw [zt]
  split
  ·exact Nat.le_succ_of_le this
  ·exact Nat.succ_le_succ this
end Go.Ax.Gm
namespace Go.Ax.Rt
open Go.Ax.Bg
/-- The product of short valid matrices. -/
structure Prod (a b : List (List zDU)) (t : List (List zDU)) (p q r K : Nat) : Prop where
 res : mulR a b = (t, 0)
 ok : IsM t p r
 val : inM t = mulQ (inM a) (inM b) r
 dig : ∀ x ∈ inM t, ∀ y ∈ x, D K y
end Go.Ax.Rt
namespace Go.Ax.Dt
def zA4 (f : Nat → Int) : Nat → Int
 | 0 => 0
 | n + 1 => zA4 f n + f n
theorem zAb {f g : Nat → Int} : ∀ {n : Nat}, (∀ i, i < n → f i = g i) → zA4 f n = zA4 g n
 | 0, _ => rfl
 | n + 1, h => by rw [zA4, zA4, zAb (fun i hi => h i (by omega)), h n (by omega)]
theorem zD2 {f : Nat → Int} : ∀ {n : Nat}, (∀ i, i < n → f i = 0) → zA4 f n = 0
 | 0, _ => rfl
 | n + 1, h => by rw [zA4, zD2 (fun i hi => h i (by omega)), h n (by omega)]; rfl
theorem zDD (f g : Nat → Int) : ∀ n, zA4 (fun i => f i + g i) n = zA4 f n + zA4 g n
 | 0 => rfl
 | n + 1 => by rw [zA4, zA4, zA4, zDD f g n]; omega
theorem zCF (c : Int) (f : Nat → Int) : ∀ n, zA4 (fun i => c * f i) n = c * zA4 f n
 | 0 => by rw [zA4, zA4, Int.mul_zero]
 | n + 1 => by rw [zA4, zA4, zCF c f n, Int.mul_add]
theorem zFx {f : Nat → Int} {n : Nat} (k : Nat) (hk : k < n) (h : ∀ i, i < n → i ≠ k → f i = 0) : zA4 f n = f k := by
 induction n with
 | zero => omega
 | succ n ih =>
  rw [zA4]
  by_cases hkn : k = n
  ·subst hkn
   rw [zD2 (fun i hi => h i (by omega) (by omega))]; omega
  ·rw [ih (by omega) (fun i hi hne => h i (by omega) hne), h n (by omega) (fun e => hkn e.symm)]; omega
theorem sumZ_two {f : Nat → Int} {n : Nat} (k l : Nat) (hk : k < n) (hl : l < n) (hkl : k ≠ l) (h : ∀ i, i < n → i ≠ k → i ≠ l → f i = 0) : zA4 f n = f k + f l := by
 have e : zA4 f n = zA4 (fun i => (if i = k then f k else 0) + (if i = k then 0 else f i)) n := by
  refine zAb (fun i hi => ?_)
  by_cases hik : i = k
  ·subst hik; simp
  ·simp [hik]
 rw [e, zDD]
 rw [zFx k hk (fun i hi hne => by simp [hne]), zFx l hl (fun i hi hne => by
  by_cases hik : i = k
  ·simp [hik]
  ·simp [hik]; exact h i hi hik hne)]
 have : ¬ l = k := fun e => hkl e.symm
 simp [this]
abbrev V := Nat → Int
abbrev Mx := Nat → V
def sg : Nat → Int
 | 0 => 1
 | n + 1 => -sg n
def skip (i : Nat) (D : Mx) : Mx := fun a c => D (if a < i then a else a + 1) (c + 1)
def det : Nat → Mx → Int
 | 0, _ => 1
 | n + 1, D => zA4 (fun i => sg i * (D i 0 * det n (skip i D))) (n + 1)
def put (D : Mx) (r : Nat) (v : V) : Mx := fun a => if a = r then v else D a
theorem zHf : ∀ {n : Nat} {D E : Mx}, (∀ a c, a < n → c < n → D a c = E a c) → det n D = det n E
 | 0, _, _, _ => rfl
 | n + 1, D, E, h => by
  rw [det, det]
  refine zAb (fun i hi => ?_)
  rw [h i 0 hi (by omega), zHf (D := skip i D) (E := skip i E) (fun a c ha hc => ?_)]
  unfold skip
  exact h _ _ (by split <;> omega) (by omega)
theorem zCl (D : Mx) (r : Nat) (v : V) : skip r (put D r v) = skip r D := by
 funext a c
 unfold skip put
 have : ¬ (if a < r then a else a + 1) = r := by split <;> omega
 rw [if_neg this]
theorem zFv {D : Mx} {i r : Nat} {v : V} (h : i ≠ r) : skip i (put D r v) = put (skip i D) (if r < i then r else r - 1) (fun c => v (c + 1)) := by
 funext a c
 unfold skip put
 by_cases hri : r < i
 ·rw [if_pos hri]
  by_cases ha : a = r
  ·subst ha; rw [if_pos hri]; simp
  ·by_cases hai : a < i
   ·simp [hai, ha]
   ·have : ¬ a + 1 = r := by omega
    simp [hai, ha, this]
 ·rw [if_neg hri]
  by_cases ha : a = r - 1
  ·subst ha
   have h1 : ¬ r - 1 < i := by omega
   have h2 : r - 1 + 1 = r := by omega
   simp [h1, h2]
  ·by_cases hai : a < i
   ·have : ¬ a = r := by omega
    simp [hai, ha, this]
   ·have : ¬ a + 1 = r := by omega
    simp [hai, ha, this]
/-- The determinant is linear in each row. -/
theorem zIQ : ∀ (n : Nat) (D : Mx) (r : Nat) (u v : V), r < n → det n (put D r (fun c => u c + v c)) = det n (put D r u) + det n (put D r v)
 | 0, _, _, _, _, h => absurd h (Nat.not_lt_zero _)
 | n + 1, D, r, u, v, h => by
  rw [det, det, det, ← zDD]
  refine zAb (fun i hi => ?_)
  by_cases hir : i = r
  ·subst hir
   rw [zCl, zCl, zCl]
   have e : ∀ w : V, put D i w i 0 = w 0 := fun w => by simp [put]
   rw [e, e, e, Int.add_mul, Int.mul_add]
  ·have e : ∀ w : V, put D r w i 0 = D i 0 := fun w => by simp [put, hir]
   rw [zFv hir, zFv hir, zFv hir, e, e, e, zIQ n _ _ _ _ (by split <;> omega), Int.mul_add, Int.mul_add]
theorem zFc : ∀ (n : Nat) (D : Mx) (r : Nat) (k : Int) (v : V), r < n → det n (put D r (fun c => k * v c)) = k * det n (put D r v)
 | 0, _, _, _, _, h => absurd h (Nat.not_lt_zero _)
 | n + 1, D, r, k, v, h => by
  rw [det, det, ← zCF]
  refine zAb (fun i hi => ?_)
  by_cases hir : i = r
  ·subst hir
   rw [zCl, zCl]
   have e : ∀ w : V, put D i w i 0 = w 0 := fun w => by simp [put]
   rw [e, e, Int.mul_left_comm k, Int.mul_assoc]
  ·have e : ∀ w : V, put D r w i 0 = D i 0 := fun w => by simp [put, hir]
   rw [zFv hir, zFv hir, e, e, zFc n _ _ _ _ (by split <;> omega), Int.mul_left_comm k, Int.mul_left_comm k]
theorem zG5 (n : Nat) (D : Mx) (r : Nat) (h : r < n) : det n (put D r (fun _ => 0)) = 0 := by
 have := zFc n D r 0 (fun _ => 0) h
 simpa using this
/-- Two rows beside each other that are equal. -/
theorem zKg : ∀ (n : Nat) (D : Mx) (r : Nat), r + 1 < n → (∀ c, c < n → D r c = D (r + 1) c) → det n D = 0
 | 0, _, _, h, _ => absurd h (Nat.not_lt_zero _)
 | n + 1, D, r, h, he => by
  rw [det, sumZ_two r (r + 1) (by omega) h (by omega) (fun i hi h1 h2 => ?_)]
  ·have e : det n (skip r D) = det n (skip (r + 1) D) := zHf (fun a c ha hc => by
    unfold skip
    by_cases h1 : a < r
    ·rw [if_pos h1, if_pos (by omega)]
    ·rw [if_neg h1]
     by_cases h2 : a < r + 1
     ·have : a = r := by omega
      subst this
      rw [if_pos h2]; exact (he _ (by omega)).symm
     ·rw [if_neg h2])
   rw [e, he 0 (by omega), sg, Int.neg_mul]
   omega
  ·have := zKg n (skip i D) (if r < i then r else r - 1) (by split <;> omega) (fun c hc => by
    unfold skip
    by_cases hri : r < i
    ·rw [if_pos hri, if_pos (show r < i from hri), if_pos (show r + 1 < i by omega)]
     exact he _ (by omega)
    ·have e1 : ¬ r - 1 < i := by omega
     have e2 : ¬ r - 1 + 1 < i := by omega
     rw [if_neg hri, if_neg e1, if_neg e2, show r - 1 + 1 = r by omega]
     exact he _ (by omega))
   rw [this, Int.mul_zero, Int.mul_zero]
theorem zI8 (D : Mx) {r s : Nat} (u v : V) (h : r ≠ s) : put (put D r u) s v = put (put D s v) r u := by
 funext a
 unfold put
 by_cases h1 : a = s
 ·have : ¬ a = r := fun e => h (e.symm.trans h1)
  simp [h1]
  intro e; exact absurd e.symm h
 ·simp [h1]
theorem zI9 (D : Mx) (r : Nat) : put D r (D r) = D := by
 funext a; unfold put; split
 ·rename_i h; rw [h]
 ·rfl
/-- Exchange of two rows beside each other. -/
theorem det_swap (n : Nat) (D : Mx) (r : Nat) (u v : V) (h : r + 1 < n) : det n (put (put D r u) (r + 1) v) = - det n (put (put D r v) (r + 1) u) := by
 have key : ∀ w : V, det n (put (put D r w) (r + 1) w) = 0 := fun w => zKg n _ r h (fun c _ => by unfold put; simp)
 have h0 := key (fun c => u c + v c)
 have add0 : ∀ w : V, det n (put (put D r (fun c => u c + v c)) (r + 1) w) = det n (put (put D r u) (r + 1) w) + det n (put (put D r v) (r + 1) w) := fun w => by
  rw [zI8 D _ w (by omega), zIQ n _ _ _ _ (by omega), zI8 D u w (by omega), zI8 D v w (by omega)]
 rw [zIQ n _ _ _ _ h, add0, add0] at h0
 have h1 := key u
 have h2 := key v
 omega
theorem zMU : ∀ (k : Nat) (n : Nat) (D : Mx) (r : Nat), r + (k + 1) < n → (∀ c, c < n → D r c = D (r + (k + 1)) c) → det n D = 0
 | 0, n, D, r, h, he => zKg n D r h he
 | k + 1, n, D, r, h, he => by
  have e : D = put (put D (r + (k + 1)) (D (r + (k + 1)))) (r + (k + 1) + 1) (D (r + (k + 1) + 1)) := by
   rw [zI9, zI9]
  rw [e, det_swap n D (r + (k + 1)) _ _ (by omega), zMU k n _ r (by omega) (fun c hc => ?_)]
  ·rfl
  ·have h1 : ¬ r = r + (k + 1) + 1 := by omega
   have h2 : ¬ r = r + (k + 1) := by omega
   have h3 : ¬ r + (k + 1) = r + (k + 1) + 1 := by omega
   unfold put
   rw [if_neg h1, if_neg h2, if_neg h3, if_pos rfl]
   exact he c hc
theorem det_rep (n : Nat) (D : Mx) {r s : Nat} (hr : r < n) (hs : s < n) (hne : r ≠ s) : det n (put D r (D s)) = 0 := by
 rcases Nat.lt_or_gt_of_ne hne with h | h
 ·refine zMU (s - r - 1) n _ r (by omega) (fun c _ => ?_)
  rw [show r + (s - r - 1 + 1) = s by omega]
  have : ¬ s = r := fun e => hne e.symm
  simp [put, this]
 ·refine zMU (r - s - 1) n _ s (by omega) (fun c _ => ?_)
  rw [show s + (r - s - 1 + 1) = r by omega]
  have : ¬ s = r := fun e => hne e.symm
  simp [put, this]
/-- A row that is a sum of multiples of the rows. -/
theorem zLW (n : Nat) (D : Mx) (r : Nat) (hr : r < n) (t : V) : ∀ k, k ≤ n → det n (put D r (fun c => zA4 (fun i => t i * D i c) k)) = if r < k then t r * det n D else 0
 | 0, _ => by
  rw [if_neg (Nat.not_lt_zero _)]
  exact zG5 n D r hr
 | k + 1, hk => by
  have ih := zLW n D r hr t k (by omega)
  have e : (fun c => zA4 (fun i => t i * D i c) (k + 1)) = (fun c => (fun c => zA4 (fun i => t i * D i c) k) c + (fun c => t k * D k c) c) := rfl
  rw [e, zIQ n D r _ _ hr, ih, zFc n D r _ _ hr]
  by_cases hkr : k = r
  ·subst hkr
   rw [if_neg (by omega), if_pos (by omega), zI9]; omega
  ·rw [det_rep n D hr (by omega) (fun e => hkr e.symm), Int.mul_zero, Int.add_zero]
   by_cases h1 : r < k
   ·rw [if_pos h1, if_pos (by omega)]
   ·rw [if_neg h1, if_neg (by omega)]
theorem zE7 {n : Nat} {D : Mx} {r : Nat} (hr : r < n) {t w : V} (h : ∀ c, c < n → w c = zA4 (fun i => t i * D i c) n) : det n (put D r w) = t r * det n D := by
 have := zLW n D r hr t n (Nat.le_refl _)
 rw [if_pos hr] at this
 rw [← this]
 refine zHf (fun a c _ hc => ?_)
 unfold put
 split
 ·exact h c hc
 ·rfl
/-- A column of the table, and the column of the beginning that it stands for. -/
def Sol (n : Nat) (D : Mx) (d : Int) (t0 t : V) : Prop := ∀ c, c < n → zA4 (fun i => t i * D i c) n = d * t0 c
theorem sol_det {n : Nat} {D : Mx} {d s : Int} {t0 t : V} (hd : d ≠ 0) (hs : s * s = 1) (hD : det n D = s * d) (h : Sol n D d t0 t) {i : Nat} (hi : i < n) : t i = s * det n (put D i t0) := by
 have h1 := zE7 (w := fun c => d * t0 c) hi (fun c hc => (h c hc).symm)
 rw [zFc n D i d t0 hi, hD] at h1
 have h2 : d * det n (put D i t0) = d * (s * t i) := by rw [h1, Int.mul_left_comm, Int.mul_comm (t i) d, Int.mul_left_comm]
 have h3 := Int.eq_of_mul_eq_mul_left hd h2
 rw [h3, ← Int.mul_assoc, hs, Int.one_mul]
/-- The pivot: the determinant of the new rows, and exact quotients. -/
theorem zKG {n : Nat} {D : Mx} {d s : Int} {t0 t : V} (hd : d ≠ 0) (hs : s * s = 1) (hD : det n D = s * d) (h : Sol n D d t0 t) {r : Nat} (hr : r < n) : det n (put D r t0) = s * t r := by
 rw [sol_det hd hs hD h hr, ← Int.mul_assoc, hs, Int.one_mul]
theorem sumZ_put {n : Nat} {D : Mx} {r : Nat} (hr : r < n) (v : V) (t : V) (c : Nat) : zA4 (fun i => t i * put D r v i c) n = zA4 (fun i => t i * D i c) n - t r * D r c + t r * v c := by
 have e : ∀ i, i < n → t i * put D r v i c = t i * D i c + (if i = r then t r * v c - t r * D r c else 0) := by
  intro i hi
  by_cases hir : i = r
  ·subst hir; simp [put]; omega
  ·simp [put, hir]
 rw [zAb e, zDD, zFx (f := fun i => if i = r then t r * v c - t r * D r c else 0) r hr (fun i hi hne => by simp [hne])]
 simp; omega
theorem zKH {n : Nat} {D : Mx} {d s : Int} {tc0 tc tj0 tj : V} (hd : d ≠ 0) (hs : s * s = 1) (hD : det n D = s * d) (hc : Sol n D d tc0 tc) (hj : Sol n D d tj0 tj) {r : Nat} (hr : r < n) (hp : tc r ≠ 0) :
 (∀ i, i < n → i ≠ r → d ∣ tj i * tc r - tc i * tj r) ∧ Sol n (put D r tc0) (tc r) tj0 (fun i => if i = r then tj r else (tj i * tc r - tc i * tj r) / d) := by
 have hD' := zKG hd hs hD hc hr
 -- the numerators are a solution of d times the new equation
 let N : V := fun i => if i = r then d * tj r else tj i * tc r - tc i * tj r
 have hN : ∀ c, c < n → zA4 (fun i => N i * put D r tc0 i c) n = d * tc r * tj0 c := by
  intro c hcn
  rw [sumZ_put hr]
  have e : ∀ i, i < n → N i * D i c = (tc r * (tj i * D i c) + (-(tj r)) * (tc i * D i c)) + (if i = r then d * tj r * D r c else 0) := by
   intro i hi
   by_cases hir : i = r
   ·subst hir
    simp only [N, if_true]
    have : tc i * (tj i * D i c) + -tj i * (tc i * D i c) = 0 := by
     rw [Int.neg_mul, Int.mul_left_comm]; omega
    omega
   ·simp only [N, hir, if_false, Int.add_zero]
    rw [Int.sub_mul, Int.neg_mul, Int.mul_comm (tj i) (tc r), Int.mul_assoc, Int.mul_comm (tc i) (tj r), Int.mul_assoc]; omega
  rw [zAb e, zDD, zDD, zCF, zCF, hj c hcn, hc c hcn, zFx (f := fun i => if i = r then d * tj r * D r c else 0) r hr (fun i hi hne => by simp [hne])]
  simp only [N, if_true]
  have e1 : tc r * (d * tj0 c) = d * tc r * tj0 c := by rw [← Int.mul_assoc, Int.mul_comm (tc r) d]
  have e2 : -tj r * (d * tc0 c) = -(d * tj r * tc0 c) := by rw [Int.neg_mul, ← Int.mul_assoc, Int.mul_comm (tj r) d]
  rw [e1, e2]; omega
 have hex : ∀ i, i < n → N i = d * (s * det n (put (put D r tc0) i tj0)) := by
  intro i hi
  have h1 := zE7 (D := put D r tc0) (w := fun c => d * tc r * tj0 c) hi (fun c hcn => (hN c hcn).symm)
  rw [zFc n _ i (d * tc r) tj0 hi, hD'] at h1
  have h2 : tc r * (d * (s * det n (put (put D r tc0) i tj0))) = tc r * N i := by
   have h3 : s * (d * tc r * det n (put (put D r tc0) i tj0)) = s * (N i * (s * tc r)) := by rw [h1]
   have h4 : s * (N i * (s * tc r)) = tc r * N i := by
    rw [Int.mul_left_comm, ← Int.mul_assoc s s, hs, Int.one_mul, Int.mul_comm]
   rw [h4] at h3
   rw [← h3]
   rw [Int.mul_assoc d, Int.mul_left_comm s d, Int.mul_left_comm s (tc r), Int.mul_left_comm d (tc r)]
  exact (Int.eq_of_mul_eq_mul_left hp h2).symm
 refine ⟨fun i hi hne => ?_, ?_⟩
 ·have := hex i hi
  simp only [N, hne, if_false] at this
  exact ⟨_, this⟩
 ·intro c hcn
  have h1 := hN c hcn
  have h2 : ∀ i, i < n → N i * put D r tc0 i c = d * ((fun i => if i = r then tj r else (tj i * tc r - tc i * tj r) / d) i * put D r tc0 i c) := by
   intro i hi
   by_cases hir : i = r
   ·subst hir; simp only [N, if_true]; rw [Int.mul_assoc]
   ·have h3 := hex i hi
    simp only [N, hir, if_false] at h3 ⊢
    have h4 : (tj i * tc r - tc i * tj r) / d = s * det n (put (put D r tc0) i tj0) := by rw [h3, Int.mul_ediv_cancel_left _ hd]
    rw [h4, ← Int.mul_assoc, ← h3]
  rw [zAb h2, zCF, Int.mul_assoc d] at h1
  exact Int.eq_of_mul_eq_mul_left hd h1
/-- The quotient of the absolute values, with the sign of the quotient. -/
def zFd (x d : Int) : Int := if (decide (x < 0) != decide (d < 0)) = true then -((x.natAbs / d.natAbs : Nat) : Int) else ((x.natAbs / d.natAbs : Nat) : Int)
theorem zF8 {q d : Int} (hd : d ≠ 0) : zFd (d * q) d = q := by
 have hn : (d * q).natAbs / d.natAbs = q.natAbs := by rw [Int.natAbs_mul, Nat.mul_div_cancel_left _ (by omega)]
 unfold zFd
 rw [hn]
 rcases Int.lt_trichotomy q 0 with hq | hq | hq
 ·rcases Int.lt_or_gt_of_ne hd with h | h
  ·have h1 : ¬ d * q < 0 := Int.not_lt.2 (Int.le_of_lt (Int.mul_pos_of_neg_of_neg h hq))
   simp [h, h1]; omega
  ·have h1 : d * q < 0 := Int.mul_neg_of_pos_of_neg h hq
   have h2 : ¬ d < 0 := by omega
   simp [h1, h2]; omega
 ·subst hq; simp
 ·rcases Int.lt_or_gt_of_ne hd with h | h
  ·have h1 : d * q < 0 := Int.mul_neg_of_neg_of_pos h hq
   simp [h, h1]; omega
  ·have h1 : ¬ d * q < 0 := Int.not_lt.2 (Int.le_of_lt (Int.mul_pos h hq))
   have h2 : ¬ d < 0 := by omega
   simp [h1, h2]; omega
theorem zJ0 {x d : Int} (hd : d ≠ 0) (h : d ∣ x) : zFd x d = x / d := by
 obtain ⟨q, rfl⟩ := h
 rw [zF8 hd, Int.mul_ediv_cancel_left _ hd]
abbrev Tab := List (List Int)
def at2 (T : Tab) (i j : Nat) : Int := (T.getD i []).getD j 0
def zG6 (R K : List Int) (p f d : Int) : List Int := (List.range R.length).map (fun j => zFd (R.getD j 0 * p - f * K.getD j 0) d)
def zH3 (T : Tab) (k c : Nat) (d : Int) : Tab := (List.range T.length).map (fun i => if i = k then T.getD k [] else zG6 (T.getD i []) (T.getD k []) (at2 T k c) (at2 T i c) d)
structure Red where
 T : Tab
 piv : List Nat
 last : Int
 neg : Bool
theorem zFf {α : Type} (l : List α) (d x : α) (i j : Nat) : (l.set i x).getD j d = if j = i ∧ i < l.length then x else l.getD j d := by
 by_cases h : j = i
 ·subst h
  by_cases h2 : j < l.length
  ·simp [List.getD, h2]
  ·have : l.length ≤ j := by omega
   simp [List.getD, h2, this]
 ·have : ¬ i = j := fun e => h e.symm
  simp [List.getD, h, List.getElem?_set, this]
theorem zJy (T : Tab) (k c : Nat) (d : Int) : (zH3 T k c d).length = T.length := by simp [zH3]
theorem zNl (T : Tab) (k c : Nat) (d : Int) {i : Nat} (hi : i < T.length) : (zH3 T k c d).getD i [] = if i = k then T.getD k [] else zG6 (T.getD i []) (T.getD k []) (at2 T k c) (at2 T i c) d := by
 unfold zH3
 simp [List.getD, hi]
theorem zLB (T : Tab) (k c : Nat) (d : Int) {L : Nat} (hT : ∀ x ∈ T, x.length = L) {i j : Nat} (hi : i < T.length) (hj : j < L) : at2 (zH3 T k c d) i j = if i = k then at2 T k j else zFd (at2 T i j * at2 T k c - at2 T i c * at2 T k j) d := by
 unfold at2
 rw [zNl T k c d hi]
 have hl : (T.getD i []).length = L := hT _ (by simp [List.getD, hi])
 by_cases h : i = k
 ·rw [if_pos h, if_pos h]
 ·rw [if_neg h, if_neg h]
  unfold zG6
  rw [hl]
  have : ∀ f : Nat → Int, ((List.range L).map f).getD j 0 = f j := fun f => by simp [List.getD, hj]
  rw [this]; rfl
theorem zLX (R K : List Int) (p f d : Int) : (zG6 R K p f d).length = R.length := by simp [zG6]
theorem zJz (T : Tab) (k c : Nat) (d : Int) {L : Nat} (hk : k < T.length) (hT : ∀ x ∈ T, x.length = L) : ∀ x ∈ zH3 T k c d, x.length = L := by
 intro x hx
 obtain ⟨i, hi, rfl⟩ := List.mem_map.1 hx
 have hi : i < T.length := by simpa using hi
 split
 ·exact hT _ (by simp [List.getD, hk])
 ·rw [zLX]; exact hT _ (by simp [List.getD, hi])
/-- Rows that are proportional have their pivots in the same places. -/
structure Prop2 (n w : Nat) (r r' : Red) : Prop where
 piv : r'.piv = r.piv
 rows : ∀ i, i < n → ∃ α β : Int, α ≠ 0 ∧ β ≠ 0 ∧ ∀ j, j < w → α * at2 r'.T i j = β * at2 r.T i j
theorem Prop2.zero {n w : Nat} {r r' : Red} (h : Prop2 n w r r') {i j : Nat} (hi : i < n) (hj : j < w) : at2 r'.T i j = 0 ↔ at2 r.T i j = 0 := by
 obtain ⟨α, β, ha, hb, he⟩ := h.rows i hi
 have := he j hj
 constructor
 ·intro e; rw [e, Int.mul_zero] at this
  rcases Int.mul_eq_zero.1 this.symm with q | q
  ·exact absurd q hb
  ·exact q
 ·intro e; rw [e, Int.mul_zero] at this
  rcases Int.mul_eq_zero.1 this with q | q
  ·exact absurd q ha
  ·exact q
end Go.Ax.Dt
namespace Go.Ax.Rt
open Go.Ax.Bg Go.Ax.Dt
/-- The factor that makes a row whole. -/
def facF : Nat → List Rat → Nat
 | f, [] => f
 | f, q :: r => facF (f * (q.den / Nat.gcd f q.den)) r
def wholeL (l : List Rat) : List Int := l.map (fun q => q.num * ((facF 1 l / q.den : Nat) : Int))
end Go.Ax.Rt
namespace Go.Ax.Rt
open Go.Ax.Bg
structure TNode where
 kind : Int
 player : Int
 info : Int
 next : List Int
 odds : List zDU
 pay : zDU
 deriving DecidableEq
abbrev Tree := List TNode
/-- how often a node is named -/
def named (t : Tree) (k : Nat) : Nat := ((t.flatMap TNode.next).filter (fun x => decide (x = (k : Int)))).length
/-- Is it the player's move, in an information set? -/
def own (p : Int) (n : TNode) : Bool := decide (n.kind = 2) && decide (n.player = p)
end Go.Ax.Rt
namespace Go.Ax.Idx
theorem zMz : ∀ m : List Int, (∀ x ∈ m, 0 ≤ x) → 0 ≤ m.sum := by
 intro m
 induction m with
 | nil => intro _; simp
 | cons x r ih => intro hm; simp only [List.sum_cons]; have := hm x (by simp); have := ih (fun y hy => hm y (by simp [hy])); omega
theorem zII (l : List Int) (h0 : ∀ x ∈ l, 0 ≤ x) (k : Nat) : (l.take k).sum ≤ l.sum := by
 have h : l.sum = (l.take k).sum + (l.drop k).sum := by rw [← List.sum_append, List.take_append_drop]
 have := zMz (l.drop k) (fun x hx => h0 x (List.mem_of_mem_drop hx))
 omega
/-- The place of the first element with a property, or -1. -/
def zDN {α : Type} (p : α → Bool) : List α → Int
 | [] => -1
 | x :: r => if p x then 0 else if zDN p r < 0 then -1 else zDN p r + 1
theorem idxF_neg {α : Type} (p : α → Bool) (l : List α) (h : zDN p l < 0) : zDN p l = -1 := by
 cases l with
 | nil => rfl
 | cons x r =>
  simp only [zDN] at h ⊢
  by_cases h1 : p x = true
  ·simp [h1] at h
  ·by_cases h2 : zDN p r < 0
   ·simp [h1, h2]
   ·simp only [h1, h2, if_false, Bool.false_eq_true] at h
    omega
theorem zBf {α : Type} (p : α → Bool) (l : List α) (k : Nat) (h : (l.take k).any p = false) (hk : k ≤ l.length) : zDN p l = if zDN p (l.drop k) < 0 then -1 else zDN p (l.drop k) + k := by
 induction k generalizing l with
 | zero =>
  simp only [List.drop_zero]
  split
  ·exact idxF_neg p l (by assumption)
  ·omega
 | succ k ih => cases l with
  | nil => simp at hk
  | cons x r =>
   simp only [List.take_succ_cons, List.any_cons, Bool.or_eq_false_iff] at h
   have := ih r h.2 (by simpa using hk)
   simp only [zDN, h.1, List.drop_succ_cons, Bool.false_eq_true, if_false]
   rw [this]
   split <;> split <;> omega
theorem zHD {α : Type} (p : α → Bool) (l : List α) : decide (0 ≤ zDN p l) = l.any p := by
 induction l with
 | nil => rfl
 | cons x r ih =>
  simp only [zDN, List.any_cons]
  by_cases h1 : p x = true
  ·simp [h1]
  ·simp only [Bool.not_eq_true] at h1
   simp only [h1, Bool.false_eq_true, if_false, Bool.false_or]
   rw [← ih]
   by_cases h2 : zDN p r < 0
   ·rw [if_pos h2]; simp; omega
   ·rw [if_neg h2]; congr 1; simp; omega
theorem zFf {l : List Int} {i j : Nat} {v : Int} (hi : i < l.length) : (l.set i v).getD j 0 = if j = i then v else l.getD j 0 := by
 by_cases h : j = i
 ·subst h; simp [List.getD, hi]
 ·simp only [List.getD, h, if_false]
  rw [List.getElem?_set_ne (fun e => h e.symm)]
/-- One less of kind i. -/
def less (l : List Int) (i : Nat) : List Int := l.set i (l.getD i 0 - 1)
end Go.Ax.Idx
namespace Go.Ax.Cd
open Go.Ax.Idx
end Go.Ax.Cd
namespace Go.Ax.Cd
open Go.Ax.Idx
end Go.Ax.Cd
namespace Go.Ax.Cd
open Go.Ax.Idx
end Go.Ax.Cd
namespace Go.Ax.Cd
open Go.Ax.Idx
end Go.Ax.Cd
namespace Go.Ax.Cd
end Go.Ax.Cd
namespace Go.Ax.Cd
open Go.Ax.Idx
end Go.Ax.Cd
namespace Go.Ax.Cd
open Go.Ax.Idx
end Go.Ax.Cd
namespace Go.Ax.Cd
open Go.Ax.Idx
end Go.Ax.Cd
namespace Go.Ax.Sx
open Go.Ax.Dt
structure St where
 rows : Tab
 den : Int
 basis : List Nat
def zIh (T : Tab) (j : Nat) : V := fun i => at2 T i j
/-- the columns of the beginning that are in the basis, and one for the costs -/
def zHa (M : Tab) (m : Nat) (β : List Nat) : Mx := fun a => if a < m then zIh M (β.getD a 0) else fun c => if c = a then 1 else 0
/-- What each table keeps: m conditions and the costs, N unknowns and the right side. -/
structure Inv (m N : Nat) (M : Tab) (s : St) : Prop where
 n : s.rows.length = m + 1
 row : ∀ x ∈ s.rows, x.length = N + 1
 b : s.basis.length = m
 bc : ∀ i, i < m → s.basis.getD i 0 < N
 dp : 0 < s.den
 unit : ∀ i k, i < m + 1 → k < m → at2 s.rows i (s.basis.getD k 0) = if i = k then s.den else 0
 sg : ∃ σ : Int, σ * σ = 1 ∧ det (m + 1) (zHa M m s.basis) = σ * s.den
 sol : ∀ j, j < N + 1 → Sol (m + 1) (zHa M m s.basis) s.den (zIh M j) (zIh s.rows j)
def sgZ (p : Int) : Int := if p < 0 then -1 else 1
theorem sgZ_sq (p : Int) : sgZ p * sgZ p = 1 := by unfold sgZ; split <;> rfl
theorem sgZ_pos {p : Int} (h : p ≠ 0) : 0 < sgZ p * p := by
 unfold sgZ
 split
 ·omega
 ·omega
def pivT (T : Tab) (r c : Nat) (d : Int) : Tab := if at2 T r c < 0 then (zH3 T r c d).map (fun l => l.map (fun x => -x)) else zH3 T r c d
def piv (s : St) (r c : Nat) : St := ⟨pivT s.rows r c s.den, if at2 s.rows r c < 0 then -(at2 s.rows r c) else at2 s.rows r c, s.basis.set r c⟩
theorem zHI (s : St) (r c : Nat) : (piv s r c).den = sgZ (at2 s.rows r c) * at2 s.rows r c := by
 show (if at2 s.rows r c < 0 then -(at2 s.rows r c) else at2 s.rows r c) = _
 unfold sgZ
 split <;> omega
theorem at2_neg (T : Tab) (i j : Nat) : at2 (T.map (fun l => l.map (fun x => -x))) i j = -(at2 T i j) := by
 unfold at2
 simp only [List.getD, List.getElem?_map]
 cases h : T[i]? with
 | none => rfl
 | some l =>
  show ((l.map (fun x => -x))[j]?).getD 0 = -((l[j]?).getD 0)
  rw [List.getElem?_map]
  cases l[j]? <;> rfl
theorem zNE (T : Tab) (r c : Nat) (d : Int) {L : Nat} (hT : ∀ x ∈ T, x.length = L) {i j : Nat} (hi : i < T.length) (hj : j < L) :
 at2 (pivT T r c d) i j = sgZ (at2 T r c) * (if i = r then at2 T r j else zFd (at2 T i j * at2 T r c - at2 T i c * at2 T r j) d) := by
 unfold pivT sgZ
 split
 ·rw [at2_neg, zLB T r c d hT hi hj]; omega
 ·rw [zLB T r c d hT hi hj, Int.one_mul]
theorem pivT_len (T : Tab) (r c : Nat) (d : Int) : (pivT T r c d).length = T.length := by
 unfold pivT
 split
 ·rw [List.length_map, zJy]
 ·rw [zJy]
theorem pivT_row (T : Tab) (r c : Nat) (d : Int) {L : Nat} (hr : r < T.length) (hT : ∀ x ∈ T, x.length = L) : ∀ x ∈ pivT T r c d, x.length = L := by
 unfold pivT
 split
 ·intro x hx
  obtain ⟨y, hy, rfl⟩ := List.mem_map.1 hx
  rw [List.length_map]
  exact zJz T r c d hr hT y hy
 ·exact zJz T r c d hr hT
theorem basM_set {M : Tab} {m : Nat} {β : List Nat} (hb : β.length = m) {r : Nat} (hr : r < m) (c : Nat) : zHa M m (β.set r c) = put (zHa M m β) r (zIh M c) := by
 funext a
 show (if a < m then zIh M ((β.set r c).getD a 0) else _) = if a = r then zIh M c else (if a < m then zIh M (β.getD a 0) else _)
 by_cases ha : a < m
 ·rw [if_pos ha, if_pos ha, zFf]
  by_cases h : a = r
  ·rw [if_pos ⟨h.symm ▸ rfl, by omega⟩, if_pos h]
  ·rw [if_neg (fun q => h q.1), if_neg h]
 ·rw [if_neg ha, if_neg ha, if_neg (by omega)]
theorem zOL {n : Nat} {D : Mx} {d : Int} {t0 t t' : V} (h : Sol n D d t0 t) (he : ∀ i, i < n → t' i = t i) : Sol n D d t0 t' := by
 intro c hc
 rw [← h c hc]
 exact zAb (fun i hi => by rw [he i hi])
theorem sol_smul {n : Nat} {D : Mx} {d : Int} {t0 t : V} (k : Int) (h : Sol n D d t0 t) : Sol n D (k * d) t0 (fun i => k * t i) := by
 intro c hc
 rw [Int.mul_assoc, ← h c hc, ← zCF]
 exact zAb (fun i hi => Int.mul_assoc _ _ _)
/-- A pivot keeps everything. -/
theorem Inv.piv {m N : Nat} {M : Tab} {s : St} (h : Inv m N M s) {r c : Nat} (hr : r < m) (hc : c < N) (hp : at2 s.rows r c ≠ 0) : Inv m N M (piv s r c) := by
 obtain ⟨σ, hs, hD⟩ := h.sg
 have hd : s.den ≠ 0 := by have := h.dp; omega
 have hr1 : r < m + 1 := by omega
 have hrl : r < s.rows.length := by rw [h.n]; omega
 have hb := basM_set (M := M) h.b hr c
 have hpz := sgZ_pos hp
 have hat : ∀ i j, i < m + 1 → j < N + 1 → at2 (Sx.piv s r c).rows i j = sgZ (at2 s.rows r c) * (if i = r then at2 s.rows r j else zFd (at2 s.rows i j * at2 s.rows r c - at2 s.rows i c * at2 s.rows r j) s.den) := fun i j hi hj => zNE s.rows r c s.den h.row (by rw [h.n]; exact hi) hj
 refine ⟨?_, ?_, ?_, ?_, ?_, ?_, ?_, ?_⟩
 ·show (pivT _ _ _ _).length = _
  rw [pivT_len, h.n]
 ·exact pivT_row s.rows r c s.den hrl h.row
 ·show (s.basis.set r c).length = m
  rw [List.length_set, h.b]
 ·intro i hi
  show (s.basis.set r c).getD i 0 < N
  rw [zFf]
  split
  ·exact hc
  ·exact h.bc i hi
 ·rw [zHI]; exact hpz
 ·intro i k hi hk
  have hbk : (Sx.piv s r c).basis.getD k 0 = if k = r then c else s.basis.getD k 0 := by
   show (s.basis.set r c).getD k 0 = _
   rw [zFf]
   by_cases e : k = r
   ·rw [if_pos ⟨e, by rw [h.b]; exact hr⟩, if_pos e]
   ·rw [if_neg (fun q => e q.1), if_neg e]
  rw [hbk, zHI]
  by_cases e : k = r
  ·subst e
   rw [if_pos rfl, hat i c hi (by omega)]
   by_cases e2 : i = k
   ·rw [if_pos e2, if_pos e2]
   ·rw [if_neg e2, if_neg e2]
    have : at2 s.rows i c * at2 s.rows k c - at2 s.rows i c * at2 s.rows k c = s.den * 0 := by omega
    rw [this, zF8 hd, Int.mul_zero]
  ·have hrk : at2 s.rows r (s.basis.getD k 0) = 0 := by rw [h.unit r k hr1 hk, if_neg (fun q => e q.symm)]
   have hik := h.unit i k hi hk
   rw [if_neg e, hat i _ hi (by have := h.bc k hk; omega), hrk, hik]
   by_cases e2 : i = k
   ·have e5 : ¬ i = r := fun q => e (e2 ▸ q)
    rw [if_neg e5, if_pos e2, if_pos e2, Int.mul_zero, Int.sub_zero, zF8 hd]
   ·rw [if_neg e2, if_neg e2]
    by_cases e3 : i = r
    ·rw [if_pos e3, Int.mul_zero]
    ·rw [if_neg e3, Int.mul_zero, Int.sub_zero]
     have : (0 : Int) * at2 s.rows r c = s.den * 0 := by omega
     rw [this, zF8 hd, Int.mul_zero]
 ·refine ⟨sgZ (at2 s.rows r c) * σ, ?_, ?_⟩
  ·have := sgZ_sq (at2 s.rows r c)
   rw [Int.mul_assoc, Int.mul_left_comm σ, hs, Int.mul_one, this]
  ·show det (m + 1) (zHa M m (s.basis.set r c)) = _
   rw [hb, zKG hd hs hD (h.sol c (by omega)) hr1, zHI]
   have := sgZ_sq (at2 s.rows r c)
   show σ * at2 s.rows r c = _
   rw [Int.mul_assoc, Int.mul_left_comm σ, ← Int.mul_assoc, this, Int.one_mul]
 ·intro j hj
  show Sol (m + 1) (zHa M m (s.basis.set r c)) _ _ _
  rw [hb, zHI]
  obtain ⟨p1, p2⟩ := zKH hd hs hD (h.sol c (by omega)) (h.sol j hj) hr1 hp
  refine zOL (sol_smul (sgZ (at2 s.rows r c)) p2) (fun i hi => ?_)
  show at2 (Sx.piv s r c).rows i j = _
  rw [hat i j hi hj]
  by_cases e : i = r
  ·rw [if_pos e, if_pos e]; rfl
  ·rw [if_neg e, if_neg e]
   have := zJ0 hd (p1 i hi e)
   show _ * zFd (zIh s.rows j i * zIh s.rows c r - zIh s.rows c i * zIh s.rows j r) s.den = _
   rw [this]
theorem zGt (f : Nat → Nat → Int) (m : Nat) : ∀ n : Nat, zA4 (fun i => zA4 (fun j => f i j) m) n = zA4 (fun j => zA4 (fun i => f i j) n) m
 | 0 => by
  show (0 : Int) = _
  rw [zD2 (f := fun j => zA4 (fun i => f i j) 0) (fun i _ => rfl)]
 | n + 1 => by
  show zA4 (fun i => zA4 (fun j => f i j) m) n + zA4 (fun j => f n j) m = _
  rw [zGt f m n, ← zDD]
  exact zAb (fun i _ => rfl)
theorem zOV (c : Int) (f : Nat → Int) (n : Nat) : zA4 (fun i => f i * c) n = zA4 f n * c := by
 rw [Int.mul_comm, ← zCF]
 exact zAb (fun i _ => Int.mul_comm _ _)
theorem zGM {f : Nat → Int} {n k : Nat} (hk : k < n) : zA4 (fun j => if j = k then f j else 0) n = f k := by
 rw [zFx k hk (fun i hi hne => by rw [if_neg hne]), if_pos rfl]
theorem zL7 : ∀ {n : Nat} {f : Nat → Int}, 0 < zA4 f n → ∃ i, i < n ∧ 0 < f i
 | 0, f, h => absurd h (by show ¬ (0 : Int) < 0; omega)
 | n + 1, f, h => by
  have h : 0 < zA4 f n + f n := h
  by_cases h1 : 0 < f n
  ·exact ⟨n, Nat.lt_succ_self n, h1⟩
  ·obtain ⟨i, hi, h2⟩ := zL7 (n := n) (f := f) (by omega)
   exact ⟨i, by omega, h2⟩
/-- a row of the table times a vector -/
def zFK (T : Tab) (N : Nat) (x : Nat → Int) (i : Nat) : Int := zA4 (fun j => at2 T i j * x j) (N + 1)
/-- The vectors that satisfy the rows of the beginning satisfy the rows of each table, and the other way round. -/
theorem Inv.ker {m N : Nat} {M : Tab} {s : St} (h : Inv m N M s) (x : Nat → Int) (z : Int) :
 (∀ i, i < m + 1 → zFK M N x i + (if i = m then z else 0) = 0) ↔ (∀ i, i < m + 1 → zFK s.rows N x i + (if i = m then s.den * z else 0) = 0) := by
 obtain ⟨σ, hs, hD⟩ := h.sg
 have hd : s.den ≠ 0 := by have := h.dp; omega
 let t : V := fun i => zFK s.rows N x i + (if i = m then s.den * z else 0)
 have key : ∀ c, c < m + 1 → zA4 (fun i => t i * zHa M m s.basis i c) (m + 1) = s.den * (zFK M N x c + (if c = m then z else 0)) := by
  intro c hc
  have e1 : ∀ i, i < m + 1 → t i * zHa M m s.basis i c = zA4 (fun j => x j * (at2 s.rows i j * zHa M m s.basis i c)) (N + 1) + (if i = m then s.den * z * (if c = m then 1 else 0) else 0) := by
   intro i hi
   show (zFK s.rows N x i + _) * _ = _
   rw [Int.add_mul]
   congr 1
   ·unfold zFK
    rw [← zOV]
    exact zAb (fun j _ => by rw [Int.mul_comm (at2 s.rows i j), Int.mul_assoc])
   ·by_cases e : i = m
    ·subst e
     rw [if_pos rfl, if_pos rfl]
     congr 1
     unfold zHa
     rw [if_neg (by omega)]
    ·rw [if_neg e, if_neg e, Int.zero_mul]
  rw [zAb e1, zDD, zGt, zGM (f := fun i => s.den * z * (if c = m then 1 else 0)) (Nat.lt_succ_self m)]
  have e2 : ∀ j, j < N + 1 → zA4 (fun i => x j * (at2 s.rows i j * zHa M m s.basis i c)) (m + 1) = s.den * (at2 M c j * x j) := by
   intro j hj
   rw [zCF]
   have := h.sol j hj c hc
   have : zA4 (fun i => at2 s.rows i j * zHa M m s.basis i c) (m + 1) = s.den * at2 M c j := this
   rw [this, Int.mul_left_comm, Int.mul_comm (x j)]
  rw [zAb e2, zCF, Int.mul_add]
  congr 1
  split
  ·rw [Int.mul_one]
  ·rw [Int.mul_zero, Int.mul_zero]
 constructor
 ·intro h0 i hi
  have h1 := zE7 (D := zHa M m s.basis) (t := t) (w := fun _ => 0) hi (fun c hc => by rw [key c hc, h0 c hc, Int.mul_zero])
  rw [zG5 (m + 1) _ i hi, hD] at h1
  have hσ : σ ≠ 0 := fun e => by rw [e] at hs; exact absurd hs (by decide)
  rcases Int.mul_eq_zero.1 h1.symm with h2 | h2
  ·exact h2
  ·rcases Int.mul_eq_zero.1 h2 with h3 | h3
   ·exact absurd h3 hσ
   ·exact absurd h3 hd
 ·intro h0 c hc
  have h1 := key c hc
  rw [zD2 (fun i hi => by show t i * _ = 0; rw [show t i = 0 from h0 i hi, Int.zero_mul])] at h1
  rcases Int.mul_eq_zero.1 h1.symm with h2 | h2
  ·exact absurd h2 hd
  ·exact h2
/-- One table told by another one. -/
theorem Inv.cross {m N : Nat} {M : Tab} {s s' : St} (h : Inv m N M s) (h' : Inv m N M s') {i c : Nat} (hi : i < m + 1) (hc : c < N + 1) :
 s.den * at2 s'.rows i c = zA4 (fun k => at2 s'.rows i (s.basis.getD k 0) * at2 s.rows k c) m + (if i = m then s'.den * at2 s.rows m c else 0) := by
 let x : Nat → Int := fun j => (if j = c then s.den else 0) - zA4 (fun k => if j = s.basis.getD k 0 then at2 s.rows k c else 0) m
 have hx : ∀ (T : Tab) (i : Nat), zFK T N x i = at2 T i c * s.den - zA4 (fun k => at2 T i (s.basis.getD k 0) * at2 s.rows k c) m := by
  intro T i
  unfold zFK
  have e1 : ∀ j, j < N + 1 → at2 T i j * x j = (if j = c then at2 T i j * s.den else 0) + zA4 (fun k => if j = s.basis.getD k 0 then -(at2 T i j * at2 s.rows k c) else 0) m := by
   intro j hj
   show _ * ((if j = c then s.den else 0) - _) = _
   rw [Int.mul_sub, Int.sub_eq_add_neg]
   congr 1
   ·split
    ·rfl
    ·rw [Int.mul_zero]
   ·rw [← Int.mul_neg, show -(zA4 (fun k => if j = s.basis.getD k 0 then at2 s.rows k c else 0) m) = zA4 (fun k => -1 * (if j = s.basis.getD k 0 then at2 s.rows k c else 0)) m from by rw [zCF]; omega, ← zCF]
    exact zAb (fun k _ => by
     split
     ·rw [Int.neg_mul, Int.one_mul, Int.mul_neg]
     ·rw [Int.mul_zero, Int.mul_zero])
  rw [zAb e1, zDD, zGM (f := fun j => at2 T i j * s.den) hc, zGt, Int.sub_eq_add_neg]
  congr 1
  have e2 : ∀ k, k < m → zA4 (fun j => if j = s.basis.getD k 0 then -(at2 T i j * at2 s.rows k c) else 0) (N + 1) = -1 * (at2 T i (s.basis.getD k 0) * at2 s.rows k c) := by
   intro k hk
   rw [zGM (f := fun j => -(at2 T i j * at2 s.rows k c)) (by have := h.bc k hk; omega)]
   omega
  rw [zAb e2, zCF]
  omega
 have h1 : ∀ i, i < m + 1 → zFK s.rows N x i + (if i = m then s.den * (-(at2 s.rows m c)) else 0) = 0 := by
  intro i hi
  rw [hx]
  by_cases e : i = m
  ·subst e
   rw [if_pos rfl, zD2 (fun k hk => by rw [h.unit i k (by omega) hk, if_neg (by omega), Int.zero_mul]), Int.mul_neg, Int.mul_comm]
   omega
  ·rw [if_neg e]
   have e3 : ∀ k, k < m → at2 s.rows i (s.basis.getD k 0) * at2 s.rows k c = if k = i then s.den * at2 s.rows k c else 0 := by
    intro k hk
    rw [h.unit i k hi hk]
    by_cases e4 : i = k
    ·rw [if_pos e4, if_pos e4.symm]
    ·rw [if_neg e4, if_neg (fun q => e4 q.symm), Int.zero_mul]
   rw [zAb e3, zGM (f := fun k => s.den * at2 s.rows k c) (by omega), Int.mul_comm]
   omega
 have h2 := (h'.ker x (-(at2 s.rows m c))).1 ((h.ker x (-(at2 s.rows m c))).2 h1) i hi
 rw [hx, Int.mul_comm] at h2
 by_cases e : i = m
 ·rw [if_pos e] at h2 ⊢
  rw [Int.mul_neg] at h2
  omega
 ·rw [if_neg e] at h2 ⊢
  omega
/-- the first column with a negative cost, or w -/
def zDl (T : Tab) (m : Nat) : Nat → Nat → Nat
 | 0, c => c
 | f + 1, c => if at2 T m c < 0 then c else zDl T m f (c + 1)
theorem zIl (T : Tab) (m : Nat) : ∀ f c, c ≤ zDl T m f c ∧ zDl T m f c ≤ c + f ∧ (∀ a, c ≤ a → a < zDl T m f c → 0 ≤ at2 T m a) ∧ (zDl T m f c < c + f → at2 T m (zDl T m f c) < 0)
 | 0, c => ⟨Nat.le_refl _, Nat.le_refl _, fun a h1 h2 => absurd h2 (by rw [zDl]; omega), fun h => absurd h (by rw [zDl]; omega)⟩
 | f + 1, c => by
  rw [zDl]
  by_cases h : at2 T m c < 0
  ·rw [if_pos h]
   exact ⟨Nat.le_refl _, by omega, fun a h1 h2 => absurd h2 (by omega), fun _ => h⟩
  ·rw [if_neg h]
   obtain ⟨h1, h2, h3, h4⟩ := zIl T m f (c + 1)
   refine ⟨by omega, by omega, fun a ha hb => ?_, fun hb => h4 (by omega)⟩
   by_cases e : a = c
   ·subst e; omega
   ·exact h3 a (by omega) hb
/-- the row that leaves -/
def zKb (T : Tab) (β : List Nat) (c e k b : Nat) : Prop := at2 T k e * at2 T b c < at2 T b e * at2 T k c ∨ at2 T k e * at2 T b c = at2 T b e * at2 T k c ∧ β.getD k 0 < β.getD b 0
instance (T : Tab) (β : List Nat) (c e k b : Nat) : Decidable (zKb T β c e k b) := by unfold zKb; infer_instance
def zFD (T : Tab) (β : List Nat) (c e : Nat) : Nat → Option Nat
 | 0 => none
 | k + 1 => match zFD T β c e k with
  | none => if at2 T k c ≤ 0 then none else some k
  | some b => if at2 T k c ≤ 0 then some b else if zKb T β c e k b then some k else some b
theorem zIy (T : Tab) (β : List Nat) (c e : Nat) : ∀ n, zFD T β c e n = none → ∀ i, i < n → at2 T i c ≤ 0
 | 0, _, i, hi => absurd hi (Nat.not_lt_zero _)
 | n + 1, h, i, hi => by
  rw [zFD] at h
  cases hl : zFD T β c e n with
  | none =>
   rw [hl] at h
   simp only at h
   split at h
   ·rename_i h1
    by_cases e2 : i = n
    ·rw [e2]; exact h1
    ·exact zIy T β c e n hl i (by omega)
   ·cases h
  | some b =>
   rw [hl] at h
   simp only at h
   split at h
   ·cases h
   ·split at h <;> cases h
theorem zI5 {a x y : Int} (ha : 0 < a) (h : a * x ≤ a * y) : x ≤ y := Int.le_of_mul_le_mul_left h ha
/-- what the chosen row is -/
structure Least (T : Tab) (β : List Nat) (c e n b : Nat) : Prop where
 lt : b < n
 pos : 0 < at2 T b c
 le : ∀ i, i < n → 0 < at2 T i c → at2 T b e * at2 T i c ≤ at2 T i e * at2 T b c ∧ (at2 T b e * at2 T i c = at2 T i e * at2 T b c → β.getD b 0 ≤ β.getD i 0)
theorem zIz (T : Tab) (β : List Nat) (c e : Nat) : ∀ n b, zFD T β c e n = some b → Least T β c e n b
 | 0, b, h => by rw [zFD] at h; cases h
 | n + 1, b, h => by
  rw [zFD] at h
  cases hl : zFD T β c e n with
  | none =>
   have hn := zIy T β c e n hl
   rw [hl] at h
   simp only at h
   split at h
   ·cases h
   ·rename_i h1
    obtain rfl : n = b := by simpa using h
    refine ⟨Nat.lt_succ_self _, by omega, fun i hi hp => ?_⟩
    by_cases e2 : i = n
    ·subst e2
     exact ⟨Int.le_refl _, fun _ => Nat.le_refl _⟩
    ·exact absurd (hn i (by omega)) (by omega)
  | some d =>
   have hd := zIz T β c e n d hl
   rw [hl] at h
   simp only at h
   split at h
   ·rename_i h1
    obtain rfl : d = b := by simpa using h
    refine ⟨by have := hd.lt; omega, hd.pos, fun i hi hp => ?_⟩
    by_cases e2 : i = n
    ·subst e2; omega
    ·exact hd.le i (by omega) hp
   ·rename_i h1
    have h1 : 0 < at2 T n c := by omega
    split at h
    ·rename_i h2
     obtain rfl : n = b := by simpa using h
     refine ⟨Nat.lt_succ_self _, h1, fun i hi hp => ?_⟩
     by_cases e2 : i = n
     ·subst e2; exact ⟨Int.le_refl _, fun _ => Nat.le_refl _⟩
     ·obtain ⟨g1, g2⟩ := hd.le i (by omega) hp
      have hdp := hd.pos
      -- n against d, d against i
      have a1 : at2 T n e * at2 T d c ≤ at2 T d e * at2 T n c := by
       rcases h2 with h2 | h2
       ·omega
       ·omega
      have b1 := Int.mul_le_mul_of_nonneg_right a1 (Int.le_of_lt hp)
      have b2 := Int.mul_le_mul_of_nonneg_right g1 (Int.le_of_lt h1)
      have c1 : at2 T d c * (at2 T n e * at2 T i c) = at2 T n e * at2 T d c * at2 T i c := by grind
      have c2 : at2 T d c * (at2 T i e * at2 T n c) = at2 T i e * at2 T d c * at2 T n c := by grind
      have c3 : at2 T d e * at2 T n c * at2 T i c = at2 T d e * at2 T i c * at2 T n c := by grind
      refine ⟨zI5 hdp (by omega), fun he => ?_⟩
      have d1 : at2 T d c * (at2 T n e * at2 T i c) = at2 T d c * (at2 T i e * at2 T n c) := by rw [he]
      -- all equal
      have d2 : at2 T n e * at2 T d c * at2 T i c = at2 T d e * at2 T n c * at2 T i c := by omega
      have d3 : at2 T n e * at2 T d c = at2 T d e * at2 T n c := Int.eq_of_mul_eq_mul_right (by omega) d2
      have d4 : at2 T d e * at2 T i c * at2 T n c = at2 T i e * at2 T d c * at2 T n c := by omega
      have d5 : at2 T d e * at2 T i c = at2 T i e * at2 T d c := Int.eq_of_mul_eq_mul_right (by omega) d4
      rcases h2 with h2 | h2
      ·omega
      ·have := g2 d5
       omega
    ·rename_i h2
     obtain rfl : d = b := by simpa using h
     refine ⟨by have := hd.lt; omega, hd.pos, fun i hi hp => ?_⟩
     by_cases e2 : i = n
     ·subst e2
      unfold zKb at h2
      refine ⟨by omega, fun he => ?_⟩
      omega
     ·exact hd.le i (by omega) hp
/-- One step: none if nothing can be improved, or if there is no end. -/
def zJO (m N w : Nat) (s : St) : Option St :=
 if zDl s.rows m w 0 = w then none
 else match zFD s.rows s.basis (zDl s.rows m w 0) N m with
  | none => none
  | some r => some (piv s r (zDl s.rows m w 0))
def zEC (m N w : Nat) (s : St) : Nat → St
 | 0 => s
 | k + 1 => (zJO m N w (zEC m N w s k)).getD (zEC m N w s k)
def Feas (m N : Nat) (s : St) : Prop := ∀ i, i < m → 0 ≤ at2 s.rows i N
theorem zOR {m N w : Nat} {s s' : St} (h : zJO m N w s = some s') : ∃ c r, c < w ∧ at2 s.rows m c < 0 ∧ (∀ a, a < c → 0 ≤ at2 s.rows m a) ∧ Least s.rows s.basis c N m r ∧ s' = piv s r c := by
 unfold zJO at h
 obtain ⟨e1, e2, e3, e4⟩ := zIl s.rows m w 0
 split at h
 ·cases h
 ·rename_i h1
  split at h
  ·cases h
  ·rename_i r hr
   refine ⟨_, r, by omega, e4 (by omega), fun a ha => e3 a (Nat.zero_le _) ha, zIz _ _ _ _ _ _ hr, ?_⟩
   exact (Option.some.inj h).symm
/-- the elements after a pivot, without quotients -/
theorem Inv.entry {m N : Nat} {M : Tab} {s : St} (h : Inv m N M s) {r c : Nat} (hr : r < m) (hc : c < N) (hp : at2 s.rows r c ≠ 0) {i j : Nat} (hi : i < m + 1) (hj : j < N + 1) :
 s.den * at2 (Sx.piv s r c).rows i j = sgZ (at2 s.rows r c) * (if i = r then s.den * at2 s.rows r j else at2 s.rows i j * at2 s.rows r c - at2 s.rows i c * at2 s.rows r j) := by
 obtain ⟨σ, hs, hD⟩ := h.sg
 have hd : s.den ≠ 0 := by have := h.dp; omega
 obtain ⟨p1, _⟩ := zKH hd hs hD (h.sol c (by omega)) (h.sol j hj) (show r < m + 1 by omega) hp
 have := zNE s.rows r c s.den h.row (i := i) (j := j) (by rw [h.n]; exact hi) hj
 have e : at2 (Sx.piv s r c).rows i j = at2 (pivT s.rows r c s.den) i j := rfl
 rw [e, this, Int.mul_left_comm]
 congr 1
 by_cases e : i = r
 ·rw [if_pos e, if_pos e]
 ·have e3 := zJ0 hd (p1 i hi e)
  have e4 := Int.mul_ediv_cancel' (p1 i hi e)
  rw [← e3] at e4
  rw [if_neg e, if_neg e]
  exact e4
theorem Inv.feas_step {m N : Nat} {M : Tab} {s : St} (h : Inv m N M s) (hf : Feas m N s) {r c : Nat} (hc : c < N) (hl : Least s.rows s.basis c N m r) : Feas m N (Sx.piv s r c) := by
 intro i hi
 have hp := hl.pos
 have h1 := h.entry hl.lt hc (by omega) (i := i) (j := N) (by omega) (by omega)
 have hd := h.dp
 have hsg : sgZ (at2 s.rows r c) = 1 := by unfold sgZ; rw [if_neg (by omega)]
 rw [hsg, Int.one_mul] at h1
 have : 0 ≤ s.den * at2 (Sx.piv s r c).rows i N := by
  rw [h1]
  split
  ·exact Int.mul_nonneg (Int.le_of_lt hd) (hf r hl.lt)
  ·by_cases hpi : 0 < at2 s.rows i c
   ·have := (hl.le i hi hpi).1
    rw [Int.mul_comm (at2 s.rows i c)]
    omega
   ·have h2 := Int.mul_nonneg (hf i hi) (Int.le_of_lt hp)
    have h3 := Int.mul_nonneg (show 0 ≤ -(at2 s.rows i c) by omega) (hf r hl.lt)
    rw [Int.neg_mul] at h3
    omega
 exact Int.le_of_mul_le_mul_left (by rw [Int.mul_zero]; exact this) hd
/-- Pigeons. -/
theorem pig : ∀ (K : Nat) (f : Nat → Nat), (∀ i, i ≤ K → f i < K) → ∃ a b, a < b ∧ b ≤ K ∧ f a = f b
 | 0, f, h => absurd (h 0 (Nat.le_refl _)) (Nat.not_lt_zero _)
 | K + 1, f, h => by
  by_cases hx : ∃ a, a ≤ K ∧ f a = f (K + 1)
  ·obtain ⟨a, h1, h2⟩ := hx
   exact ⟨a, K + 1, by omega, Nat.le_refl _, h2⟩
  ·have hne : ∀ a, a ≤ K → f a ≠ f (K + 1) := fun a ha e => hx ⟨a, ha, e⟩
   obtain ⟨a, b, h1, h2, h3⟩ := pig K (fun i => if f i < f (K + 1) then f i else f i - 1) (fun i hi => by
    have e1 := h i (by omega)
    have e2 := h (K + 1) (Nat.le_refl _)
    have e3 := hne i hi
    show (if f i < f (K + 1) then f i else f i - 1) < K
    split <;> omega)
   refine ⟨a, b, h1, by omega, ?_⟩
   have e1 := hne a (by omega)
   have e2 := hne b h2
   have h3 : (if f a < f (K + 1) then f a else f a - 1) = (if f b < f (K + 1) then f b else f b - 1) := h3
   split at h3 <;> split at h3 <;> omega
def zEV (N : Nat) : List Nat → Nat
 | [] => 0
 | x :: r => x + N * zEV N r
theorem zNH {N : Nat} : ∀ (l : List Nat), (∀ x ∈ l, x < N) → zEV N l < N ^ l.length
 | [], _ => by rw [zEV, List.length_nil, Nat.pow_zero]; exact Nat.one_pos
 | x :: r, h => by
  have h1 := zNH r (fun y hy => h y (by simp [hy]))
  have h2 := h x (by simp)
  rw [zEV, List.length_cons, Nat.pow_succ]
  have h3 : N * (zEV N r + 1) ≤ N * N ^ r.length := Nat.mul_le_mul_left _ h1
  rw [Nat.mul_add, Nat.mul_one] at h3
  rw [Nat.mul_comm (N ^ r.length)]
  omega
theorem zLQ {N : Nat} : ∀ (l l' : List Nat), l.length = l'.length → (∀ x ∈ l, x < N) → (∀ x ∈ l', x < N) → zEV N l = zEV N l' → l = l'
 | [], [], _, _, _, _ => rfl
 | [], _ :: _, h, _, _, _ => by simp at h
 | _ :: _, [], h, _, _, _ => by simp at h
 | x :: r, y :: q, hl, h, h', e => by
  have h1 := h x (by simp)
  have h2 := h' y (by simp)
  rw [zEV, zEV] at e
  have e1 := congrArg (fun n => n % N) e
  simp only [Nat.add_mul_mod_self_left, Nat.mod_eq_of_lt h1, Nat.mod_eq_of_lt h2] at e1
  subst e1
  have e2 : zEV N r = zEV N q := Nat.eq_of_mul_eq_mul_left (by omega) (show N * zEV N r = N * zEV N q by omega)
  rw [zLQ r q (by simpa using hl) (fun z hz => h z (by simp [hz])) (fun z hz => h' z (by simp [hz])) e2]
/-- An endless row of tables. -/
structure Endless (m N : Nat) (M : Tab) (s : Nat → St) (c r : Nat → Nat) : Prop where
 inv : ∀ k, Inv m N M (s k)
 feas : ∀ k, Feas m N (s k)
 cN : ∀ k, c k < N
 neg : ∀ k, at2 (s k).rows m (c k) < 0
 low : ∀ k a, a < c k → 0 ≤ at2 (s k).rows m a
 lea : ∀ k, Least (s k).rows (s k).basis (c k) N m (r k)
 nx : ∀ k, s (k + 1) = piv (s k) (r k) (c k)
def zC3 (m : Nat) (s : St) (v : Nat) : Prop := ∃ i, i < m ∧ s.basis.getD i 0 = v
theorem Inv.nodup {m N : Nat} {M : Tab} {s : St} (h : Inv m N M s) {i k : Nat} (hi : i < m) (hk : k < m) (he : s.basis.getD i 0 = s.basis.getD k 0) : i = k := by
 by_cases e : i = k
 ·exact e
 ·have h1 := h.unit i k (by omega) hk
  have h2 := h.unit i i (by omega) hi
  rw [if_neg e] at h1
  rw [if_pos rfl, he] at h2
  have := h.dp
  omega
theorem Inv.cost_basic {m N : Nat} {M : Tab} {s : St} (h : Inv m N M s) {v : Nat} (hb : zC3 m s v) : at2 s.rows m v = 0 := by
 obtain ⟨i, hi, rfl⟩ := hb
 rw [h.unit m i (by omega) hi, if_neg (by omega)]
theorem zGI {m N : Nat} {M : Tab} {s : St} (h : Inv m N M s) {r c : Nat} (hr : r < m) (i : Nat) : (Sx.piv s r c).basis.getD i 0 = if i = r then c else s.basis.getD i 0 := by
 show (s.basis.set r c).getD i 0 = _
 rw [zFf]
 by_cases e : i = r
 ·rw [if_pos ⟨e, by rw [h.b]; exact hr⟩, if_pos e]
 ·rw [if_neg (fun q => e q.1), if_neg e]
section
variable {m N : Nat} {M : Tab} {s : Nat → St} {c r : Nat → Nat}
theorem Endless.den (h : Endless m N M s c r) (k : Nat) : (s (k + 1)).den = at2 (s k).rows (r k) (c k) := by
 rw [h.nx, zHI]
 have := (h.lea k).pos
 unfold sgZ
 rw [if_neg (by omega)]; omega
theorem Endless.entry (h : Endless m N M s c r) (k : Nat) {i j : Nat} (hi : i < m + 1) (hj : j < N + 1) :
 (s k).den * at2 (s (k + 1)).rows i j = if i = r k then (s k).den * at2 (s k).rows (r k) j else at2 (s k).rows i j * at2 (s k).rows (r k) (c k) - at2 (s k).rows i (c k) * at2 (s k).rows (r k) j := by
 have hp := (h.lea k).pos
 rw [h.nx, (h.inv k).entry (h.lea k).lt (h.cN k) (by omega) hi hj]
 have hsg : sgZ (at2 (s k).rows (r k) (c k)) = 1 := by unfold sgZ; rw [if_neg (by omega)]
 rw [hsg, Int.one_mul]
/-- the value -/
def zHS (N m : Nat) (s : St) : Rat := (at2 s.rows m N : Rat) * (s.den : Rat)⁻¹
theorem zHN {x : Int} (h : 0 < x) : (0 : Rat) < (x : Rat) := by
 have := (Rat.intCast_lt_intCast (a := 0) (b := x)).2 h
 exact this
theorem zHT {m N : Nat} {s : St} (hd : 0 < s.den) : zHS N m s * (s.den : Rat) = (at2 s.rows m N : Rat) := by
 unfold zHS
 have : (s.den : Rat) ≠ 0 := fun e => by
  have := zHN hd
  rw [e] at this
  exact absurd this (by decide +kernel)
 rw [Rat.mul_assoc, Rat.inv_mul_cancel _ this, Rat.mul_one]
theorem Endless.value (h : Endless m N M s c r) (k : Nat) : zHS N m (s k) ≤ zHS N m (s (k + 1)) ∧ (zHS N m (s k) = zHS N m (s (k + 1)) → at2 (s k).rows (r k) N = 0) := by
 have hd := (h.inv k).dp
 have hd' := (h.inv (k + 1)).dp
 have hp := (h.lea k).pos
 have h1 := h.entry k (i := m) (j := N) (by omega) (by omega)
 have hrm := (h.lea k).lt
 rw [if_neg (by omega), ← h.den] at h1
 have h2 := zHT (m := m) (N := N) hd
 have h3 := zHT (m := m) (N := N) hd'
 have h4 := congrArg (fun x : Int => (x : Rat)) h1
 simp only [Rat.intCast_mul, Rat.intCast_sub] at h4
 rw [← h2, ← h3] at h4
 have hX : at2 (s k).rows m (c k) * at2 (s k).rows (r k) N ≤ 0 := by
  have := Int.mul_nonneg (show 0 ≤ -(at2 (s k).rows m (c k)) by have := h.neg k; omega) (h.feas k (r k) hrm)
  rw [Int.neg_mul] at this; omega
 have hXr : ((at2 (s k).rows m (c k) : Int) : Rat) * ((at2 (s k).rows (r k) N : Int) : Rat) ≤ 0 := by
  rw [← Rat.intCast_mul]
  exact (Rat.intCast_le_intCast (a := _) (b := 0)).2 hX
 have hpd : (0 : Rat) < ((s k).den : Rat) * ((s (k + 1)).den : Rat) := Rat.mul_pos (zHN hd) (zHN hd')
 constructor
 ·refine Rat.le_of_mul_le_mul_right ?_ hpd
  grind
 ·intro e
  rw [← e] at h4
  have h5 : ((at2 (s k).rows m (c k) : Int) : Rat) * ((at2 (s k).rows (r k) N : Int) : Rat) = 0 := by grind
  rw [← Rat.intCast_mul] at h5
  have h6 : at2 (s k).rows m (c k) * at2 (s k).rows (r k) N = 0 := Rat.intCast_inj.1 h5
  rcases Int.mul_eq_zero.1 h6 with h7 | h7
  ·have := h.neg k; omega
  ·exact h7
theorem Endless.mono (h : Endless m N M s c r) (a : Nat) : ∀ d, zHS N m (s a) ≤ zHS N m (s (a + d))
 | 0 => Rat.le_refl
 | d + 1 => Rat.le_trans (h.mono a d) (h.value (a + d)).1
/-- with the same basis the value is the same -/
theorem Endless.same (h : Endless m N M s c r) {a b : Nat} (he : (s a).basis = (s b).basis) : zHS N m (s a) = zHS N m (s b) := by
 have h1 := (h.inv a).cross (h.inv b) (i := m) (c := N) (by omega) (by omega)
 rw [if_pos rfl, zD2 (fun k hk => by rw [he, (h.inv b).unit m k (by omega) hk, if_neg (by omega), Int.zero_mul])] at h1
 have da := (h.inv a).dp
 have db := (h.inv b).dp
 have h2 := zHT (m := m) (N := N) da
 have h3 := zHT (m := m) (N := N) db
 have h4 := congrArg (fun x : Int => (x : Rat)) h1
 simp only [Rat.intCast_mul, Rat.intCast_add, Rat.intCast_zero] at h4
 rw [← h2, ← h3] at h4
 have hpd : (0 : Rat) < ((s a).den : Rat) * ((s b).den : Rat) := Rat.mul_pos (zHN da) (zHN db)
 have le1 : zHS N m (s a) ≤ zHS N m (s b) := Rat.le_of_mul_le_mul_right (by grind) hpd
 have le2 : zHS N m (s b) ≤ zHS N m (s a) := Rat.le_of_mul_le_mul_right (by grind) hpd
 exact Rat.le_antisymm le1 le2
theorem Endless.still (h : Endless m N M s c r) {a b : Nat} (he : (s a).basis = (s b).basis) {k : Nat} (h1 : a ≤ k) (h2 : k < b) : at2 (s k).rows (r k) N = 0 := by
 refine (h.value k).2 (Rat.le_antisymm (h.value k).1 ?_)
 have g1 := h.mono (k + 1) (b - (k + 1))
 rw [show k + 1 + (b - (k + 1)) = b by omega] at g1
 have g2 := h.mono a (k - a)
 rw [show a + (k - a) = k by omega] at g2
 rw [← h.same he] at g1
 exact Rat.le_trans g1 g2
/-- a variable has the value 0 -/
def Zero (m N : Nat) (s : St) (v : Nat) : Prop := ∀ i, i < m → s.basis.getD i 0 = v → at2 s.rows i N = 0
theorem Endless.zero (h : Endless m N M s c r) {k : Nat} (h0 : at2 (s k).rows (r k) N = 0) (v : Nat) : Zero m N (s k) v ↔ Zero m N (s (k + 1)) v := by
 have hp := (h.lea k).pos
 have hr := (h.lea k).lt
 have hd := (h.inv k).dp
 have hbas : ∀ i, (s (k + 1)).basis.getD i 0 = if i = r k then c k else (s k).basis.getD i 0 := fun i => by rw [h.nx]; exact zGI (h.inv k) hr i
 have hent : ∀ i, i < m → i ≠ r k → (at2 (s (k + 1)).rows i N = 0 ↔ at2 (s k).rows i N = 0) := by
  intro i hi hne
  have h1 := h.entry k (i := i) (j := N) (by omega) (by omega)
  rw [if_neg hne, h0, Int.mul_zero, Int.sub_zero] at h1
  constructor
  ·intro e
   rw [e, Int.mul_zero] at h1
   rcases Int.mul_eq_zero.1 h1.symm with h2 | h2
   ·exact h2
   ·omega
  ·intro e
   rw [e, Int.zero_mul] at h1
   rcases Int.mul_eq_zero.1 h1 with h2 | h2
   ·omega
   ·exact h2
 constructor
 ·intro hz i hi he
  rw [hbas] at he
  by_cases e : i = r k
  ·have h1 := h.entry k (i := i) (j := N) (by omega) (by omega)
   rw [if_pos e, h0, Int.mul_zero] at h1
   rcases Int.mul_eq_zero.1 h1 with h2 | h2
   ·omega
   ·exact h2
  ·rw [if_neg e] at he
   exact (hent i hi e).2 (hz i hi he)
 ·intro hz i hi he
  by_cases e : i = r k
  ·rw [e]; exact h0
  ·exact (hent i hi e).1 (hz i hi (by rw [hbas, if_neg e]; exact he))
theorem Endless.zeros (h : Endless m N M s c r) {a b : Nat} (he : (s a).basis = (s b).basis) (v : Nat) : ∀ d, a + d ≤ b → (Zero m N (s a) v ↔ Zero m N (s (a + d)) v)
 | 0, _ => Iff.rfl
 | d + 1, hd => (h.zeros he v d (by omega)).trans (h.zero (h.still he (by omega) (by omega)) v)
/-- who is in the basis -/
theorem Endless.stays (h : Endless m N M s c r) {k v : Nat} (hb : zC3 m (s k) v) (hv : v ≠ (s k).basis.getD (r k) 0) : zC3 m (s (k + 1)) v := by
 obtain ⟨i, hi, rfl⟩ := hb
 refine ⟨i, hi, ?_⟩
 rw [h.nx, zGI (h.inv k) (h.lea k).lt, if_neg]
 intro e; rw [e] at hv; exact hv rfl
theorem Endless.was (h : Endless m N M s c r) {k v : Nat} (hb : zC3 m (s (k + 1)) v) (hv : v ≠ c k) : zC3 m (s k) v := by
 obtain ⟨i, hi, rfl⟩ := hb
 have h1 := zGI (c := c k) (h.inv k) (h.lea k).lt i
 rw [← h.nx] at h1
 rw [h1] at hv ⊢
 by_cases e : i = r k
 ·rw [if_pos e] at hv; exact absurd rfl hv
 ·rw [if_neg e]; exact ⟨i, hi, rfl⟩
theorem Endless.enters (h : Endless m N M s c r) (k : Nat) : ¬ zC3 m (s k) (c k) ∧ zC3 m (s (k + 1)) (c k) := by
 constructor
 ·intro hb
  have := (h.inv k).cost_basic hb
  have := h.neg k
  omega
 ·refine ⟨r k, (h.lea k).lt, ?_⟩
  rw [h.nx, zGI (h.inv k) (h.lea k).lt, if_pos rfl]
theorem Endless.false (h : Endless m N M s c r) : False := by
 -- a basis comes twice
 obtain ⟨a, b, hab, he⟩ : ∃ a b, a < b ∧ (s a).basis = (s b).basis := by
  have hlt : ∀ k, ∀ x ∈ (s k).basis, x < N := by
   intro k x hx
   obtain ⟨i, hi, rfl⟩ := List.getElem_of_mem hx
   have := (h.inv k).bc i (by rw [← (h.inv k).b]; exact hi)
   simpa [List.getD, hi] using this
  obtain ⟨a, b, h1, h2, h3⟩ := pig (N ^ m) (fun k => zEV N (s k).basis) (fun k _ => by
   have := zNH (s k).basis (hlt k)
   rwa [(h.inv k).b] at this)
  exact ⟨a, b, h1, zLQ _ _ (by rw [(h.inv a).b, (h.inv b).b]) (hlt a) (hlt b) h3⟩
 -- who is in some basis between, and not in another one, enters
 have fick : ∀ v, (∃ k, a ≤ k ∧ k ≤ b ∧ zC3 m (s k) v) → (∃ k, a ≤ k ∧ k ≤ b ∧ ¬ zC3 m (s k) v) → ∃ k, a ≤ k ∧ k < b ∧ c k = v := by
  rintro v ⟨k1, l1, l2, hb⟩ ⟨k2, l3, l4, hn⟩
  apply Classical.byContradiction
  intro hno
  have hno : ∀ k, a ≤ k → k < b → v ≠ c k := fun k q1 q2 e => hno ⟨k, q1, q2, e.symm⟩
  have back : ∀ d k, a ≤ k → k + d ≤ b → zC3 m (s (k + d)) v → zC3 m (s k) v := by
   intro d
   induction d with
   | zero => intro k _ _ hb; exact hb
   | succ d ih => intro k q1 q2 hb; exact ih k q1 (by omega) (h.was hb (hno (k + d) (by omega) (by omega)))
  have ha : zC3 m (s a) v := back (k1 - a) a (Nat.le_refl _) (by omega) (by rw [show a + (k1 - a) = k1 by omega]; exact hb)
  have hbb : zC3 m (s b) v := by unfold zC3 at ha ⊢; rw [← he]; exact ha
  exact hn (back (b - k2) k2 l3 (by omega) (by rw [show k2 + (b - k2) = b by omega]; exact hbb))
 -- the greatest one that enters
 obtain ⟨k', q1, q2, hmax⟩ : ∃ k', a ≤ k' ∧ k' < b ∧ ∀ k, a ≤ k → k < b → c k ≤ c k' := by
  have : ∀ d, a + d < b + 0 → ∃ k', a ≤ k' ∧ k' ≤ a + d ∧ ∀ k, a ≤ k → k ≤ a + d → c k ≤ c k' := by
   intro d
   induction d with
   | zero => intro _; exact ⟨a, Nat.le_refl _, Nat.le_refl _, fun k h1 h2 => by rw [show k = a by omega]; exact Nat.le_refl _⟩
   | succ d ih =>
    intro hd
    obtain ⟨k', g1, g2, g3⟩ := ih (by omega)
    by_cases hc : c k' ≤ c (a + (d + 1))
    ·refine ⟨a + (d + 1), by omega, Nat.le_refl _, fun k h1 h2 => ?_⟩
     by_cases e : k = a + (d + 1)
     ·rw [e]; exact Nat.le_refl _
     ·exact Nat.le_trans (g3 k h1 (by omega)) hc
    ·refine ⟨k', g1, by omega, fun k h1 h2 => ?_⟩
     by_cases e : k = a + (d + 1)
     ·rw [e]; omega
     ·exact g3 k h1 (by omega)
  obtain ⟨k', g1, g2, g3⟩ := this (b - 1 - a) (by omega)
  exact ⟨k', g1, by omega, fun k h1 h2 => g3 k h1 (by omega)⟩
 obtain ⟨t1, t2⟩ := h.enters k'
 -- it leaves, too
 obtain ⟨k, l1, l2, l3⟩ : ∃ k, a ≤ k ∧ k < b ∧ (s k).basis.getD (r k) 0 = c k' := by
  apply Classical.byContradiction
  intro hno
  have hno : ∀ k, a ≤ k → k < b → c k' ≠ (s k).basis.getD (r k) 0 := fun k q1 q2 e => hno ⟨k, q1, q2, e.symm⟩
  have fwd : ∀ d k, a ≤ k → k + d ≤ b → zC3 m (s k) (c k') → zC3 m (s (k + d)) (c k') := by
   intro d
   induction d with
   | zero => intro k _ _ hb; exact hb
   | succ d ih => intro k q1 q2 hb; exact h.stays (ih k q1 (by omega) hb) (hno (k + d) (by omega) (by omega))
  have hb := fwd (b - (k' + 1)) (k' + 1) (by omega) (by omega) t2
  rw [show k' + 1 + (b - (k' + 1)) = b by omega] at hb
  have ha : zC3 m (s a) (c k') := by unfold zC3 at hb ⊢; rw [he]; exact hb
  have := fwd (k' - a) a (Nat.le_refl _) (by omega) ha
  rw [show a + (k' - a) = k' by omega] at this
  exact t1 this
 have hc1 := hmax k l1 l2
 have hlea := h.lea k
 have hc2 : c k ≠ c k' := by
  intro e
  exact (h.enters k).1 ⟨r k, hlea.lt, by rw [l3, e]⟩
 have hlow := h.low k' (c k) (by omega)
 have hX := (h.inv k).cross (h.inv k') (i := m) (c := c k) (by omega) (by have := h.cN k; omega)
 rw [if_pos rfl] at hX
 have d1 := (h.inv k).dp
 have d2 := (h.inv k').dp
 have n1 := h.neg k
 have p1 := Int.mul_nonneg (Int.le_of_lt d1) hlow
 have p2 := Int.mul_pos d2 (show 0 < -(at2 (s k).rows m (c k)) by omega)
 rw [Int.mul_neg] at p2
 obtain ⟨i, hi, hpos⟩ := zL7 (n := m) (f := fun i => at2 (s k').rows m ((s k).basis.getD i 0) * at2 (s k).rows i (c k)) (by omega)
 have hpos : 0 < at2 (s k').rows m ((s k).basis.getD i 0) * at2 (s k).rows i (c k) := hpos
 have hnb : ¬ zC3 m (s k') ((s k).basis.getD i 0) := by
  intro hb
  rw [(h.inv k').cost_basic hb, Int.zero_mul] at hpos
  omega
 obtain ⟨k2, g1, g2, g3⟩ := fick ((s k).basis.getD i 0) ⟨k, l1, by omega, i, hi, rfl⟩ ⟨k', q1, by omega, hnb⟩
 have hle := hmax k2 g1 g2
 rw [g3] at hle
 have hmp : ∀ x y : Int, 0 < x * y → 0 ≤ x → 0 < x ∧ 0 < y := by
  intro x y hxy hx
  by_cases hx0 : x = 0
  ·rw [hx0, Int.zero_mul] at hxy; omega
  ·refine ⟨by omega, ?_⟩
   apply Classical.byContradiction
   intro hy
   have := Int.mul_nonneg hx (show 0 ≤ -y by omega)
   rw [Int.mul_neg] at this
   omega
 by_cases ht : (s k).basis.getD i 0 = c k'
 ·have hir : i = r k := (h.inv k).nodup hi hlea.lt (by rw [ht, l3])
  rw [ht, hir] at hpos
  have h1 := h.neg k'
  have h2 := Int.mul_pos (show 0 < -(at2 (s k').rows m (c k')) by omega) hlea.pos
  rw [Int.neg_mul] at h2
  omega
 ·have hlow2 := h.low k' ((s k).basis.getD i 0) (by omega)
  obtain ⟨w1, w2⟩ := hmp _ _ hpos hlow2
  have z' : Zero m N (s k') ((s k).basis.getD i 0) := fun j hj e => absurd ⟨j, hj, e⟩ hnb
  have za := (h.zeros he ((s k).basis.getD i 0) (k' - a) (by omega)).2 (by rw [show a + (k' - a) = k' by omega]; exact z')
  have zk := (h.zeros he ((s k).basis.getD i 0) (k - a) (by omega)).1 za
  rw [show a + (k - a) = k by omega] at zk
  have h0 := zk i hi rfl
  have hst := h.still he l1 l2
  have := (hlea.le i hi w2).2 (by rw [h0, hst, Int.zero_mul, Int.zero_mul])
  rw [l3] at this
  omega
end
/-- The algorithm ends. -/
theorem ends {m N w : Nat} {M : Tab} {s : St} (hi : Inv m N M s) (hf : Feas m N s) (hw : w ≤ N) : ∃ K, zJO m N w (zEC m N w s K) = none := by
 apply Classical.byContradiction
 intro hno
 have hno : ∀ k, zJO m N w (zEC m N w s k) ≠ none := fun k e => hno ⟨k, e⟩
 have hex : ∀ k, ∃ c r, c < w ∧ at2 (zEC m N w s k).rows m c < 0 ∧ (∀ a, a < c → 0 ≤ at2 (zEC m N w s k).rows m a) ∧ Least (zEC m N w s k).rows (zEC m N w s k).basis c N m r ∧ zEC m N w s (k + 1) = piv (zEC m N w s k) r c := by
  intro k
  cases hs : zJO m N w (zEC m N w s k) with
  | none => exact absurd hs (hno k)
  | some s' =>
   obtain ⟨c, r, h1, h2, h3, h4, h5⟩ := zOR hs
   refine ⟨c, r, h1, h2, h3, h4, ?_⟩
   show (zJO m N w (zEC m N w s k)).getD _ = _
   rw [hs, ← h5]; rfl
 have both : ∀ k, Inv m N M (zEC m N w s k) ∧ Feas m N (zEC m N w s k) := by
  intro k
  induction k with
  | zero => exact ⟨hi, hf⟩
  | succ k ih =>
   obtain ⟨c, r, h1, h2, h3, h4, h5⟩ := hex k
   rw [h5]
   have := h4.pos
   exact ⟨ih.1.piv h4.lt (by omega) (by omega), ih.1.feas_step ih.2 (by omega) h4⟩
 exact Endless.false (m := m) (N := N) (M := M) (s := zEC m N w s) (c := fun k => Classical.choose (hex k)) (r := fun k => Classical.choose (Classical.choose_spec (hex k)))
  { inv := fun k => (both k).1
    feas := fun k => (both k).2
    cN := fun k => by have := (Classical.choose_spec (Classical.choose_spec (hex k))).1; omega
    neg := fun k => (Classical.choose_spec (Classical.choose_spec (hex k))).2.1
    low := fun k => (Classical.choose_spec (Classical.choose_spec (hex k))).2.2.1
    lea := fun k => (Classical.choose_spec (Classical.choose_spec (hex k))).2.2.2.1
    nx := fun k => (Classical.choose_spec (Classical.choose_spec (hex k))).2.2.2.2 }
end Go.Ax.Sx
namespace Go.Ax.Sx
open Go.Ax.Dt
end Go.Ax.Sx
namespace Go.Ax.Sx
open Go.Ax.Dt Go.Ax.Rt Go.Ax.Bg
/-- the first conditions that need an artificial unknown -/
def needN (B : List Rat) : Nat → List Nat
 | 0 => []
 | k + 1 => if (B.getD k 0).num < 0 then needN B k ++ [k] else needN B k
abbrev artI (B : List Rat) (i : Nat) : Nat := (needN B i).length
abbrev artN (B : List Rat) : Nat := artI B B.length
/-- a row before its sign is considered -/
def baseE (n m a : Nat) (l : List Int) (i j : Nat) : Int := if j < n then l.getD j 0 else if j = n + i then 1 else if j = n + m + a then l.getD n 0 else 0
def zAM (n m a : Nat) (l : List Int) (i : Nat) (neg : Bool) (k j : Nat) : Int := if neg then (if j = n + m + k then 1 else -(baseE n m a l i j)) else baseE n m a l i j
/-- a linear program: the conditions, the right sides, and the costs -/
structure Prog where
 A : List (List Rat)
 B : List Rat
 C : List Rat
abbrev Prog.n (p : Prog) : Nat := p.C.length
abbrev Prog.m (p : Prog) : Nat := p.B.length
abbrev Prog.a (p : Prog) : Nat := artN p.B
abbrev Prog.N (p : Prog) : Nat := p.C.length + p.B.length + artN p.B
def Prog.full (p : Prog) (i : Nat) : List Rat := p.A.getD i [] ++ [p.B.getD i 0]
def Prog.whole (p : Prog) (i : Nat) : List Int := wholeL (p.full i)
section
variable {m N w : Nat} {M : Tab} {s : St}
end
section
variable {m N w : Nat} {M : Tab} {s : St}
end
end Go.Ax.Sx
namespace Go.Ax.Sx
open Go.Ax.Dt Go.Ax.Rt Go.Ax.Bg
section
variable {p : Prog} {k : Nat → Int} {s : St}
theorem zKv (n j : Nat) : (List.replicate n (0 : Rat)).getD j 0 = 0 := by
 simp only [List.getD, List.getElem?_replicate]
 split <;> rfl
end
end Go.Ax.Sx
namespace Go.Ax.Sx
open Go.Ax.Dt Go.Ax.Rt Go.Ax.Bg
def Prog.E (p : Prog) (k : Nat) : Nat := k + k * (p.n + 1)
def Prog.T (p : Prog) (k : Nat) : Nat := (p.E k + 2) * (p.m + 1)
def Prog.W (p : Prog) (k : Nat) : Nat := p.T k + 2 + 2 * (k * (p.n + 1))
section
variable {p : Prog} {k : Nat}
end
end Go.Ax.Sx
namespace Go.Ax.Sx
open Go.Ax.Dt Go.Ax.Rt Go.Ax.Bg
section
variable {p : Prog}
end
section
variable {p : Prog}
end
end Go.Ax.Sx
namespace Go.Ax.Sx
open Go.Ax.Dt Go.Ax.Rt Go.Ax.Bg
structure Prob where
 A : List (List zDU)
 B : List zDU
 C : List zDU
def Prob.prog (P : Prob) : Prog := ⟨inM P.A, P.B.map ratV, P.C.map ratV⟩
/-- the form of a result -/
def lensP (P : Prob) (k x y r : Nat) : Prop := x = (if k = 1 then 0 else P.C.length) ∧ y = (if k = 2 then 0 else P.B.length) ∧ r = (if k = 2 then P.C.length else 0)
instance (P : Prob) (k x y r : Nat) : Decidable (lensP P k x y r) := inferInstanceAs (Decidable (_ ∧ _))
section
variable {P : Prob}
end
end Go.Ax.Sx
namespace Go.Ax.Tt
open Go.Ax.Rt Go.Ax.Bg Go.Ax.Cd Go.Ax.Idx Go.Ax.Tb
/-- a number's text: tree.number -/
def numO (s : zDU) : Option Int := match Lib.atoiAll s with
 | .ok n => if Lib.itoa n = s then some n else none
 | _ => none
theorem zKF (u : Nat) (h : u < 9223372036854775808) : numO (Lib.itoa (u : Int)) = some (u : Int) := by
 unfold numO
 have e := zLC u h
 rw [itoa_nat, e]
 show (if Lib.itoa (u : Int) = _ then _ else _) = _
 rw [if_pos (itoa_nat u)]
structure OkW (w : zDU) : Prop where
 ne : w ≠ []
 sp : (32 : UInt8) ∉ w
 nl : (10 : UInt8) ∉ w
theorem zMf (u : Nat) : OkW (Lib.decDigits u) := ⟨zDL u, zFH u 32 (.inl (by decide)), zFH u 10 (.inl (by decide))⟩
theorem okW_itoa (u : Nat) : OkW (Lib.itoa (u : Int)) := by rw [itoa_nat]; exact zMf u
end Go.Ax.Tt
namespace Go.Ax.Gm
open Go.Ax.Tt Go.Ax.Bg
def byteOf (c : Int) : UInt8 := UInt8.ofNat c.toNat
def zCC (l : List Int) : zDU := (l.map (fun n => Lib.itoa n ++ [32])).flatten
def keyT (p : Pos) : zDU := byteOf p.turn :: (p.cells.map byteOf ++ zCC (p.h0 ++ p.h1))
theorem zLK {a b : Int} (ha : 0 ≤ a ∧ a < 256) (hb : 0 ≤ b ∧ b < 256) (h : byteOf a = byteOf b) : a = b := by
 unfold byteOf at h
 have := congrArg UInt8.toNat h
 rw [UInt8.toNat_ofNat', UInt8.toNat_ofNat', Nat.mod_eq_of_lt (by omega), Nat.mod_eq_of_lt (by omega)] at this
 omega
theorem zI3 {f : Int → UInt8} {P : Int → Prop} (hf : ∀ a b, P a → P b → f a = f b → a = b) : ∀ {l m : List Int}, (∀ x ∈ l, P x) → (∀ x ∈ m, P x) → l.map f = m.map f → l = m
 | [], [], _, _, _ => rfl
 | [], b :: m, _, _, h => by cases h
 | a :: l, [], _, _, h => by cases h
 | a :: l, b :: m, hl, hm, h => by
  rw [List.map_cons, List.map_cons] at h
  obtain ⟨h1, h2⟩ := List.cons.inj h
  rw [hf a b (hl a (List.mem_cons_self ..)) (hm b (List.mem_cons_self ..)) h1, zI3 hf (fun x hx => hl x (List.mem_cons_of_mem _ hx)) (fun x hx => hm x (List.mem_cons_of_mem _ hx)) h2]
theorem cut_eq {c : UInt8} : ∀ {a b r s : zDU}, c ∉ a → c ∉ b → a ++ c :: r = b ++ c :: s → a = b ∧ r = s
 | [], [], r, s, _, _, h => ⟨rfl, (List.cons.inj h).2⟩
 | [], y :: b, r, s, _, hb, h => absurd (by rw [show c = y from (List.cons.inj h).1]; exact List.mem_cons_self ..) hb
 | x :: a, [], r, s, ha, _, h => absurd (by rw [show c = x from (List.cons.inj h).1.symm]; exact List.mem_cons_self ..) ha
 | x :: a, y :: b, r, s, ha, hb, h => by
  obtain ⟨h1, h2⟩ := List.cons.inj h
  obtain ⟨h3, h4⟩ := cut_eq (fun q => ha (List.mem_cons_of_mem _ q)) (fun q => hb (List.mem_cons_of_mem _ q)) h2
  exact ⟨by rw [h1, h3], h4⟩
theorem itoa_inj {a b : Int} (ha : 0 ≤ a ∧ a ≤ 1000) (hb : 0 ≤ b ∧ b ≤ 1000) (h : Lib.itoa a = Lib.itoa b) : a = b := by
 obtain ⟨u, rfl⟩ := Int.eq_ofNat_of_zero_le ha.1
 obtain ⟨v, rfl⟩ := Int.eq_ofNat_of_zero_le hb.1
 have h1 := zKF u (by omega)
 have h2 := zKF v (by omega)
 rw [h, h2] at h1
 exact (Option.some.inj h1).symm
theorem zLo : ∀ {l m : List Int}, (∀ x ∈ l, 0 ≤ x ∧ x ≤ 1000) → (∀ x ∈ m, 0 ≤ x ∧ x ≤ 1000) → l.length = m.length → zCC l = zCC m → l = m
 | [], [], _, _, _, _ => rfl
 | [], b :: m, _, _, h, _ => by cases h
 | a :: l, [], _, _, h, _ => by cases h
 | a :: l, b :: m, hl, hm, hlen, h => by
  have ha := hl a (List.mem_cons_self ..)
  have hb := hm b (List.mem_cons_self ..)
  have ea : zCC (a :: l) = Lib.itoa a ++ 32 :: zCC l := by unfold zCC; rw [List.map_cons, List.flatten_cons, List.append_assoc]; rfl
  have eb : zCC (b :: m) = Lib.itoa b ++ 32 :: zCC m := by unfold zCC; rw [List.map_cons, List.flatten_cons, List.append_assoc]; rfl
  rw [ea, eb] at h
  have n1 : ∀ {x : Int}, 0 ≤ x → (32 : UInt8) ∉ Lib.itoa x := fun {x} hx => by
   obtain ⟨u, rfl⟩ := Int.eq_ofNat_of_zero_le hx
   exact (okW_itoa u).sp
  obtain ⟨h1, h2⟩ := cut_eq (n1 ha.1) (n1 hb.1) h
  rw [itoa_inj ha hb h1, zLo (fun x hx => hl x (List.mem_cons_of_mem _ hx)) (fun x hx => hm x (List.mem_cons_of_mem _ hx)) (by simpa using hlen) h2]
/-- keys of good positions of one game tell them apart -/
theorem key_inj {r : Rules} {p q : Pos} (hv : ValidR r) (hp : Sound r p) (hq : Sound r q) (h : keyT p = keyT q) : zBw p = zBw q := by
 obtain ⟨h1, h2⟩ := List.cons.inj h
 have hlen : (p.cells.map byteOf).length = (q.cells.map byteOf).length := by
  rw [List.length_map, List.length_map]
  have e1 := hp.cl
  have e2 := hq.cl
  omega
 obtain ⟨h3, h4⟩ := List.append_inj h2 hlen
 have t1 := hp.tn
 have t2 := hq.tn
 have e1 : p.turn = q.turn := zLK (by omega) (by omega) h1
 have n6 := hv.n6
 have e2 : p.cells = q.cells := zI3 (P := fun c => 0 ≤ c ∧ c < 256) (fun a b ha hb => zLK ha hb) (fun c hc => by have := hp.cs c hc; omega) (fun c hc => by have := hq.cs c hc; omega) h3
 have e3 : p.h0 ++ p.h1 = q.h0 ++ q.h1 := zLo (fun x hx => by
  rcases List.mem_append.1 hx with s | s
  ·exact hp.c0 x s
  ·exact hp.c1 x s) (fun x hx => by
  rcases List.mem_append.1 hx with s | s
  ·exact hq.c0 x s
  ·exact hq.c1 x s) (by rw [List.length_append, List.length_append, hp.l0, hp.l1, hq.l0, hq.l1]) h4
 obtain ⟨e4, e5⟩ := List.append_inj e3 (by rw [hp.l0, hq.l0])
 unfold zBw
 rw [e1, e2, e4, e5]
end Go.Ax.Gm
namespace Go.Ax.Gm
open Go.Ax
def zF3 (w : Way) : List AV := [.int .i64 w.dx, .int .i64 w.dy, .int .i64 w.most, .int .i64 w.take]
abbrev zE1 (l : List Way) : Cells := zCk way0 4 zF3 l
def pcC (p : Pc) : List AV := [.int .u8 p.letter, .int .i64 p.hand, .int .i64 p.promote, .ro (zE1 p.ways) 0 p.ways.length]
abbrev zAi (l : List Pc) : Cells := zCk pc0 4 pcC l
def enC (x : En) : List AV := [.int .i64 x.kind, .int .i64 x.piece, .int .i64 x.count, .bool x.loses]
abbrev zE8 (l : List En) : Cells := zCk en0 4 enC l
abbrev z6 (l : List Int) : AV := .ro (.ints .i64 l) 0 l.length
def ruC (r : Rules) : List AV := [.str r.name, .int .i64 r.w, .int .i64 r.h, .ro (zAi r.pcs) 0 r.pcs.length, z6 r.start, .bool r.falls, .bool r.keeps, .ro (zE8 r.ends) 0 r.ends.length, .int .i64 r.blocked, .int .i64 r.quiet, .int .i64 r.rep]
abbrev ruA (r : Rules) : AV := .agg (ruC r)
def poC (p : Pos) : List AV := [z6 p.cells, z6 p.h0, z6 p.h1, .int .i64 p.turn, .int .i64 p.quiet]
abbrev poA (p : Pos) : AV := .agg (poC p)
abbrev zCD (l : List Pos) : Cells := zCk z7 5 poC l
def mvC (m : Mv) : List AV := [.int .i64 m.fr, .int .i64 m.to, .int .i64 m.pc]
abbrev mvA (m : Mv) : AV := .agg (mvC m)
abbrev zAy (l : List Mv) : Cells := zCk mv0 3 mvC l
abbrev zBC (l : List Mv) : AV := .ro (zAy l) 0 l.length
def zCu (x : Ent) : List AV := [.int .i64 x.1, .int .i64 x.2]
abbrev entA (x : Ent) : AV := .agg (zCu x)
/-- sizes within which numbers are machine words -/
structure Lens (r : Rules) : Prop where
 name : r.name.length ≤ 9223372036854775807
 pcs : r.pcs.length ≤ 9223372036854775807
 ways : ∀ p ∈ r.pcs, p.ways.length ≤ 9223372036854775807
 start : r.start.length ≤ 9223372036854775807
 ends : r.ends.length ≤ 9223372036854775807
end Go.Ax.Gm
namespace Go.Ax.Gm
open Go.Ax Go.Proofs Go.Sort Go.Shelf Go.RowKit
theorem ltOf_cmp : ltOf zIL = ltM := rfl
theorem swoM : SWO (ltOf zIL) := ⟨zMb, zN0, zMc⟩
def zEp (m : Mv) : List Value := [.int .i64 m.fr, .int .i64 m.to, .int .i64 m.pc]
instance : Inhabited Mv := ⟨mv0⟩
variable [Pins]
theorem zLc {w w' : World} {S : Nat → Prop} {σ : Nat → Option Blk} {H : zQ} (h : HR w S σ H) (hb : ∀ b, b < w.heap.size → w'.heap[b]? = w.heap[b]?) (hs : w.heap.size ≤ w'.heap.size) : HR w' S σ H := by
 have _p := ‹Pins›
 have hv : ∀ {σ1 : Nat → Option Blk} {x v}, VR w S σ1 x v → VR w' S σ1 x v := fun q => q.mono (fun _ q => q) (fun b q => hb b (h.small b q)) _ (fun _ _ q => q)
 refine ⟨fun k o ho => ?_, h.dist, fun b q => Nat.lt_of_lt_of_le (h.small b q) hs, h.dom⟩
 rcases h.live k o ho with q | ⟨b, C, cur, g1, g2, g3, g4, g5, g6, g7⟩
 ·exact .inl q
 ·refine .inr ⟨b, C, cur, g1, g2.mono (hb b g2.lt) hv, g3, g4, g5, g6, fun i j hi hj => ?_⟩
  obtain ⟨v, e1, e2, e3⟩ := g7 i j hi hj
  exact ⟨v, e1, hv e2, e3⟩
theorem zLi {c : Ctx} {w w' : World} {S : Nat → Prop} {σ : Nat → Option Blk} {H : zQ} (h : Kp c w S σ H) (hb : ∀ b, b < w.heap.size → w'.heap[b]? = w.heap[b]?) (hs : w.heap.size ≤ w'.heap.size) (ho : w'.os = w.os) (hp : w'.output = w.output) (ht : w'.tape = w.tape) : Kp c w' S σ H :=
 ⟨ho.trans h.os, hp.trans h.output, ht.trans h.tape, Nat.le_trans h.size hs, fun b h1 h2 => (hb b (Nat.lt_of_lt_of_le h1 h.size)).trans (h.block b h1 h2), h.S1, h.S2, h.fixed, h.fixlt, h.own⟩
theorem put_set {w : World} {b : Nat} {cur : Array Value} {ty : TypeId} {mk : Nat × Nat} (hb : w.heap[b]? = some (.cells cur ty mk)) (F : Array Value) (k : Nat) : (putRow id w b 0 F).heap[k]? = (w.setRow b (putCells id 0 F cur)).heap[k]? := by
 have _p := ‹Pins›
 by_cases hk : k = b
 ·subst hk
  rw [setRow_heap w k cur _ ty mk hb]
  simp [putRow, mapBlock, Array.getElem?_modify, hb, onCells]
 ·rw [setRow_other w b k _ hk]
  simp [putRow, mapBlock, Array.getElem?_modify, Ne.symm hk]
theorem at_mvs {w : World} {S : Nat → Prop} {σ : Nat → Option Blk} {l : List Mv} {i j : Nat} {v : Value} (hj : j < 3) (h : VR w S σ ((zAy l).at i j) v) : v = (zEp (l.getD i mv0))[j]! := by
 have _p := ‹Pins›
 match j, hj with
 | 0, _ => cases h; rfl
 | 1, _ => cases h; rfl
 | 2, _ => cases h; rfl
theorem vr_mvs {w : World} {S : Nat → Prop} {σ : Nat → Option Blk} {l : List Mv} {i j : Nat} (hj : j < 3) : VR w S σ ((zAy l).at i j) (zEp (l.getD i mv0))[j]! ∧ ((zEp (l.getD i mv0))[j]!).oneCell' = true := by
 have _p := ‹Pins›
 match j, hj with
 | 0, _ => exact ⟨.int _ _ _, rfl⟩
 | 1, _ => exact ⟨.int _ _ _, rfl⟩
 | 2, _ => exact ⟨.int _ _ _, rfl⟩
theorem zNO (l : List Mv) (i : Nat) : l.toArray[i]! = l.getD i mv0 := by
 have _p := ‹Pins›
 simp [List.getD, Array.getElem!_eq_getD, Array.getD]
 rcases Nat.lt_or_ge i l.length with h | h
 ·simp [h]
 ·simp [Nat.not_lt.2 h, h]; rfl
/-- slices.SortFunc of own moves -/
theorem zOO {P : Program} {ρ : Ren} (L : SlLaysF0.n6 P ρ) (aE : ∀ w, (isAgg (ρ.t 24)).run P w = .ok true w) (zE : ∀ w, (Go.sizeOf (ρ.t 24)).run P w = .ok 3 w) {g : FuncId} (eg : ∀ args w, (callFunc g args).run P w = .ok (.enter g args) w)
 (hf : ∃ fn, P.funcs[ρ.f 6]? = some fn ∧ (fn.name == "runtime.NumGoroutine") = false ∧ fn.body.isNone = false)
 (hc : ∀ (x y : Mv) (W : World), Calls P g #[.agg (zEp x).toArray, .agg (zEp y).toArray] W (fun e w' => e = .returned (.int .i64 (zIL x y)) ∧ ∃ q os', w' = Go.Sort.grow (W.drewN q) os'))
 {H : zQ} {h : Nat} {ty : TypeId} {l : List Mv} (hl : l.length < 4611686018427387904) (hh : H[h]? = some (some ⟨ty, zAy l⟩)) :
 zd P (ρ.f 6) [.sl h 0 l.length, .fn g []] H (fun x => x < H.length) (fun r H' => r = .tup [] ∧ H' = H.set h (some ⟨ty, zAy (l.mergeSort leM)⟩)) := by
 refine ⟨hf, fun w σ S vals hp hr hfx hv => ?_⟩
 obtain ⟨hv1, hv2⟩ := hv
 have a0 := hv2 0 (by show 0 < 2; decide)
 have a1 := hv2 1 (by show 1 < 2; decide)
 have hvs : vals = #[vals.getD 0 undef, vals.getD 1 undef] := by
  apply Array.ext
  ·simpa using hv1
  ·intro i h1 h2
   have : vals.size = 2 := hv1
   match i, h1, h2 with
   | 0, h1, _ => simp [Array.getD, h1]
   | 1, h1, _ => simp [Array.getD, h1]
   | i + 2, h1, _ => omega
 rw [hvs]
 generalize vals.getD 0 undef = v0 at a0
 generalize vals.getD 1 undef = v1 at a1
 have a0 : VR w S σ (.sl h 0 l.length) v0 := a0
 have a1 : VR w S σ (.fn g []) v1 := a1
 have hfun : v1 = .func (.func g) #[] #[] := by
  cases a1 with
  | fn _ _ _ vs hl hv =>
   have : vs = #[] := Array.eq_empty_of_size_eq_zero hl
   rw [this]
 subst hfun
 have hset : H.length = (H.set h (some ⟨ty, zAy (l.mergeSort leM)⟩)).length := by rw [List.length_set]
 have kp0 : ∀ (K : AV → zQ → Prop), Kp (zBu w S σ H (fun x => x < H.length) K hp) w S σ H := fun K => ⟨rfl, rfl, rfl, Nat.le_refl _, fun _ _ _ => rfl, fun _ h => h, fun _ h => .inl h, fun _ _ => rfl, fun _ h => h, fun h o b s C h1 h2 => .inl ⟨h, o, s, C, h1, h2⟩⟩
 rcases hr.live h _ hh with ⟨hn, hlen⟩ | ⟨b, C, cur, g1, g2, g3, g4, g5, g6, g7⟩
 ·have hlen : l.length = 0 := hlen
  obtain rfl : l = [] := List.length_eq_zero_iff.1 hlen
  have hv0 : ∃ p cap, v0 = .slice p 0 cap := by
   have a0 : VR w S σ (.sl h 0 0) v0 := a0
   cases a0 with
   | sl _ _ _ _ b s C cap hσ => exact ⟨_, _, rfl⟩
   | sl0 => exact ⟨_, _, rfl⟩
  obtain ⟨p, cap, rfl⟩ := hv0
  refine (AnyF.slices_SortFunc_none { L with } p cap (.func (.func g) #[] #[]) w).mono ?_
  rintro e w' ⟨rfl, rfl⟩
  have hsame : H.set h (some ⟨ty, zAy (([] : List Mv).mergeSort leM)⟩) = H := by
   rw [List.mergeSort_nil]
   apply List.ext_getElem?
   intro i
   rw [List.getElem?_set]
   split
   ·rename_i e; subst e; split
    ·rw [hh]
    ·rename_i hlt; rw [List.getElem?_eq_none (by omega)]
   ·rfl
  refine ⟨_, .tup [], σ, S, H, J, hr, .tup _ _ _ J (fun i hi => absurd hi (Nat.not_lt_zero _)), kp0 _, J, hsame.symm⟩
 ·have hlC : l.length ≤ C := g5
  have g3 : cur.size = C * 3 := g3
  have g1 : σ h = some (.at b 3 C) := g1
  have hv0 : ∃ cap, v0 = .slice (some ⟨b, 0, none⟩) l.length cap := by
   generalize l.length = n at a0
   cases a0 with
   | sl _ _ _ _ b' s C' cap hσ hle hcap =>
    rw [g1] at hσ
    injection hσ with hσ
    injection hσ with e1 e2 e3
    subst e1 e2
    exact ⟨cap, by simp⟩
   | sl0 _ _ hσ => rw [g1] at hσ; cases hσ
  obtain ⟨cap, rfl⟩ := hv0
  obtain ⟨mk, q1, q2, q3⟩ := g2.cells (by show 3 ≠ 0; decide)
  have q2 : mk.2 ≤ mk.1 ∨ cur.size ≤ mk.1 := q2
  have hcell : ∀ i j, i < l.length → j < 3 → cur[i * 3 + j]? = some (zEp (l.getD i mv0))[j]! := fun i j hi hj => by
   obtain ⟨v, e1, e2, _⟩ := g7 i j hi hj
   rw [at_mvs hj e2] at e1
   exact e1
  have hin : ∀ t, t < l.length * 3 → t / 3 < l.length ∧ t / 3 * 3 + t % 3 = t := fun t ht => by omega
  have hH : HoldsK zEp 3 w b 0 l.toArray := by
   intro t ht
   have ht' : t < l.length * 3 := by simpa using ht
   obtain ⟨h1, h2⟩ := hin t ht'
   have e := hcell (t / 3) (t % 3) h1 (Nat.mod_lt _ (by decide))
   rw [h2] at e
   have e2 : (flatK zEp 3 l.toArray)[t]! = (zEp (l.getD (t / 3) mv0))[t % 3]! := by
    rw [get_flatK _ _ _ _ (by simpa using ht'), zNO]
   have hlt : t < cur.size := by
    rw [g3]
    exact Nat.lt_of_lt_of_le ht' (Nat.mul_le_mul_right 3 hlC)
   constructor
   ·rw [Nat.zero_add, e2]
    show World.cell? w ⟨b, t, none⟩ = some _
    simp [World.cell?, q1, e]
   ·simp only [World.frozen?, q1, Nat.zero_add]
    rw [Bool.and_eq_false_iff, decide_eq_false_iff_not, decide_eq_false_iff_not]
    omega
  have hcmp : CmpLays P g #[] zEp 3 zIL b 0 l.toArray.size w := fun m os dk _ x y => by
   have := hc x y (sortWorldK zEp 3 w b 0 m dk os)
   simpa using this
  have hblk : b < w.heap.size := g2.lt
  have hsz : l.toArray.size = l.length := by simp
  have key := AnyQ.slices_SortFunc_total L 3 aE zE zEp (fun _ => rfl) (fun x v hv => by
   simp only [zEp, List.mem_cons, List.mem_nil_iff, or_false] at hv
   rcases hv with rfl | rfl | rfl <;> rfl) zIL swoM g #[] b 0 cap l.toArray w eg hcmp hH hblk (by rw [hsz]; exact hl) zNz
  rw [hsz] at key
  refine key.mono ?_
  rintro e w' ⟨rfl, n, os, rfl⟩
  rw [ltOf_cmp, show (l.toArray.toList.mergeSort fun x y => !(ltM y x)) = l.mergeSort leM by rw [List.toList_toArray]; exact sort_le l]
  generalize hm : l.mergeSort leM = m
  have hml : m.length = l.length := by rw [← hm, List.length_mergeSort]
  let cur' := putCells id 0 (flatK zEp 3 m.toArray) cur
  have hcs : cur'.size = C * 3 := by show (Array.mapIdx _ _).size = _; rw [Array.size_mapIdx]; exact g3
  let a : Act := { tmps := #[], defers := [] }
  have hrep : Rep (zBu w S σ H (fun x => x < H.length) (fun r H' => r = .tup [] ∧ H' = H.set h (some ⟨ty, zAy m⟩)) hp) w a σ S 0 [] H := ⟨hr, kp0 _, rfl, rfl, fun t v hl => by cases hl⟩
  have h2 := hrep.setRow hh g1 (c' := zAy m) (cur' := cur') q3 rfl (by show m.length ≤ C; omega) hcs (fun i j hi hj => by
   have hi : i < m.length := hi
   have hj : j < 3 := hj
   have hlt : i * 3 + j < cur.size := by omega
   refine ⟨(zEp (m.getD i mv0))[j]!, ?_, vr_mvs hj⟩
   have e1 : (i * 3 + j) / 3 = i := by omega
   have e2 : (i * 3 + j) % 3 = j := by omega
   show (putCells id 0 (flatK zEp 3 m.toArray) cur)[i * 3 + j]? = _
   simp only [putCells, Array.getElem?_mapIdx, Array.getElem?_eq_getElem hlt, Option.map_some]
   rw [if_pos ⟨Nat.zero_le _, by simp; omega⟩, Nat.sub_zero, get_flatK _ _ _ _ (by simp; omega), e1, e2, zNO]
   rfl)
  have hsame : ∀ k, k < (w.setRow b cur').heap.size → (sortWorldK zEp 3 w b 0 n m.toArray os).heap[k]? = (w.setRow b cur').heap[k]? := by
   intro k hk
   rw [setRow_size] at hk
   show (Go.Sort.grow (putRowK zEp 3 (Sort.ahead w n) b 0 m.toArray) os).heap[k]? = _
   rw [heap_grow_old _ _ (by show k < (putRow id _ b 0 _).heap.size; rw [Go.Sort.size_putRow]; exact hk)]
   exact put_set (w := w) q1 _ k
  have hle : (w.setRow b cur').heap.size ≤ (sortWorldK zEp 3 w b 0 n m.toArray os).heap.size := by
   rw [setRow_size]; exact size_sortWorldK_c zEp 3 w b 0 n m.toArray os
  exact ⟨_, .tup [], σ, S, _, J, zLc h2.hr hsame hle, .tup _ _ _ J (fun i hi => absurd hi (Nat.not_lt_zero _)), zLi h2.kp hsame hle J J J, J, J⟩
end Go.Ax.Gm
namespace Go.Ax
variable [Pins]
open Go.RowKit
theorem zq {L : List AV} (h : noRef.noRefs L = true) : zAG (.box L) := by
 have _p := ‹Pins›
 have key : ∀ (L : List AV) (j : Nat), noRef.noRefs L = true → j < L.length → noRef (L.getD j .any) = true := by
  intro L
  induction L with
  | nil => intro j _ hj; simp at hj
  | cons a L ih =>
   intro j h hj
   simp only [noRef.noRefs, Bool.and_eq_true] at h
   cases j with
   | zero => exact h.1
   | succ j => exact ih j h.2 (by simpa using hj)
 intro i j _ hj
 exact key L j h hj
theorem zB0 {P : Program} {fn : Func} {c : Ctx} {fr : Fr} {k : List It} {x : Code} {ty : TypeId} {l : List AV} (t : Nat) (L : Fr) (hn : noRef.noRefs l = true) (hk1 : zA2 fr ((t, .ptr 0 0 0) :: L)) (hk2 : zA2 ((t, .ptr 0 0 0) :: L) L) (hb : zB1 0 L = true) (hfx : c.fix = fun _ => False)
 (h : Ax P fn c (.code x k) ((t, .rp (.box l) 0 0) :: L) []) : Ax P fn c (.code x k) fr [some ⟨ty, .box l⟩] :=
 ax_fzOne (o := ⟨ty, .box l⟩) (v := .ptr 0 0 0) t L (.rp (.box l) 0 0) (zq hn) rfl rfl (fun o ho => by simp at ho; subst ho; exact Nat.zero_lt_one) rfl hk1 hk2 hb (fun h hh => by rw [hfx] at hh; exact hh) h
/-- A whole box is written. -/
theorem zb {P : Program} {fn : Func} {c : Ctx} {fr : Fr} {H : zQ} {k : List It} {all : Array Oper} {t : TypeId} {x y : Operand} {ty : TypeId} {pos : String} {after : Array Edge} {rest : List Oper} {h : Nat} {ty' : TypeId} {l0 L : List AV} (L' : List AV)
 (hx : ev fr x = some (.ptr h 0 0)) (hy : ev fr y = some (.agg L)) (hs : (P.info? t).map (·.size) = some l0.length) (hh : H[h]? = some (some ⟨ty', .box l0⟩)) (hl : L.length = l0.length) (hL : L = L') (hz : Nat.blt 0 l0.length = true)
 (hk : Ax P fn c (.ops false all rest k) fr (H.set h (some ⟨ty', .box L'⟩))) : Ax P fn c (.ops false all (⟨none, .store t x y, ty, pos, after, none⟩ :: rest) k) fr H := by
 subst hL
 have hz := Nat.le_of_ble_eq_true hz
 refine zDW (c' := .box L) (ob := ⟨ty', .box l0⟩) hx hy hs hh hl Nat.zero_lt_one J hl (fun i' j' hi hj => ?_) hk (by show l0.length ≠ 0; omega)
 obtain rfl : i' = 0 := Nat.lt_one_iff.1 hi
 rw [if_pos rfl]; rfl
/-- All objects are only read from now on. -/
theorem zGX {P : Program} {fn : Func} {c : Ctx} {fr : Fr} {k : List It} {x : Code} {H : zQ} (L : Fr) (hrl : ∀ (h : Nat) (o : AObj), H[h]? = some (some o) → zAG o.c) (hL : fzk H fr L) (hk2 : zA2 L L) (hb : zB1 0 L = true) (hfx : c.fix = fun _ => False)
 (hk : Ax P fn c (.code x k) L []) : Ax P fn c (.code x k) fr H := by
 refine zBE H (List.replicate H.length none) L (fun _ _ h => h) hrl List.length_replicate ?_ hL ?_
 ·intro h o' ho'
  rw [List.getElem?_replicate] at ho'
  split at ho' <;> cases ho'
 exact ax_cut [] (List.replicate H.length none) L J hk2 (fun h hh => by rw [hfx] at hh; exact hh.elim) J hb hk
/-- Two boxes are only read from now on. -/
theorem zCn {P : Program} {fn : Func} {c : Ctx} {fr : Fr} {k : List It} {x : Code} {ty ty' : TypeId} {l l' : List AV} (t t' : Nat) (L : Fr) (hn : noRef.noRefs l = true) (hn' : noRef.noRefs l' = true) (hl : zAY t fr = some (.ptr 0 0 0)) (hl' : zAY t' fr = some (.ptr 1 0 0)) (hk1 : zA2 fr L)
 (hk2 : zA2 ((t, .rp (.box l) 0 0) :: (t', .rp (.box l') 0 0) :: L) ((t, .rp (.box l) 0 0) :: (t', .rp (.box l') 0 0) :: L)) (hb : zB1 0 L = true) (hfx : c.fix = fun _ => False)
 (hk : Ax P fn c (.code x k) ((t, .rp (.box l) 0 0) :: (t', .rp (.box l') 0 0) :: L) []) : Ax P fn c (.code x k) fr [some ⟨ty, .box l⟩, some ⟨ty', .box l'⟩] := by
 refine zGX ((t, .rp (.box l) 0 0) :: (t', .rp (.box l') 0 0) :: L) (refl2 (zq hn) (zq hn')) ⟨⟨_, hl, .inr (.inr ⟨rfl, fun o ho => by cases ho; exact Nat.zero_lt_one⟩)⟩, ⟨_, hl', .inr (.inr ⟨rfl, fun o ho => by cases ho; exact Nat.zero_lt_one⟩)⟩, zCP hk1⟩ hk2 ?_ hfx hk
 simp only [zB1, Bool.and_eq_true]
 exact ⟨J, J, hb⟩
theorem zBK {n : Nat} : ∀ (h : Nat) (o : AObj), ([] : zQ)[h]? = some (some o) → zAo n o.c := fun h o ho => by have _p := ‹Pins›; simp at ho
theorem zBo {n : Nat} {x : AObj} {H : zQ} (h1 : zAo n x.c) (h2 : ∀ (h : Nat) (o : AObj), H[h]? = some (some o) → zAo n o.c) : ∀ (h : Nat) (o : AObj), (some x :: H)[h]? = some (some o) → zAo n o.c := fun h o ho => by
 have _p := ‹Pins›
 cases h with
 | zero => cases ho; exact h1
 | succ h => exact h2 h o (by simpa using ho)
theorem bl_n {n : Nat} {H : zQ} (h2 : ∀ (h : Nat) (o : AObj), H[h]? = some (some o) → zAo n o.c) : ∀ (h : Nat) (o : AObj), (none :: H)[h]? = some (some o) → zAo n o.c := fun h o ho => by
 have _p := ‹Pins›
 cases h with
 | zero => cases ho
 | succ h => exact h2 h o (by simpa using ho)
theorem zCd : ∀ (h : Nat) (o : AObj), ([] : zQ)[h]? = some (some o) → zAG o.c := fun h o ho => by have _p := ‹Pins›; simp at ho
theorem zB8 {x : AObj} {H : zQ} (h1 : zAG x.c) (h2 : ∀ (h : Nat) (o : AObj), H[h]? = some (some o) → zAG o.c) : ∀ (h : Nat) (o : AObj), (some x :: H)[h]? = some (some o) → zAG o.c := fun h o ho => by
 have _p := ‹Pins›
 cases h with
 | zero => cases ho; exact h1
 | succ h => exact h2 h o (by simpa using ho)
theorem zCc {H : zQ} (h2 : ∀ (h : Nat) (o : AObj), H[h]? = some (some o) → zAG o.c) : ∀ (h : Nat) (o : AObj), (none :: H)[h]? = some (some o) → zAG o.c := fun h o ho => by
 have _p := ‹Pins›
 cases h with
 | zero => cases ho
 | succ h => exact h2 h o (by simpa using ho)
/-- The last object, a box, is only read from now on. -/
theorem ax_fzL {P : Program} {fn : Func} {c : Ctx} {fr : Fr} {k : List It} {x : Code} {ty : TypeId} {l : List AV} (H0 : zQ) (t : Nat) (L : Fr) (hn : noRef.noRefs l = true) (ht : zAY t fr = some (.ptr H0.length 0 0)) (hk1 : zA2 fr L) (hk2 : zA2 ((t, .rp (.box l) 0 0) :: L) ((t, .rp (.box l) 0 0) :: L))
 (hH : ∀ (h : Nat) (o : AObj), H0[h]? = some (some o) → zAo H0.length o.c) (hb : zB1 H0.length L = true) (hfx : c.fix = fun _ => False)
 (hk : Ax P fn c (.code x k) ((t, .rp (.box l) 0 0) :: L) H0) : Ax P fn c (.code x k) fr (H0 ++ [some ⟨ty, .box l⟩]) := by
 have hat : ∀ (h : Nat) (o : AObj), (List.replicate H0.length none ++ [some (⟨ty, .box l⟩ : AObj)] : zQ)[h]? = some (some o) → h = H0.length ∧ o = ⟨ty, .box l⟩ := fun h o ho => by
  rcases Nat.lt_or_ge h H0.length with q | q
  ·rw [List.getElem?_append_left (by rw [List.length_replicate]; exact q), List.getElem?_replicate, if_pos q] at ho; cases ho
  ·rw [List.getElem?_append_right (by rw [List.length_replicate]; exact q), List.length_replicate] at ho
   cases e : h - H0.length with
   | zero => rw [e] at ho; cases ho; exact ⟨by omega, rfl⟩
   | succ n => rw [e] at ho; simp at ho
 refine zBE (List.replicate H0.length none ++ [some ⟨ty, .box l⟩]) (H0 ++ [none]) ((t, .rp (.box l) 0 0) :: L) (fun h o ho => ?_) (fun h o ho => ?_) (by simp) (fun h o' ho' => ?_) ⟨⟨.ptr H0.length 0 0, ht, .inr (.inr ⟨?_, ?_⟩)⟩, zCP hk1⟩ ?_
 ·obtain ⟨rfl, rfl⟩ := hat h o ho
  rw [List.getElem?_append_right (Nat.le_refl _), Nat.sub_self]; rfl
 ·obtain ⟨rfl, rfl⟩ := hat h o ho
  exact zq hn
 ·rcases Nat.lt_or_ge h H0.length with q | q
  ·rw [List.getElem?_append_left q] at ho'
   refine ⟨fun o ho => ?_, o', by rw [List.getElem?_append_left q]; exact ho', J, J, J, fun _ _ _ _ => .inl J⟩
   have := (hat h o ho).1; omega
  ·rw [List.getElem?_append_right q] at ho'
   cases e : h - H0.length with
   | zero => rw [e] at ho'; cases ho'
   | succ n => rw [e] at ho'; simp at ho'
 ·have e : (List.replicate H0.length none ++ [some (⟨ty, .box l⟩ : AObj)] : zQ)[H0.length]? = some (some ⟨ty, .box l⟩) := by
   rw [List.getElem?_append_right (by rw [List.length_replicate]; exact Nat.le_refl _), List.length_replicate, Nat.sub_self]; rfl
  show AV.rp (.box l) 0 0 = AV.frz _ (.ptr H0.length 0 0)
  simp only [AV.frz, e]
 ·intro o ho
  obtain ⟨_, rfl⟩ := hat _ o ho
  exact Nat.zero_lt_one
 exact zBh H0 [none] ((t, .rp (.box l) 0 0) :: L) J hk2 (fun h hh => by rw [hfx] at hh; exact hh.elim) hH (by simp only [zB1, Bool.and_eq_true]; exact ⟨J, hb⟩) hk
theorem zBX {α : Type} (a b : List α) (d : α) (i : Nat) : (a ++ b).getD i d = if i < a.length then a.getD i d else b.getD (i - a.length) d := by
 have _p := ‹Pins›
 simp only [List.getD]
 split
 ·rename_i h; rw [List.getElem?_append_left h]
 ·rename_i h; rw [List.getElem?_append_right (by omega)]
theorem rowG_cat {α : Type} (d : α) (n : Nat) (e : α → List AV) (a b : List α) (cx : Cells) (o m : Nat) (hm : m = b.length) (h0 : ∀ k j, k < m → j < n → cx.at (o + k) j = (e (b.getD k d)).getD j .any) :
 CEq (.fn (a.length + m) n (fun i j => bif Nat.blt i a.length then (zCk d n e a).at i j else cx.at (o + (i - a.length)) j)) (zCk d n e (a ++ b)) := by
 have _p := ‹Pins›
 subst hm
 refine ⟨by simp [zCk, Cells.len], J, fun i j hi hj => ?_⟩
 show (e ((a ++ b).getD i d)).getD j .any = bif Nat.blt i a.length then (e (a.getD i d)).getD j .any else cx.at (o + (i - a.length)) j
 have hi : i < a.length + b.length := hi
 rw [zBX]
 by_cases h : i < a.length
 ·rw [if_pos h, show Nat.blt i a.length = true from Nat.ble_eq_true_of_le h]; rfl
 ·have h2 : Nat.blt i a.length = false := by
   cases e : Nat.blt i a.length with
   | false => rfl
   | true => have : i + 1 ≤ a.length := Nat.le_of_ble_eq_true e
             omega
  rw [h2, if_neg h, cond_false, h0 _ _ (by omega) hj]
theorem zAs.set1 {t : TypeId} {a b : Cells} (H : zQ) (h : Nat) (hc : CEq a b) : zAs (H.set h (some ⟨t, a⟩)) (H.set h (some ⟨t, b⟩)) := by
 have _p := ‹Pins›
 refine ⟨by rw [List.length_set, List.length_set], fun i o' ho => ?_⟩
 by_cases he : h = i
 ·subst he
  have hlt : h < H.length := by
   rcases Nat.lt_or_ge h H.length with q | q
   ·exact q
   ·rw [List.getElem?_eq_none (by rw [List.length_set]; exact q)] at ho; cases ho
  rw [List.getElem?_set_self hlt] at ho
  cases ho
  exact ⟨⟨t, a⟩, by rw [List.getElem?_set_self hlt], J, hc⟩
 ·rw [List.getElem?_set_ne he] at ho
  exact ⟨o', by rw [List.getElem?_set_ne he]; exact ho, J, CEq.refl _⟩
/-- Rows of structs behind rows of structs. -/
theorem zBV {P : Program} {fn : Func} {c : Ctx} {fr : Fr} {H : zQ} {kk : List It} {α : Type} {d0 : α} {n0 : Nat} {e0 : α → List AV} {ls : List α} (b : List α) {all : Array Oper} {d : Nat} {t e : TypeId} {x y : Operand} {ty : TypeId} {pos : String} {after : Array Edge} {rest : List Oper} {inf : TypeInfo} {z : Value} {h n : Nat} {v : AV} {cx : Cells} {i m : Nat}
 (ht : P.underlying t = some (.slice e)) (hi : P.info? e = some inf) (hz : inf.zero = some z) (hszz : inf.size = n0) (hzs : z.cells.size = n0) (hpos : Nat.blt 0 n0 = true)
 (hx : ev fr x = some (.sl h 0 n)) (hh : H[h]? = some (some ⟨e, zCk d0 n0 e0 ls⟩)) (hn : ls.length = n) (hy : ev fr y = some v) (hs : zL3 H v = some (cx, i, m)) (hsz : cx.sz = n0) (hm : m = b.length) (hin : i + m ≤ cx.len) (hcx : ∀ k j, k < m → j < n0 → cx.at (i + k) j = (e0 (b.getD k d0)).getD j .any)
 (hb : (n + m) * inf.bytes ≤ 140737488355328 ∧ n + m ≤ 9223372036854775807) (hne : ∀ a j k, j < n0 → ((e0 a).getD j .any).forget k = (e0 a).getD j .any) (hfix : ¬ c.fix h)
 (hk : Ax P fn c (.ops false all rest kk) ((d, .sl h 0 (n + m)) :: zCo h fr) ((zBj h H).set h (some ⟨e, zCk d0 n0 e0 (ls ++ b)⟩))) :
 Ax P fn c (.ops false all (⟨some d, .call { callee := .builtin .append, args := #[x, y], argTypes := #[t, t] }, ty, pos, after, none⟩ :: rest) kk) fr H := by
 have happ : (zCk d0 n0 e0 ls).app cx i m = some (.fn (ls.length + m) n0 (fun i' j => bif Nat.blt i' ls.length then (zCk d0 n0 e0 ls).at i' j else cx.at (i + (i' - ls.length)) j)) := by
  show (bif Nat.beq n0 cx.sz then some (Cells.fn (ls.length + m) n0 _) else none) = _
  rw [hsz, Nat.beq_refl]; rfl
 have hc := rowG_cat d0 n0 e0 ls b cx i m hm hcx
 refine zAj (o := ⟨e, zCk d0 n0 e0 ls⟩) ht hi hz hszz hzs hpos hx hh J hn hy hs hin happ hb (fun i' j' hi' hj' => ?_) hfix ?_
 ·rw [← hc.2.2 i' j' hi' hj']
  exact hne _ _ _ hj'
 ·exact zBJ _ (zAs.set1 _ _ hc) hk
/-- What is made is only read. -/
theorem zl.of_fcall {P : Program} {f : FuncId} {args : List AV} {o : AObj} {n : Nat} (h : zHy P f args (fun N => .sl N 0 n) o) (hrl : zAG o.c) (hn : o.c.len = n) (ha : noRef.noRefs args = true) : zl P f args (.ro o.c 0 n) := by
 refine zd.value (h []) (fun x hx => Nat.not_lt_zero _ hx) ha ?_
 rintro r0 H0 ⟨rfl, rfl⟩
 refine ⟨J, fun o' ho => ?_, fun k o' ho => ?_⟩
 ·have : o = o' := by simpa using ho
  subst this; show 0 + n ≤ o.c.len; omega
 ·exact zEN hrl k o' ho
end Go.Ax
namespace Go.Ax
variable [Pins]
open Go.RowKit
theorem zd.cutR {P : Program} {f : FuncId} {args : List AV} {H : zQ} {fix : Nat → Prop} {K K' : AV → zQ → Prop} (hc : zd P f args H fix K)
 (hK : ∀ r H', K r H' → ∃ H0 H1, H' = H0 ++ H1 ∧ (∀ h, fix h → h < H0.length) ∧ (∀ (h : Nat) (o : AObj), H0[h]? = some (some o) → zAo H0.length o.c) ∧ zCb H0.length r = true ∧ K' r H0) : zd P f args H fix K' := by
 refine ⟨hc.1, fun w σ S vals h0 h1 h2 h3 => Calls.mono (hc.2 w σ S vals h0 h1 h2 h3) fun e w' he => ?_⟩
 obtain ⟨v, r, σ', S', H', g1, g2, g3, g4, g5⟩ := he
 obtain ⟨H0, H1, rfl, hf, hbH, hbr, hk⟩ := hK _ _ g5
 have hs : ∀ h, h < H0.length → zIM H0.length σ' h = σ' h := fun h hl => if_pos hl
 have hget : ∀ {h : Nat} {o : AObj}, H0[h]? = some (some o) → h < H0.length ∧ (H0 ++ H1)[h]? = some (some o) := by
  intro h o ho
  have hl : h < H0.length := (List.getElem?_eq_some_iff.1 ho).1
  exact ⟨hl, by rw [List.getElem?_append_left hl]; exact ho⟩
 refine ⟨v, r, zIM H0.length σ', S', H0, g1, ⟨fun h o ho => ?_, fun h h' o o' b s C s' C' q1 q2 e1 e2 => ?_, g2.small, fun h hl => if_neg (by omega)⟩, g3.cutv hbr _ hs, ⟨g4.os, g4.output, g4.tape, g4.size, g4.block, g4.S1, g4.S2, fun h hh => by rw [hs h (hf h hh)]; exact g4.fixed h hh, hf, fun h o b s C q e => ?_⟩, hk⟩
 ·obtain ⟨hl, ho'⟩ := hget ho
  rw [hs h hl]
  rcases g2.live h o ho' with g | ⟨b, C, cur, k1, k2, k3, k4, k5, k6, k7⟩
  ·exact .inl g
  ·refine .inr ⟨b, C, cur, k1, k2.cutv (fun ks vs hc => (hbH h o ho).mp hc) hs, k3, k4, k5, k6, fun i j hi hj => ?_⟩
   obtain ⟨v, m1, m2, m3⟩ := k7 i j hi hj
   exact ⟨v, m1, m2.cutv ((hbH h o ho).row i j hi hj) _ hs, m3⟩
 ·obtain ⟨hl, ho⟩ := hget q1
  obtain ⟨hl', ho'⟩ := hget q2
  rw [hs h hl] at e1
  rw [hs h' hl'] at e2
  exact g2.dist h h' o o' b s C s' C' ho ho' e1 e2
 ·obtain ⟨hl, ho⟩ := hget q
  rw [hs h hl] at e
  exact g4.own h o b s C ho e
/-- A call that reads the own memory and leaves it as it is. -/
theorem px_c {P : Program} {fn : Func} {c : Ctx} {H : zQ} {all : Array Oper} {K0 : Fr} {i : Nat} {r : List Nat} {st : Steps} {G : Steps → Prop} {d : Nat} {g : Operand} {args : List Operand} {ats : Array TypeId} {ty : TypeId} {pos : String} {after : Array Edge} {f : FuncId} {caps ags ags' : List AV} {v : AV} {K : Fr} (hi : all[i]? = some ⟨some d, .call { callee := .value g, args := args.toArray, argTypes := ats }, ty, pos, after, none⟩)
 (hK : zEs st K0 ⟨some d, .call { callee := .value g, args := args.toArray, argTypes := ats }, ty, pos, after, none⟩ = K) (hg : ev K g = some (.fn f caps)) (ha : evs K args = some ags) (has : ags ++ caps = ags') (hcall : zd P f ags' H (fun h => h < H.length) (fun r' H' => r' = v ∧ H' = H))
 (h : zDj P fn c H all K0 r ((i, d, v) :: st) G) : zDj P fn c H all K0 (i :: r) st G :=
 zIV hi (hK ▸ fun k fr hk h2 => zCA (zEq hk hg) (zHg hk ha) has hcall (fun _ h => h) (fun _ h => h) (fun r H' e => by obtain ⟨rfl, rfl⟩ := e; exact h2)) h
end Go.Ax
namespace Go.Ax.Gm
open Go.Ax Go.Proofs Go.Sort Go.Shelf Go.RowKit Go.Lib
variable [Pins]
theorem put_setE {α : Type} [Inhabited α] (enc : α → Value) {w : World} {b : Nat} {cur : Array Value} {ty : TypeId} {mk : Nat × Nat} (hb : w.heap[b]? = some (.cells cur ty mk)) (F : Array α) (k : Nat) : (putRow enc w b 0 F).heap[k]? = (w.setRow b (putCells enc 0 F cur)).heap[k]? := by
 have _p := ‹Pins›
 by_cases hk : k = b
 ·subst hk
  rw [setRow_heap w k cur _ ty mk hb]
  simp [putRow, mapBlock, Array.getElem?_modify, hb, onCells]
 ·rw [setRow_other w b k _ hk]
  simp [putRow, mapBlock, Array.getElem?_modify, Ne.symm hk]
/-- formatBase10 into the first cells of an own row of bytes -/
theorem fmt_call {P : Program} {ρ : Ren} (L : Lays.n285 P ρ) (hf : ∃ fn, P.funcs[ρ.f 285]? = some fn ∧ (fn.name == "runtime.NumGoroutine") = false ∧ fn.body.isNone = false)
 {H : zQ} {h : Nat} {ty : TypeId} {s : List UInt8} {u : Nat} (hu64 : u < 18446744073709551616) (hn : nDigits u ≤ s.length) (hh : H[h]? = some (some ⟨ty, .ints .u8 (zAB s)⟩)) :
 zd P (ρ.f 285) [.sl h 0 (nDigits u), .int .u64 u] H (fun x => x < H.length) (fun r H' => r = .tup [] ∧ H' = H.set h (some ⟨ty, .ints .u8 (zAB (decDigits u ++ s.drop (nDigits u)))⟩)) := by
 refine ⟨hf, fun w σ S vals hp hr hfx hv => ?_⟩
 obtain ⟨hv1, hv2⟩ := hv
 have a0 := hv2 0 (by show 0 < 2; decide)
 have a1 := hv2 1 (by show 1 < 2; decide)
 have hvs : vals = #[vals.getD 0 undef, vals.getD 1 undef] := by
  apply Array.ext
  ·simpa using hv1
  ·intro i h1 h2
   have : vals.size = 2 := hv1
   match i, h1, h2 with
   | 0, h1, _ => simp [Array.getD, h1]
   | 1, h1, _ => simp [Array.getD, h1]
   | i + 2, h1, _ => omega
 rw [hvs]
 generalize vals.getD 0 undef = v0 at a0
 generalize vals.getD 1 undef = v1 at a1
 have a0 : VR w S σ (.sl h 0 (nDigits u)) v0 := a0
 have a1 : VR w S σ (.int .u64 u) v1 := a1
 have hint : v1 = .int .u64 u := by cases a1; rfl
 subst hint
 have hpos := nDigits_pos u
 have hdl : (decDigits u).length = nDigits u := decDigits_length u
 have hbl : (zAB s).length = s.length := List.length_map _
 have kp0 : ∀ (K : AV → zQ → Prop), Kp (zBu w S σ H (fun x => x < H.length) K hp) w S σ H := fun K => ⟨rfl, rfl, rfl, Nat.le_refl _, fun _ _ _ => rfl, fun _ h => h, fun _ h => .inl h, fun _ _ => rfl, fun _ h => h, fun h o b s C h1 h2 => .inl ⟨h, o, s, C, h1, h2⟩⟩
 rcases hr.live h _ hh with ⟨hn0, hlen⟩ | ⟨b, C, cur, g1, g2, g3, g4, g5, g6, g7⟩
 ·have hlen : (zAB s).length = 0 := hlen
  omega
 ·have hlC : (zAB s).length ≤ C := g5
  have g3 : cur.size = C * 1 := g3
  have g1 : σ h = some (.at b 1 C) := g1
  have hv0 : ∃ cap, v0 = .slice (some ⟨b, 0, none⟩) (nDigits u) cap := by
   generalize nDigits u = n at a0 hpos
   cases a0 with
   | sl _ _ _ _ b' s C' cap hσ hle hcap =>
    rw [g1] at hσ
    injection hσ with hσ
    injection hσ with e1 e2 e3
    subst e1 e2
    exact ⟨cap, by simp⟩
   | sl0 _ _ hσ => rw [g1] at hσ; cases hσ
  obtain ⟨cap, rfl⟩ := hv0
  obtain ⟨mk, q1, q2, q3⟩ := g2.cells (by show 1 ≠ 0; decide)
  have q2 : mk.2 ≤ mk.1 ∨ cur.size ≤ mk.1 := q2
  have hcell : ∀ i, i < s.length → cur[i]? = some (.int .u8 ((s.getD i 0).toNat : Nat)) := fun i hi => by
   obtain ⟨v, e1, e2, _⟩ := g7 i 0 (by show i < (zAB s).length; omega) (by show 0 < 1; decide)
   have e2 : VR w S σ (.int .u8 ((zAB s).getD i 0)) v := e2
   rw [zD6] at e2
   have e1 : cur[i * 1 + 0]? = some v := e1
   rw [Nat.mul_one, Nat.add_zero] at e1
   rw [e1]
   cases e2; rfl
  let d : Array UInt8 := (s.take (nDigits u)).toArray
  have hds : d.size = nDigits u := by show (s.take (nDigits u)).toArray.size = _; rw [List.size_toArray, List.length_take]; omega
  have hdg : ∀ i, i < nDigits u → d[i]! = s.getD i 0 := fun i hi => by
   rw [getElem!_pos d i (by omega)]
   show (s.take (nDigits u)).toArray[i] = _
   simp [List.getD, List.getElem?_eq_getElem (show i < s.length by omega)]
  have hH : Holds (fun (b : UInt8) => Value.int .u8 (b.toNat : Int)) w b 0 d := by
   intro i hi
   rw [hds] at hi
   have hlt : i < cur.size := by omega
   constructor
   ·rw [Nat.zero_add, hdg i hi]
    show World.cell? w ⟨b, i, none⟩ = some _
    simp [World.cell?, q1, hcell i (by omega)]
   ·simp only [World.frozen?, q1, Nat.zero_add]
    rw [Bool.and_eq_false_iff, decide_eq_false_iff_not, decide_eq_false_iff_not]
    omega
  have key := Any.internal_strconv_formatBase10 L b 0 cap u d w hH (by rw [hds]; exact lt_pow_nDigits u) hu64 (by have := nDigits_le20 u hu64; omega)
  rw [hds] at key
  refine key.mono ?_
  rintro e w' ⟨rfl, n, v', dk, rfl, hF⟩
  have hks : dk.size = nDigits u := hF.size
  let cur' := putCells (fun (b : UInt8) => Value.int .u8 (b.toNat : Int)) 0 dk cur
  have hcs : cur'.size = C * 1 := by show (Array.mapIdx _ _).size = _; rw [Array.size_mapIdx]; exact g3
  have hnl : (zAB (decDigits u ++ s.drop (nDigits u))).length = s.length := by
   show ((decDigits u ++ s.drop (nDigits u)).map _).length = _
   rw [List.length_map, List.length_append, List.length_drop, hdl]; omega
  let a : Act := { tmps := #[], defers := [] }
  have hrep : Rep (zBu w S σ H (fun x => x < H.length) (fun r H' => r = .tup [] ∧ H' = H.set h (some ⟨ty, .ints .u8 (zAB (decDigits u ++ s.drop (nDigits u)))⟩)) hp) w a σ S 0 [] H := ⟨hr, kp0 _, rfl, rfl, fun t v hl => by cases hl⟩
  have h2 := hrep.setRow hh g1 (c' := .ints .u8 (zAB (decDigits u ++ s.drop (nDigits u)))) (cur' := cur') q3 rfl (by show (zAB (decDigits u ++ s.drop (nDigits u))).length ≤ C; omega) hcs (fun i j hi hj => by
   have hi : i < (zAB (decDigits u ++ s.drop (nDigits u))).length := hi
   have hj : j < 1 := hj
   have hj0 : j = 0 := by omega
   subst hj0
   have hi3 : i < s.length := by omega
   refine ⟨.int .u8 ((zAB (decDigits u ++ s.drop (nDigits u))).getD i 0), ?_, .int _ _ _, J⟩
   show (putCells (fun (b : UInt8) => Value.int .u8 (b.toNat : Int)) 0 dk cur)[i * 1 + 0]? = _
   rw [Nat.mul_one, Nat.add_zero]
   simp only [putCells, Array.getElem?_mapIdx, hcell i hi3, Option.map_some, Nat.sub_zero, Nat.zero_add, Nat.zero_le, true_and, hks]
   rw [zD6, zBX, hdl]
   by_cases hi2 : i < nDigits u
   ·rw [if_pos hi2, if_pos hi2, ← row_is_numeral hF i (by omega)]
    simp [List.getD, List.getElem?_eq_getElem (show i < (decDigits u).length by omega)]
   ·rw [if_neg hi2, if_neg hi2]
    congr 3
    simp only [List.getD, List.getElem?_drop]
    congr 3; omega)
  have hsame : ∀ k, k < (w.setRow b cur').heap.size → ((putRow (fun (b : UInt8) => Value.int .u8 (b.toNat : Int)) w b 0 dk).drewN n).heap[k]? = (w.setRow b cur').heap[k]? := by
   intro k hk
   show (putRow _ w b 0 dk).heap[k]? = _
   exact put_setE _ q1 _ k
  have hle : (w.setRow b cur').heap.size ≤ ((putRow (fun (b : UInt8) => Value.int .u8 (b.toNat : Int)) w b 0 dk).drewN n).heap.size := by
   rw [setRow_size]
   show w.heap.size ≤ (putRow _ w b 0 dk).heap.size
   rw [Go.Sort.size_putRow]; exact Nat.le_refl _
  exact ⟨_, .tup [], σ, S, _, J, zLc h2.hr hsame hle, .tup _ _ _ J (fun i hi => absurd hi (Nat.not_lt_zero _)), zLi h2.kp hsame hle J J J, J, J⟩
theorem Kp.back {c : Ctx} {w w' : World} {S S' : Nat → Prop} {σ σ' : Nat → Option Blk} {H H' : zQ} {fix : Nat → Prop} {K : AV → zQ → Prop} {hp : zDG w S σ H} (k1 : Kp c w S σ H) (k2 : Kp (zBu w S σ H fix K hp) w' S' σ' H') (hfx : ∀ h, ¬ c.fix h) : Kp c w' S' σ' H' := by
 have hs1 := k1.size
 refine ⟨k2.os.trans k1.os, k2.output.trans k1.output, k2.tape.trans k1.tape, Nat.le_trans k1.size k2.size, fun b hb ho => ?_, fun b hb => k2.S1 b (k1.S1 b hb), fun b hb => ?_, fun h hf => absurd hf (hfx h), fun h hf => absurd hf (hfx h), fun h o b s C h1 h2 => ?_⟩
 ·rw [← k1.block b hb ho]
  refine k2.block b (by simp only [zBu]; omega) ?_
  rintro ⟨h, o, s, C, h1, h2⟩
  rcases k1.own h o b s C h1 h2 with h3 | h3
  ·exact ho h3
  ·omega
 ·rcases k2.S2 b hb with h1 | h1 | h1
  ·exact k1.S2 b h1
  ·obtain ⟨h, o, s, C, g1, g2⟩ := h1
   rcases k1.own h o b s C g1 g2 with g3 | g3
   ·exact .inr (.inl g3)
   ·exact .inr (.inr g3)
  ·right; right; simp only [zBu] at h1; omega
 ·rcases k2.own h o b s C h1 h2 with ⟨h', o', s', C', g1, g2⟩ | h3
  ·exact k1.own h' o' b s' C' g1 g2
  ·right; simp only [zBu] at h3; omega
section
variable {ind : Bool} {P : Program} {fn : Func} {c : Ctx} {fr : Fr} {H : zQ} {k : List It}
/-- A new array of bytes, as a row whose room is known from now on; what follows ends with a return. -/
theorem zMM {id d n : Nat} {t : TypeId} {ty : TypeId} {pos : String} {after : Array Edge} {x y : Code} {inf : TypeInfo} {z : Value} (hd : Nat.blt d fn.ntmps = true)
 (hi : P.info? t = some inf) (hz : inf.zero = some z) (hzs : z.cells = Array.replicate n (.int .u8 0)) (hn : n ≤ maxLen) (hfx : ∀ h, ¬ c.fix h)
 (hk : ∀ c' b, c'.σ0 H.length = some (.at b 1 n) → c'.R = c.R → c'.fix = (fun h => h = H.length) → Ax P fn c' (.code x [.inv (fun _ _ => False)]) ((d, .ptr H.length 0 0) :: fr) (H ++ [some ⟨t, .ints .u8 (zAB (List.replicate n 0))⟩]))
 : Ax P fn c (.code (.seq (.region id #[⟨some d, .alloc t, ty, pos, after, none⟩] false) x) [.code y]) fr H := by
 intro w a σ S hr
 refine wp_seq (wp_region_list ?_)
 have hl : (zAB (List.replicate n 0)).length = n := by unfold zAB; rw [List.length_map, List.length_replicate]
 have hrun : (execOp a.eval ⟨some d, .alloc t, ty, pos, after, none⟩).run P w = .ok (.value (.pointer (some ⟨w.heap.size, 0, none⟩))) (w.alloc (.cells z.cells t (0, 0))) := by
  simp [execOp, Instr.alloc, newVar, newRow, zeroValue, typeInfo, hi, hz]
 have h1 := hr.alloc (o := ⟨t, .ints .u8 (zAB (List.replicate n 0))⟩) (C := n) (cur := z.cells) (by show (zAB (List.replicate n 0)).length ≤ n; omega) hn (by rw [hzs, Array.size_replicate]; exact (Nat.mul_one _).symm) (fun i j hi hj => by
  have hi : i < (zAB (List.replicate n 0)).length := hi
  have hj : j < 1 := hj
  refine ⟨.int .u8 0, ?_, ?_, J⟩
  ·show z.cells[i * 1 + j]? = _
   rw [hzs, Array.getElem?_replicate, if_pos (by omega)]
  ·show VR w S σ (.int .u8 ((zAB (List.replicate n 0)).getD i 0)) _
   rw [zD6, show (List.replicate n (0 : UInt8)).getD i 0 = 0 by simp [List.getD, List.getElem?_replicate]; split <;> rfl]
   exact .int _ _ _)
 have hp : VR (w.alloc (.cells z.cells t (0, 0))) S (upσ σ H.length (.at w.heap.size 1 n)) (.ptr H.length 0 0) (.pointer (some ⟨w.heap.size, 0, none⟩)) := by
  have := VR.ptr (w := w.alloc (.cells z.cells t (0, 0))) (S := S) (upσ σ H.length (.at w.heap.size 1 n)) H.length 0 0 w.heap.size 1 n (by simp [upσ])
  simpa using this
 have hr1 := h1.put hp (Nat.le_of_ble_eq_true hd)
 refine wpList_step (fun K hK => ?_)
 simp only [Region.wanted, if_true]
 unfold Oper.wp
 rw [hrun]
 refine hK _ _ (wpList_nil ?_)
 have hup : zDG (w.alloc (.cells z.cells t (0, 0))) S (upσ σ H.length (.at w.heap.size 1 n)) (H ++ [some (AObj.mk t (.ints .u8 (zAB (List.replicate n 0))))]) := hr1.pinUp
 generalize hW : w.alloc (.cells z.cells t (0, 0)) = W1 at hr1 hup ⊢
 have hgo := hk (zBu W1 S (upσ σ H.length (.at w.heap.size 1 n)) (H ++ [some (AObj.mk t (.ints .u8 (zAB (List.replicate n 0))))]) (fun h => h = H.length) c.R hup) w.heap.size (by simp [zBu, upσ]) rfl rfl W1 _ _ S
  ⟨hr1.hr, ⟨rfl, rfl, rfl, Nat.le_refl _, fun _ _ _ => rfl, fun _ h => h, fun _ h => .inl h, fun _ _ => rfl, fun h e => by rw [List.length_append]; show h < H.length + 1; have : h = H.length := e; omega, fun h o b s C h1 h2 => .inl ⟨h, o, s, C, h1, h2⟩⟩, hr1.defers, hr1.size, hr1.slots⟩
 refine wp_mono hgo ?_
 rintro e a' w' ⟨σ', S', fr', H', hr', hpo⟩
 have hback : Rep c w' a' σ' S' fn.ntmps fr' H' := ⟨hr'.hr, Kp.back hr1.kp hr'.kp hfx, hr'.defers, hr'.size, hr'.slots⟩
 cases e with
 | normal => exact absurd hpo (fun h => h)
 | ret => exact ⟨σ', S', fr', H', hback, hpo⟩
 | exit id => exact absurd hpo.1 (by rintro (h | h) <;> cases h)
 | goto l => exact absurd hpo.1 (by rintro (h | h) <;> cases h)
 | panic l => exact absurd hpo.1 (by rintro (h | h) <;> cases h)
 | outgrown => exact absurd hpo.1 (by rintro (h | h) <;> cases h)
/-- a[:m] of such an array -/
theorem zIB {d : Option Nat} {ty : TypeId} {pos : String} {after : Array Edge} {g : Option (Nat × Bool)} {x x2 : Operand} {t e : TypeId} {h' n m b : Nat} {k2 : IntKind} (ht : P.underlying t = some (.array n e)) (hx : ev fr x = some (.ptr h' 0 0)) (hs : (P.info? e).map (·.size) = some 1) (h2 : ev fr x2 = some (.int k2 (m : Nat))) (hm : m ≤ n) (hcap : c.σ0 h' = some (.at b 1 n)) (hfx : c.fix h') :
 QOp ind P fn c fr H ⟨d, .slice t x none (some x2) none, ty, pos, after, g⟩ (.sl h' 0 m) := by
 intro w a σ S hr
 have hxv := hr.evAt hx
 have h2v := hr.evAt h2
 have hσ0 : σ h' = some (.at b 1 n) := by rw [hr.kp.fixed h' hfx]; exact hcap
 generalize hz : a.eval x = z at hxv
 generalize hz2 : a.eval x2 = z2 at h2v
 cases hxv with
 | ptr _ _ _ _ b' s C hσ =>
  rw [hσ0] at hσ
  injection hσ with hσ
  injection hσ with e1 e2 e3
  subst e1 e2 e3
  cases h2v
  refine ⟨.slice (some ⟨b, 0, none⟩) m n, by simpa using VR.sl (w := w) (S := S) σ h' 0 m b 1 n n hσ0 hm (by omega), fun w' _ => ?_⟩
  have hal : P.arrayLen t = n := by simp [Program.arrayLen, ht]
  have hel : P.elem t = e := by simp [Program.elem, ht]
  have := run_sliceAt_array_h (P := P) w' t ⟨b, 0, none⟩ (by rw [hal, hel]; exact ht) k2 (m : Int) (by omega) (by rw [hal]; omega)
  simp [execOp, hz, hz2, this, hal, hel, zEg hs, slicedAt, Addr.add_lit]
end
end Go.Ax.Gm
namespace Go.Ax
variable [Pins]
open Go.RowKit
section
variable {ind : Bool} {P : Program} {fn : Func} {c : Ctx} {fr : Fr} {H : zQ} {k : List It}
variable {d : Option Nat} {ty : TypeId} {pos : String} {after : Array Edge} {g : Option (Nat × Bool)}
end
end Go.Ax
namespace Go.Ax
variable [Pins]
open Go.RowKit
section
variable {P : Program} {fn : Func} {c : Ctx} {fr : Fr} {H : zQ} {k : List It}
end
end Go.Ax
namespace Go.Ax
variable [Pins]
open Go.RowKit
section
variable {ind : Bool} {P : Program} {fn : Func} {c : Ctx} {fr : Fr} {H : zQ} {k : List It}
variable {d : Option Nat} {ty : TypeId} {pos : String} {after : Array Edge} {g : Option (Nat × Bool)}
/-- One operation whose value nobody takes. -/
theorem ax_w0v {all : Array Oper} {op : Op} {ty : TypeId} {pos : String} {after : Array Edge} {rest : List Oper} {fr' : Fr} {H' : zQ}
 (hop : ∀ w a σ S, Rep c w a σ S fn.ntmps fr H → ∃ x w' σ' S', (execOp a.eval ⟨none, op, ty, pos, after, none⟩).run P w = .ok (.value x) w' ∧ Rep c w' a σ' S' fn.ntmps fr' H')
 (h : Ax P fn c (.ops false all rest k) fr' H') : Ax P fn c (.ops false all (⟨none, op, ty, pos, after, none⟩ :: rest) k) fr H := by
 intro hd w a σ S hr
 obtain ⟨_, hd2⟩ := zBe hd
 obtain ⟨x, w', σ', S', hrun, hr'⟩ := hop w a σ S hr
 refine wpList_step (fun K hK => ?_)
 simp only [Region.wanted, if_true]
 unfold Oper.wp
 rw [hrun]
 exact hK _ _ (h hd2 w' _ σ' S' hr')
end
end Go.Ax
namespace Go.Ax
variable [Pins]
open Go.RowKit
theorem zJk {zc : Array Value} {m t : Nat} (h : t < m * zc.size) : (Builtin.zeroCells zc m).toList[t]? = some zc[t % zc.size]! := by
 have _p := ‹Pins›
 unfold Builtin.zeroCells
 simp [h]
theorem zJo {P : Program} {fn : Func} {c : Ctx} {fr : Fr} {H : zQ} {k : List It} {all : Array Oper} {t e : TypeId} {x : Operand} {ty : TypeId} {pos : String} {after : Array Edge} {rest : List Oper} {h i m s : Nat} {ob : AObj} {inf : TypeInfo} {z : Value} {zs : List AV} {c' : Cells}
 (ht : P.underlying t = some (.slice e)) (hi : P.info? e = some inf) (hz : inf.zero = some z) (hzs : z.cells.size = s) (hos : ob.c.sz = s) (hs0 : Nat.blt 0 s = true) (hzo : (z.cells.toList.all fun v => v.oneCell') = true) (hzv : ∀ j, j < s → ∀ (w : World) (S : Nat → Prop) (σ : Nat → Option Blk), VR w S σ (zs.getD j .any) z.cells[j]!)
 (hx : ev fr x = some (.sl h i m)) (hm : 0 < m) (hh : H[h]? = some (some ob)) (him : i + m ≤ ob.c.len) (l1 : c'.len = ob.c.len) (l2 : c'.sz = ob.c.sz) (hat : ∀ i' j', i' < ob.c.len → j' < ob.c.sz → c'.at i' j' = if i ≤ i' ∧ i' < i + m then zs.getD j' .any else ob.c.at i' j')
 (hk : Ax P fn c (.ops false all rest k) fr (H.set h (some ⟨ob.ty, c'⟩))) : Ax P fn c (.ops false all (⟨none, .call { callee := .builtin .clear, args := #[x], argTypes := #[t] }, ty, pos, after, none⟩ :: rest) k) fr H := by
 refine ax_w0v (fun w a σ S hr => ?_) hk
 have hs0 := Nat.le_of_ble_eq_true hs0
 have h1 := hr.evAt hx
 generalize hzx : a.eval x = vx at h1
 cases h1 with
 | sl0 => exact absurd hm (Nat.lt_irrefl 0)
 | sl _ _ _ _ b s' C cap hσ hlen hcap =>
  obtain ⟨hs', cur, g1, g2, g3, g4, g5, g6⟩ := hr.obj hh hσ
  rw [hos] at hs'
  subst hs'
  obtain ⟨mk, g1, hmk, hrow⟩ := g1.cells (by omega)
  rw [hos] at g2 g6
  have hfit : i * s' + m * s' ≤ cur.size := by
   rw [g2, ← Nat.add_mul]
   exact Nat.mul_le_mul_right _ (by omega)
  have hvl : (Builtin.zeroCells z.cells m).toList.length = m * s' := by unfold Builtin.zeroCells; simp [hzs]
  generalize hvs : (Builtin.zeroCells z.cells m).toList = vs at hvl
  have hvg : ∀ q, q < m * s' → vs[q]? = some z.cells[q % s']! := fun q hq => by
   rw [← hvs, zJk (by rw [hzs]; exact hq), hzs]
  have hone : ∀ v ∈ vs, v.oneCell' = true := fun v hv => by
   obtain ⟨q, hq, rfl⟩ := List.mem_iff_getElem.1 hv
   have e := hvg q (by rw [← hvl]; exact hq)
   rw [List.getElem?_eq_getElem hq] at e
   rw [Option.some.inj e]
   have hlt : q % s' < z.cells.size := by rw [hzs]; exact Nat.mod_lt _ hs0
   rw [getElem!_pos z.cells _ hlt]
   exact List.all_eq_true.1 hzo _ (Array.getElem_mem_toList hlt)
  have hst := zBO P b (i * s') ob.ty mk vs 0 cur w g1 hmk (by rw [hvl, Nat.add_zero]; exact hfit) hone
  simp only [Nat.add_zero] at hst
  generalize hcur : (cur.toList.take (i * s') ++ vs ++ cur.toList.drop (i * s' + vs.length)).toArray = cur' at hst
  have hsz' : cur'.size = cur.size := by rw [← hcur]; simp [hvl]; omega
  refine ⟨.tuple #[], w.setRow b cur', σ, S, ?_, hr.setRow hh hσ hrow l2 (by omega) (by rw [hsz', g2, hos]) (fun i' j' hi' hj' => ?_)⟩
  ·have hzz : (zeroValue e).run P w = .ok z w := by simp [zeroValue, typeInfo, hi, hz]
   obtain ⟨m', rfl⟩ : ∃ m', m = m' + 1 := ⟨m - 1, by omega⟩
   have hclear : (Builtin.clear_ #[t] ty #[.slice (some ⟨b, i * s', none⟩) (m' + 1) cap]).run P w = .ok (.tuple #[]) (w.setRow b cur') := by
    simp [Builtin.clear_, run_underlying ht, hzz, hvs, hst]
    try rfl
   simp [execOp, resolve, invoke, builtin, hzx, hclear]
  ·rw [l1] at hi'
   rw [l2] at hj' ⊢
   rw [hat i' j' hi' hj']
   rw [hos] at hj' ⊢
   have hpos : i' * s' + j' < cur.size := by
    rw [g2]
    have : (i' + 1) * s' ≤ C * s' := Nat.mul_le_mul_right _ (by omega)
    rw [Nat.add_mul] at this; omega
   have hcg : cur'[i' * s' + j']? = if i * s' ≤ i' * s' + j' ∧ i' * s' + j' < i * s' + m * s' then vs[i' * s' + j' - i * s']? else cur[i' * s' + j']? := by
    rw [← hcur]
    simp only [List.getElem?_toArray, List.append_assoc]
    have htl : (cur.toList.take (i * s')).length = i * s' := by rw [List.length_take]; simp; omega
    split
    ·rename_i q
     rw [List.getElem?_append_right (by omega), htl, List.getElem?_append_left (by omega)]
    ·rename_i q
     rcases Nat.lt_or_ge (i' * s' + j') (i * s') with q1 | q1
     ·rw [List.getElem?_append_left (by omega), List.getElem?_take, if_pos q1]; simp
     ·rw [List.getElem?_append_right (by omega), htl, List.getElem?_append_right (by omega), List.getElem?_drop, hvl]
      rw [show i * s' + m * s' + (i' * s' + j' - i * s' - m * s') = i' * s' + j' by omega]; simp
   have hiff : (i * s' ≤ i' * s' + j' ∧ i' * s' + j' < i * s' + m * s') ↔ (i ≤ i' ∧ i' < i + m) := by
    rw [← Nat.add_mul]
    constructor
    ·rintro ⟨q1, q2⟩
     constructor
     ·rcases Nat.lt_or_ge i' i with q | q
      ·have := Nat.mul_le_mul_right s' (show i' + 1 ≤ i from q); rw [Nat.add_mul] at this; omega
      ·exact q
     ·rcases Nat.lt_or_ge i' (i + m) with q | q
      ·exact q
      ·have := Nat.mul_le_mul_right s' q; omega
    ·rintro ⟨q1, q2⟩
     have a1 := Nat.mul_le_mul_right s' q1
     have a2 := Nat.mul_le_mul_right s' (show i' + 1 ≤ i + m from q2)
     rw [Nat.add_mul i' 1] at a2
     omega
   rw [hcg]
   by_cases q : i ≤ i' ∧ i' < i + m
   ·rw [if_pos (hiff.2 q), if_pos q]
    have e1 : i' * s' + j' - i * s' = j' + (i' - i) * s' := by rw [Nat.sub_mul]; have := Nat.mul_le_mul_right s' q.1; omega
    have a2 := (hiff.2 q).2
    rw [hvg _ (by have := Nat.mul_le_mul_right s' q.1; omega), e1, Nat.add_mul_mod_self_right, Nat.mod_eq_of_lt hj']
    have hlt : j' < z.cells.size := by omega
    exact ⟨_, J, hzv j' hj' _ _ _, by rw [getElem!_pos z.cells _ hlt]; exact List.all_eq_true.1 hzo _ (Array.getElem_mem_toList hlt)⟩
   ·rw [if_neg (fun q2 => q (hiff.1 q2)), if_neg q]
    exact g6 i' j' hi' hj'
end Go.Ax
namespace Go.Ax
variable [Pins]
open Go.RowKit
section
variable {ind : Bool} {P : Program} {fn : Func} {c : Ctx} {fr : Fr} {H : zQ} {k : List It}
variable {d : Option Nat} {ty : TypeId} {pos : String} {after : Array Edge} {g : Option (Nat × Bool)}
theorem zDf {x : Operand} {t : TypeId} {u : TypeDesc} {h i j : Nat} {oty : TypeId} {n s : Nat} {f : Nat → Nat → AV} (ht : P.underlying t = some u) (hu : zBP u = false) (hx : ev fr x = some (.ptr h i j)) (hh : H[h]? = some (some ⟨oty, .fn n s f⟩)) (hj : Nat.blt j s = true) (hi : i < n) :
 QOp false P fn c fr H ⟨d, .load t x, ty, pos, after, g⟩ (f i j) := zDe ht hu hx hh hj hi
end
end Go.Ax
namespace Go.Ax.Tb
open Go.Ax.Bg (zJa)
end Go.Ax.Tb
namespace Go.Ax
variable [Pins]
section
variable {P : Program} {fn : Func} {c : Ctx} {fr : Fr} {H : zQ} {k : List It}
theorem zDK {x : Code} (h : Nat) (o : AObj) {ob : AObj} (c' : Cells) (hh : H[h]? = some (some ob)) (ho : o.c.len = 0) (h1 : c'.len = ob.c.len) (h2 : c'.kd = ob.c.kd)
 (h3 : ∀ i j, i < ob.c.len → j < ob.c.sz → c'.at i j = ob.c.at i j ∨ (ob.c.at i j = .nil ∧ c'.at i j = .sl H.length 0 0)) (hk : Ax P fn c (.code x k) fr ((H ++ [some o]).set h (some ⟨ob.ty, c'⟩))) : Ax P fn c (.code x k) fr H := by
 intro w a σ S hr
 have g1 := hr.nowhere1 ho
 have hlt : h < H.length := (List.getElem?_eq_some_iff.1 hh).1
 have hh' : (H ++ [some o])[h]? = some (some ob) := by rw [List.getElem?_append_left hlt]; exact hh
 refine hk w a _ S (g1.recell hh' h1 h2 (fun i j v hi hj hv => ?_))
 rcases h3 i j hi hj with e | ⟨e1, e2⟩
 ·rw [e]; exact hv
 ·rw [e1] at hv
  rw [e2]
  cases hv
  exact .sl0 _ _ (by simp [upσ])
end
end Go.Ax
namespace Go.Ax
variable [Pins]
open Go.RowKit
/-- Does operation j wait, at last, for operation i? -/
def zEv (all : Array Oper) (idx : List Nat) : Nat → Nat → Nat → Bool
 | 0, _, _ => false
 | n + 1, j, i => match all[j]? with
  | some o => o.after.toList.any (fun e => Region.binds .any e && Nat.beq e.on i) || o.after.toList.any (fun e => Region.binds .any e && (idx.contains e.on && zEv all idx n e.on i))
  | none => false
theorem zJ4 {cur : Array Bool} {i : Nat} (h : cur.getD i false = true) : cur.getD i true = true := by
 have _p := ‹Pins›
 unfold Array.getD at h ⊢
 split at h
 ·rename_i q
  rw [dif_pos q]; exact h
 ·cases h
theorem zEH {all : Array Oper} {idx : List Nat} {cur : Array Bool} (hcl : ∀ m' ∈ idx, cur.getD m' true = true → ∀ o, all[m']? = some o → ∀ e ∈ o.after, Region.binds .any e = true → cur.getD e.on false = true) :
 ∀ (n j i : Nat), zEv all idx n j i = true → (∀ o, all[j]? = some o → ∀ e ∈ o.after, Region.binds .any e = true → cur.getD e.on false = true) → cur.getD i true = true
 | 0, _, _, h, _ => by cases h
 | n + 1, j, i, h, hd => by
  have _p := ‹Pins›
  rw [zEv] at h
  split at h
  ·rename_i o ho
   rw [Bool.or_eq_true] at h
   rcases h with h | h
   ·obtain ⟨e, he1, he2⟩ := List.any_eq_true.1 h
    rw [Bool.and_eq_true] at he2
    have h3 := hd o ho e (Array.mem_toList_iff.1 he1) he2.1
    rw [Nat.eq_of_beq_eq_true he2.2] at h3
    exact zJ4 h3
   ·obtain ⟨e, he1, he2⟩ := List.any_eq_true.1 h
    simp only [Bool.and_eq_true] at he2
    have h3 := zJ4 (hd o ho e (Array.mem_toList_iff.1 he1) he2.1)
    have hm : e.on ∈ idx := by simpa using he2.2.1
    exact zEH hcl n e.on i he2.2.2 (hcl e.on hm h3)
  ·cases h
theorem zL1 {cur : Array Bool} {i j : Nat} (h : cur.getD j false = true) : (cur.setIfInBounds i true).getD j false = true := by
 have _p := ‹Pins›
 simp only [Array.getD_eq_getD_getElem?, Array.getElem?_setIfInBounds] at h ⊢
 split
 ·split
  ·rfl
  ·rename_i h1 h2
   subst h1
   rw [Array.getElem?_eq_none (by omega)] at h
   cases h
 ·exact h
theorem zJu {all : Array Oper} {idx : List Nat} {cur : Array Bool} {i : Nat} (_hi : i ∈ idx) (hcl : ∀ m' ∈ idx, cur.getD m' true = true → ∀ o, all[m']? = some o → ∀ e ∈ o.after, Region.binds .any e = true → cur.getD e.on false = true)
 (hd : ∀ o, all[i]? = some o → ∀ e ∈ o.after, Region.binds .any e = true → cur.getD e.on false = true) :
 ∀ m' ∈ idx, (cur.setIfInBounds i true).getD m' true = true → ∀ o, all[m']? = some o → ∀ e ∈ o.after, Region.binds .any e = true → (cur.setIfInBounds i true).getD e.on false = true := by
 have _p := ‹Pins›
 intro m' hm' hu o ho e he hb
 by_cases h : m' = i
 ·subst h
  exact zL1 (hd o ho e he hb)
 ·refine zL1 (hcl m' hm' ?_ o ho e he hb)
  have h' : ¬ i = m' := fun q => h q.symm
  simpa [Array.getD_eq_getD_getElem?, Array.getElem?_setIfInBounds, h'] using hu
section
variable {P : Program} {fn : Func} {c : Ctx} {fr : Fr} {H : zQ} {k : List It}
end
end Go.Ax
namespace Go.Ax
variable [Pins]
open Go.RowKit
theorem zBb {P : Program} {fn : Func} {c : Ctx} {H : zQ} {all : Array Oper} {K0 : Fr} {i : Nat} {r : List Nat} {st : Steps} {G : Steps → Prop} {d : Nat} {g : Operand} {args : List Operand} {ats : Array TypeId} {ty : TypeId} {pos : String} {after : Array Edge} {f : FuncId} {caps ags ags' : List AV} {v : AV} {K : Fr} {j t : Nat} {p : Bool}
 (hi : all[i]? = some ⟨some d, .call { callee := .value g, args := args.toArray, argTypes := ats }, ty, pos, after, some (j, p)⟩)
 (hK : zEs st K0 ⟨some d, .call { callee := .value g, args := args.toArray, argTypes := ats }, ty, pos, after, some (j, p)⟩ = K) (hy : zDi all j = some t) (hb : zAY t K = some (.bool p)) (hg : ev K g = some (.fn f caps)) (ha : evs K args = some ags) (has : ags ++ caps = ags') (hcall : zl P f ags' v)
 (h : zDj P fn c H all K0 r ((i, d, v) :: st) G) : zDj P fn c H all K0 (i :: r) st G :=
 ⟨_, _, _, hi, rfl, hK ▸ zHn hy hb (zMk hg ha has hcall), h⟩
end Go.Ax
namespace Go.Ax
variable [Pins]
open Go.RowKit
/-- Does operation j wait, at last, for operation i? -/
def zK7 (all : Array Oper) (listed : Array Bool) (idx : List Nat) (j : Nat) : Bool := match all[j]? with
 | some o => o.after.toList.any (fun e => Region.binds .any e && (!idx.contains e.on && !listed.getD e.on true))
 | none => false
/-- May these operations run in any order, ahead of all others? -/
def okRunU (all : Array Oper) (listed : Array Bool) (idx : List Nat) (k0 : List Nat) : Bool :=
 (idx.all fun i => !listed.getD i true && (match all[i]? with
  | some o => (match o.dst with | some d => !k0.contains d | none => false) && o.after.toList.all (fun e => !Region.binds .any e || (Nat.blt e.on i && (idx.contains e.on || listed.getD e.on false)))
  | none => false)) &&
 ((List.range all.size).all fun j => idx.contains j || listed.getD j true || idx.all (fun i => zEv all idx (idx.length + 1) j i) || zK7 all listed idx j) &&
 (idx.all fun i => idx.all fun j => Nat.beq i j || !(match all[i]?, all[j]? with | some o, some o' => o.dst == o'.dst | _, _ => false))
section
variable {P : Program} {fn : Func} {c : Ctx} {fr : Fr} {H : zQ} {k : List It}
theorem zm {all : Array Oper} {fuel : Nat} {listed listed' : Array Bool} (idx : List Nat) (K0 : Fr) (hK : zA2 fr K0) (hok : okRunU all listed idx (K0.map (·.1)) = true) (hnd : idx.Nodup) (hd : zCt fn.ntmps all.toList = true) (hl : zFM listed idx = listed')
 (h : zDj P fn c H all K0 idx [] (fun st => Ax P fn c (.any all fuel listed' k) (st.map (·.2) ++ K0) H)) : Ax P fn c (.any all (fuel + idx.length) listed k) fr H := by
 obtain ⟨st, hG, hidx, hst⟩ := zGj h (fun s hs => by simp at hs)
 rw [List.map_nil, List.append_nil] at hidx
 clear h
 unfold okRunU at hok
 simp only [Bool.and_eq_true] at hok
 obtain ⟨⟨ok1, ok2⟩, ok3⟩ := hok
 rw [List.all_eq_true] at ok1 ok2 ok3
 have hmem : ∀ i, i ∈ idx ↔ ∃ s ∈ st, s.1 = i := fun i => by
  have : i ∈ idx.reverse ↔ ∃ s ∈ st, s.1 = i := by rw [← hidx]; simp
  rw [← this, List.mem_reverse]
 have hlen : st.length = idx.length := by
  have := congrArg List.length hidx
  simpa using this
 have hnd' : (st.map (·.1)).Nodup := by rw [hidx]; exact (List.reverse_perm idx).nodup_iff.2 hnd
 have hlt : ∀ i ∈ idx, i < listed.size := fun i hi => by
  have := ok1 i hi
  simp only [Bool.and_eq_true, Bool.not_eq_true'] at this
  rcases Nat.lt_or_ge i listed.size with q | q
  ·exact q
  ·have h1 := this.1
   simp only [Array.getD, show ¬ i < listed.size by omega, dite_false] at h1
   cases h1
 -- the induction
 have key : ∀ (m : Nat) (cur : Array Bool) (fr : Fr), cur.size = listed.size → (∀ j, j ∉ idx → cur[j]? = listed[j]?) → unl cur st = m → (∀ s ∈ st, cur.getD s.1 true = true → zAY s.2.1 fr = some s.2.2) → zA2 fr K0 → (∀ m' ∈ idx, cur.getD m' true = true → ∀ o, all[m']? = some o → ∀ e ∈ o.after, Region.binds .any e = true → cur.getD e.on false = true) → Ax P fn c (.any all (fuel + m) cur k) fr H := by
  intro m
  induction m with
  | zero =>
   intro cur fr hcs hco hcm hck hk0 hcl
   have hall : ∀ s ∈ st, cur.getD s.1 true = true := fun s hs => by
    cases hq : cur.getD s.1 true with
    | true => rfl
    | false =>
     exfalso
     have h0 : st.filter (fun s => !cur.getD s.1 true) = [] := List.length_eq_zero_iff.1 hcm
     have : s ∈ st.filter (fun s => !cur.getD s.1 true) := List.mem_filter.2 ⟨hs, by rw [hq]; rfl⟩
     rw [h0] at this; simp at this
   have hcur : cur = listed' := by
    rw [← hl]
    apply Array.ext_getElem?
    intro j
    rcases Nat.lt_or_ge j listed.size with q | q
    ·rw [zFN idx listed j q]
     by_cases hj : j ∈ idx
     ·rw [if_pos hj]
      obtain ⟨s, hs1, hs2⟩ := (hmem j).1 hj
      have := hall s hs1
      rw [hs2] at this
      simp only [Array.getD, show j < cur.size by omega, dite_true] at this
      rw [Array.getElem?_eq_getElem (by omega)]
      exact congrArg some this
     ·rw [if_neg hj]; exact hco j hj
    ·rw [Array.getElem?_eq_none (by omega), Array.getElem?_eq_none (by rw [zEf]; omega)]
   subst hcur
   intro w a σ S hr
   refine hG w a σ S (hr.weaken (zCf fun p hp => ?_))
   rcases List.mem_append.1 hp with q | q
   ·obtain ⟨s, q1, q2⟩ := List.mem_map.1 q
    rw [← q2]; exact hck s q1 (hall s q1)
   ·exact zCg hk0 p q
  | succ m ih =>
   intro cur fr hcs hco hcm hck hk0 hcl
   -- some step is left
   obtain ⟨s0, hs0, hs0u⟩ : ∃ s ∈ st, cur.getD s.1 true = false := by
    rcases hq : st.filter (fun s => !cur.getD s.1 true) with _ | ⟨s, r⟩
    ·unfold unl at hcm; rw [hq] at hcm; simp at hcm
    ·have : s ∈ st.filter (fun s => !cur.getD s.1 true) := by rw [hq]; simp
     obtain ⟨h1, h2⟩ := List.mem_filter.1 this
     exact ⟨s, h1, by simpa using h2⟩
   have hsub : ∀ i ∈ Region.ready .any all cur, i ∈ idx ∧ cur.getD i true = false := by
    intro i hi
    obtain ⟨h1, o, ho, hdeps⟩ := mem_ready.1 hi
    refine ⟨?_, h1⟩
    apply Classical.byContradiction
    intro hni
    have hjs : i < all.size := (Array.getElem?_eq_some_iff.1 ho).1
    have := ok2 i (List.mem_range.2 hjs)
    simp only [Bool.or_eq_true, ho] at this
    rcases this with ((q | q) | q) | q
    ·exact hni (by simpa using q)
    ·have hco' := hco i hni
     have h2 : listed.getD i true = cur.getD i true := by
      simp only [Array.getD_eq_getD_getElem?, hco']
     rw [h2, h1] at q; cases q
    ·rw [List.all_eq_true] at q
     have h3 := zEH hcl _ i s0.1 (q s0.1 ((hmem s0.1).2 ⟨s0, hs0, rfl⟩)) (fun o' ho' e he hb => by
      rw [ho] at ho'
      obtain rfl := Option.some.inj ho'
      exact hdeps e he hb)
     rw [h3] at hs0u; cases hs0u
    ·unfold zK7 at q
     rw [ho] at q
     obtain ⟨e, he1, he2⟩ := List.any_eq_true.1 q
     simp only [Bool.and_eq_true, Bool.not_eq_true'] at he2
     obtain ⟨hb, hne, hnl⟩ := he2
     have hni' : e.on ∉ idx := fun q => by
      have : idx.contains e.on = true := by simpa using q
      rw [this] at hne; cases hne
     have hd1 := hdeps e (Array.mem_toList_iff.1 he1) hb
     have hco' := hco e.on hni'
     rw [Array.getD_eq_getD_getElem?] at hd1 hnl
     rw [hco'] at hd1
     cases hx : listed[e.on]? with
     | none => rw [hx] at hd1; cases hd1
     | some b =>
      rw [hx] at hd1 hnl
      have e1 : b = true := hd1
      have e2 : b = false := hnl
      rw [e1] at e2; cases e2
   have hne : Region.ready .any all cur ≠ [] := by
    intro h0
    -- the least one that is left
    have hex : ∃ i, i ∈ idx ∧ cur.getD i true = false := ⟨s0.1, (hmem s0.1).2 ⟨s0, hs0, rfl⟩, hs0u⟩
    have least : ∀ n i, i ≤ n → i ∈ idx → cur.getD i true = false → False := by
     intro n
     induction n with
     | zero =>
      intro i hi him hiu
      have h1 := ok1 i him
      simp only [Bool.and_eq_true] at h1
      cases hoo : all[i]? with
      | none => rw [hoo] at h1; exact absurd h1.2 (by simp)
      | some o =>
       rw [hoo] at h1
       simp only [Bool.and_eq_true] at h1
       have h2 := List.all_eq_true.1 h1.2.2
       have : i ∈ Region.ready .any all cur := mem_ready.2 ⟨hiu, o, hoo, fun e he hb => by
        have := h2 e (Array.mem_toList_iff.2 he)
        rw [hb] at this
        simp only [Bool.not_true, Bool.false_or, Bool.and_eq_true] at this
        have := Nat.le_of_ble_eq_true this.1
        omega⟩
       rw [h0] at this; simp at this
     | succ n ihn =>
      intro i hi him hiu
      have h1 := ok1 i him
      simp only [Bool.and_eq_true] at h1
      cases hoo : all[i]? with
      | none => rw [hoo] at h1; exact absurd h1.2 (by simp)
      | some o =>
       rw [hoo] at h1
       simp only [Bool.and_eq_true] at h1
       have h2 := List.all_eq_true.1 h1.2.2
       have : i ∈ Region.ready .any all cur := mem_ready.2 ⟨hiu, o, hoo, fun e he hb => by
        have h3 := h2 e (Array.mem_toList_iff.2 he)
        rw [hb] at h3
        simp only [Bool.not_true, Bool.false_or, Bool.and_eq_true, Bool.or_eq_true] at h3
        have hlt' : e.on < i := Nat.le_of_ble_eq_true h3.1
        by_cases hei : e.on ∈ idx
        ·cases hq : cur.getD e.on true with
         | false => exact (ihn e.on (by omega) hei hq).elim
         | true =>
          have hsz := hlt e.on hei
          simp only [Array.getD, show e.on < cur.size by omega, dite_true] at hq ⊢
          exact hq
        ·rcases h3.2 with q | q
         ·exact absurd (by simpa using q) hei
         ·have h2 : cur.getD e.on false = listed.getD e.on false := by simp only [Array.getD_eq_getD_getElem?, hco e.on hei]
          rw [h2]; exact q⟩
       rw [h0] at this; simp at this
    obtain ⟨i, hi1, hi2⟩ := hex
    exact least i i (Nat.le_refl _) hi1 hi2
   refine zH J hne hd (zIP (fun i hi o ho => ?_))
   obtain ⟨him, hiu⟩ := hsub i hi
   obtain ⟨s, hs1, hs2⟩ := (hmem i).1 him
   obtain ⟨o', K, g1, g2, g3, g4⟩ := hst s hs1
   rw [hs2, ho] at g1
   obtain rfl := Option.some.inj g1
   obtain ⟨_, o2, ho2, hdeps⟩ := mem_ready.1 hi
   rw [ho] at ho2
   obtain rfl := Option.some.inj ho2
   refine g3 _ fr (zCf fun p hp => ?_) (zC (zX ?_))
   ·rcases g4 p hp with q | ⟨s', q1, ⟨e, q2, q3, q4⟩, q5⟩
    ·exact zCg hk0 p q
    ·have h1 := hdeps e q2 q3
     rw [q4] at h1
     rw [← q5]
     refine hck s' q1 ?_
     have hsz := hlt s'.1 ((hmem s'.1).2 ⟨s', q1, rfl⟩)
     simp only [Array.getD, show s'.1 < cur.size by omega, dite_true] at h1 ⊢
     exact h1
   ·have hisz := hlt i him
    refine ih (cur.setIfInBounds i true) _ (by simpa using hcs) (fun j hj => ?_) ?_ (fun s' hs' hu => ?_) ?_ (zJu him hcl (fun o' ho' e he hb => by rw [ho] at ho'; obtain rfl := Option.some.inj ho'; exact hdeps e he hb))
    ·rw [Array.getElem?_setIfInBounds_ne (show i ≠ j from fun e => hj (e ▸ him))]; exact hco j hj
    ·-- one less
     have hf : st.filter (fun s' => !(cur.setIfInBounds i true).getD s'.1 true) = (st.filter (fun s' => !cur.getD s'.1 true)).filter (fun s' => decide (s'.1 ≠ i)) := by
      rw [List.filter_filter]
      congr 1
      funext s'
      by_cases hq : s'.1 = i
      ·rw [hq]; simp [Array.getD, show i < cur.size by omega]
      ·have hq' : ¬ i = s'.1 := fun e => hq e.symm
       simp [Array.getD_eq_getD_getElem?, Array.getElem?_setIfInBounds, hq, hq']
     unfold unl at hcm ⊢
     rw [hf]
     have hmemf : s ∈ st.filter (fun s' => !cur.getD s'.1 true) := List.mem_filter.2 ⟨hs1, by rw [hs2, hiu]; rfl⟩
     have hndf : ((st.filter (fun s' => !cur.getD s'.1 true)).map (·.1)).Nodup := List.Nodup.sublist (List.Sublist.map _ List.filter_sublist) hnd'
     revert hcm hmemf hndf
     generalize st.filter (fun s' => !cur.getD s'.1 true) = L
     intro hcm hmemf hndf
     have gen : ∀ (L : Steps) (n : Nat), L.length = n + 1 → s ∈ L → (L.map (·.1)).Nodup → (L.filter (fun s' => decide (s'.1 ≠ i))).length = n := by
      intro L
      induction L with
      | nil => intro n h; simp at h
      | cons x r ihL =>
       intro n hn hm hnd
       simp only [List.map_cons, List.nodup_cons] at hnd
       rcases List.mem_cons.1 hm with rfl | hm
       ·have hno : ∀ y ∈ r, y.1 ≠ i := fun y hy e => hnd.1 (List.mem_map.2 ⟨y, hy, by rw [e, hs2]⟩)
        have : (r.filter (fun s' => decide (s'.1 ≠ i))) = r := List.filter_eq_self.2 (fun y hy => by simpa using hno y hy)
        rw [List.filter_cons_of_neg (by simp [hs2]), this]
        simpa using hn
       ·have hx : x.1 ≠ i := fun e => hnd.1 (List.mem_map.2 ⟨s, hm, by rw [hs2, e]⟩)
        have hr0 : 0 < r.length := List.length_pos_iff.2 (by rintro rfl; simp at hm)
        obtain ⟨n', rfl⟩ : ∃ n', n = n' + 1 := ⟨n - 1, by simp at hn; omega⟩
        rw [List.filter_cons_of_pos (by simpa using hx), List.length_cons, ihL n' (by simpa using hn) hm hnd.2]
     exact gen L m hcm hmemf hndf
    ·by_cases hq : s'.1 = i
     ·have : s' = s := by
       have h1 : s ∈ st := hs1
       have hinj : ∀ (L : Steps), (L.map (·.1)).Nodup → ∀ x ∈ L, ∀ y ∈ L, x.1 = y.1 → x = y := by
        intro L
        induction L with
        | nil => intro _ x hx; simp at hx
        | cons z r ihL =>
         intro hnd x hx y hy hxy
         simp only [List.map_cons, List.nodup_cons] at hnd
         rcases List.mem_cons.1 hx with hx | hx <;> rcases List.mem_cons.1 hy with hy | hy
         ·rw [hx, hy]
         ·exact absurd (List.mem_map.2 ⟨y, hy, by rw [← hxy, hx]⟩) hnd.1
         ·exact absurd (List.mem_map.2 ⟨x, hx, by rw [hxy, hy]⟩) hnd.1
         ·exact ihL hnd.2 x hx y hy hxy
       exact hinj st hnd' s' hs' s hs1 (by rw [hq, hs2])
      rw [this]
      exact zIS _ _ _
     ·have h1 : cur.getD s'.1 true = true := by
       have hq' : ¬ i = s'.1 := fun e => hq e.symm
       simpa [Array.getD_eq_getD_getElem?, Array.getElem?_setIfInBounds, hq'] using hu
      have h2 := hck s' hs' h1
      -- another slot
      have hne2 : s'.2.1 ≠ s.2.1 := by
       intro e
       obtain ⟨o3, _, f1, f2, _, _⟩ := hst s' hs'
       have h3 := List.all_eq_true.1 (ok3 s'.1 ((hmem s'.1).2 ⟨s', hs', rfl⟩)) i him
       rw [f1, ho] at h3
       simp only [Bool.or_eq_true, Bool.not_eq_true', f2, g2] at h3
       rcases h3 with h3 | h3
       ·exact hq (Nat.eq_of_beq_eq_true h3)
       ·rw [e] at h3; simp at h3
      show (bif Nat.beq s'.2.1 s.2.1 then some s.2.2 else zAY s'.2.1 fr) = _
      rw [zBQ hne2]; exact h2
    ·refine zCf fun p hp => ?_
     have h1 := ok1 i him
     simp only [Bool.and_eq_true] at h1
     rw [ho] at h1
     simp only [g2, Bool.and_eq_true, Bool.not_eq_true'] at h1
     have hne3 : p.1 ≠ s.2.1 := by
      intro e
      have : (K0.map (·.1)).contains s.2.1 = true := by
       rw [List.contains_iff_mem]
       exact List.mem_map.2 ⟨p, hp, e⟩
      rw [h1.2.1] at this; cases this
     show (bif Nat.beq p.1 s.2.1 then some s.2.2 else zAY p.1 fr) = _
     rw [zBQ hne3]; exact zCg hk0 p hp
 have hm0 : unl listed st = idx.length := by
  unfold unl
  rw [List.filter_eq_self.2 (fun s hs => ?_), hlen]
  have := ok1 s.1 ((hmem s.1).2 ⟨s, hs, rfl⟩)
  simp only [Bool.and_eq_true] at this
  exact this.1
 have := key idx.length listed fr rfl (fun _ _ => rfl) hm0 (fun s hs hu => by
  have h1 := ok1 s.1 ((hmem s.1).2 ⟨s, hs, rfl⟩)
  simp only [Bool.and_eq_true, Bool.not_eq_true'] at h1
  rw [h1.1] at hu; cases hu) hK (fun m' hm' hu => by
  have h1 := ok1 m' hm'
  simp only [Bool.and_eq_true, Bool.not_eq_true'] at h1
  rw [h1.1] at hu; cases hu)
 exact this
end
end Go.Ax
namespace Go.Ax
variable [Pins]
open Go.RowKit
section
variable {ind : Bool} {P : Program} {fn : Func} {c : Ctx} {fr : Fr} {H : zQ} {k : List It}
variable {d : Option Nat} {ty : TypeId} {pos : String} {after : Array Edge} {g : Option (Nat × Bool)}
theorem zOD {x ix : Operand} {t e : TypeId} {u : TypeDesc} {inf : TypeInfo} {n : Nat} {L L' : List AV} {kk : IntKind} {m : Int} (ht : P.underlying t = some (.array n e)) (hi : P.info? e = some inf) (hu : P.underlying e = some u) (hua : zBP u = true) (hx : ev fr x = some (.agg L)) (hix : ev fr ix = some (.int kk m))
 (hv : (L.drop (m.toNat * inf.size)).take inf.size = L') (hb : 0 ≤ m ∧ m < n ∧ m.toNat * inf.size + inf.size ≤ L.length) : QOp ind P fn c fr H ⟨d, .index t x ix, ty, pos, after, g⟩ (.agg L') := by
 intro w a σ S hr
 have h1 := hr.evAt hx
 have h2 := hr.evInt hix
 subst hv
 generalize hz : a.eval x = z at h1
 cases h1 with
 | agg _ _ vs hl hv h1' =>
  have hsz : (vs.extract (m.toNat * inf.size) (m.toNat * inf.size + inf.size)).size = inf.size := by simp; omega
  have hlen : ((L.drop (m.toNat * inf.size)).take inf.size).length = inf.size := by simp; omega
  have hget : ∀ i, i < inf.size → (vs.extract (m.toNat * inf.size) (m.toNat * inf.size + inf.size)).getD i undef = vs.getD (m.toNat * inf.size + i) undef := by
   intro i hi'
   have h3 : m.toNat * inf.size + i < vs.size := by omega
   have h4 : i < (vs.extract (m.toNat * inf.size) (m.toNat * inf.size + inf.size)).size := by omega
   simp only [Array.getD, h3, h4, dite_true, Array.getInternal_eq_getElem, Array.getElem_extract]
  refine ⟨.agg (vs.extract (m.toNat * inf.size) (m.toNat * inf.size + inf.size)), .agg _ _ _ (by rw [hsz, hlen]) (fun i hi' => ?_) (fun i hi' => ?_), fun w' _ => ?_⟩
  ·rw [hlen] at hi'
   rw [hget i hi']
   have e : ((L.drop (m.toNat * inf.size)).take inf.size).getD i .any = L.getD (m.toNat * inf.size + i) .any := by
    simp only [List.getD, List.getElem?_take, if_pos hi', List.getElem?_drop]
   rw [e]
   exact hv _ (by omega)
  ·rw [hlen] at hi'
   rw [hget i hi']
   exact h1' _ (by omega)
  ·simp [execOp, hz, h2, Instr.index, asIntOf, run_underlying ht, hb.1, hb.2.1, sizeOf, typeInfo, hi, part, zCX hu, hua]
end
theorem zM6 {l l' : List AV} (h : AEqs l l') : AEq (.agg l) (.agg l') := by
 intro w S σ v hv
 have hl := h.length
 cases hv with
 | agg _ _ vs h1 h2 h3 => exact .agg _ _ _ (h1.trans hl) (fun i hi => h.get i (by omega) _ _ _ _ (h2 i (by omega))) (fun i hi => h3 i (by omega))
end Go.Ax
namespace Go.Ax
variable [Pins]
open Go.RowKit
section
variable {P : Program} {fn : Func} {c : Ctx} {fr : Fr} {H : zQ} {k : List It}
end
theorem zEh {fr K : Fr} (h : zA2 fr K) : ∀ {xs : List (Nat × Operand)} {l : List (Nat × AV)}, zB4 K xs = some l → zB4 fr xs = some l
 | [], l, he => he
 | (n, x) :: r, l, he => by
  simp only [zB4] at he ⊢
  split at he
  ·rename_i v hv
   split at he
   ·rename_i q hq
    rw [zEq h hv, zEh h hq]
    exact he
   ·cases he
  ·cases he
/-- a slice of plain values is built without a zAY at the memory -/
theorem px_b {P : Program} {fn : Func} {c : Ctx} {H : zQ} {all : Array Oper} {K0 : Fr} {i : Nat} {r : List Nat} {st : Go.Ax.Steps} {G : Go.Ax.Steps → Prop} {d : Nat} {t e : TypeId} {n : Nat} {parts : List (Nat × Operand)} {ty : TypeId} {pos : String} {after : Array Edge} {it : TypeInfo} {z : Value} {zs L : List AV} {l : List (Nat × AV)} {cl : Cells} {K : Fr}
 (hi : all[i]? = some ⟨some d, .buildSlice t n parts.toArray, ty, pos, after, none⟩) (hK : zEs st K0 ⟨some d, .buildSlice t n parts.toArray, ty, pos, after, none⟩ = K)
 (ht : P.underlying t = some (.slice e)) (hinf : P.info? e = some it) (hz : it.zero = some z) (hzs : zav z = some zs) (hsz : it.size = zs.length) (hpos : Nat.blt 0 zs.length = true) (hsmall : Nat.ble (n * zs.length) 16777216 = true)
 (hl : zB4 K parts = some l) (hf : zEX (fun i => some (i * zs.length, zs.length)) (zCs zs n) l = some L) (hcl : zGT n zs.length L = cl) (hn : noRef.noRefs L = true)
 (h : zDj P fn c H all K0 r ((i, d, .ro cl 0 n) :: st) G) : zDj P fn c H all K0 (i :: r) st G :=
 zIV hi (hK ▸ fun k fr hk h2 => zAH ht hinf hz hzs hsz hpos hsmall (zEh hk hl) hf hcl hn h2) h
end Go.Ax
namespace Go.Ax.Gm
open Go.Ax Go.RowKit
variable [Pins]
/-- The last object, a box, is only read from now on; some objects are fixed. -/
theorem zCa {P : Program} {fn : Func} {c : Ctx} {fr : Fr} {k : List It} {x : Code} {ty : TypeId} {l : List AV} (H0 : zQ) (t : Nat) (L : Fr) (hn : noRef.noRefs l = true) (ht : zAY t fr = some (.ptr H0.length 0 0)) (hk1 : zA2 fr L) (hk2 : zA2 ((t, .rp (.box l) 0 0) :: L) ((t, .rp (.box l) 0 0) :: L))
 (hH : ∀ (h : Nat) (o : AObj), H0[h]? = some (some o) → zAo H0.length o.c) (hb : zB1 H0.length L = true) (hfx : ∀ h, c.fix h → h < H0.length)
 (hk : Ax P fn c (.code x k) ((t, .rp (.box l) 0 0) :: L) H0) : Ax P fn c (.code x k) fr (H0 ++ [some ⟨ty, .box l⟩]) := by
 have hat : ∀ (h : Nat) (o : AObj), (List.replicate H0.length none ++ [some (⟨ty, .box l⟩ : AObj)] : zQ)[h]? = some (some o) → h = H0.length ∧ o = ⟨ty, .box l⟩ := fun h o ho => by
  rcases Nat.lt_or_ge h H0.length with q | q
  ·rw [List.getElem?_append_left (by rw [List.length_replicate]; exact q), List.getElem?_replicate, if_pos q] at ho; cases ho
  ·rw [List.getElem?_append_right (by rw [List.length_replicate]; exact q), List.length_replicate] at ho
   cases e : h - H0.length with
   | zero => rw [e] at ho; cases ho; exact ⟨by omega, rfl⟩
   | succ n => rw [e] at ho; simp at ho
 refine zBE (List.replicate H0.length none ++ [some ⟨ty, .box l⟩]) (H0 ++ [none]) ((t, .rp (.box l) 0 0) :: L) (fun h o ho => ?_) (fun h o ho => ?_) (by simp) (fun h o' ho' => ?_) ⟨⟨.ptr H0.length 0 0, ht, .inr (.inr ⟨?_, ?_⟩)⟩, zCP hk1⟩ ?_
 ·obtain ⟨rfl, rfl⟩ := hat h o ho
  rw [List.getElem?_append_right (Nat.le_refl _), Nat.sub_self]; rfl
 ·obtain ⟨rfl, rfl⟩ := hat h o ho
  exact zq hn
 ·rcases Nat.lt_or_ge h H0.length with q | q
  ·rw [List.getElem?_append_left q] at ho'
   refine ⟨fun o ho => ?_, o', by rw [List.getElem?_append_left q]; exact ho', J, J, J, fun _ _ _ _ => .inl J⟩
   have := (hat h o ho).1; omega
  ·rw [List.getElem?_append_right q] at ho'
   cases e : h - H0.length with
   | zero => rw [e] at ho'; cases ho'
   | succ n => rw [e] at ho'; simp at ho'
 ·have e : (List.replicate H0.length none ++ [some (⟨ty, .box l⟩ : AObj)] : zQ)[H0.length]? = some (some ⟨ty, .box l⟩) := by
   rw [List.getElem?_append_right (by rw [List.length_replicate]; exact Nat.le_refl _), List.length_replicate, Nat.sub_self]; rfl
  show AV.rp (.box l) 0 0 = AV.frz _ (.ptr H0.length 0 0)
  simp only [AV.frz, e]
 ·intro o ho
  obtain ⟨_, rfl⟩ := hat _ o ho
  exact Nat.zero_lt_one
 exact zBh H0 [none] ((t, .rp (.box l) 0 0) :: L) J hk2 hfx hH (by simp only [zB1, Bool.and_eq_true]; exact ⟨J, hb⟩) hk
/-- .. its place stays. -/
theorem ax_fzN {P : Program} {fn : Func} {c : Ctx} {fr : Fr} {k : List It} {x : Code} {ty : TypeId} {l : List AV} (H0 : zQ) (t : Nat) (L : Fr) (hn : noRef.noRefs l = true) (ht : zAY t fr = some (.ptr H0.length 0 0)) (hk1 : zA2 fr L)
 (hk : Ax P fn c (.code x k) ((t, .rp (.box l) 0 0) :: L) (H0 ++ [none])) : Ax P fn c (.code x k) fr (H0 ++ [some ⟨ty, .box l⟩]) := by
 have hat : ∀ (h : Nat) (o : AObj), (List.replicate H0.length none ++ [some (⟨ty, .box l⟩ : AObj)] : zQ)[h]? = some (some o) → h = H0.length ∧ o = ⟨ty, .box l⟩ := fun h o ho => by
  rcases Nat.lt_or_ge h H0.length with q | q
  ·rw [List.getElem?_append_left (by rw [List.length_replicate]; exact q), List.getElem?_replicate, if_pos q] at ho; cases ho
  ·rw [List.getElem?_append_right (by rw [List.length_replicate]; exact q), List.length_replicate] at ho
   cases e : h - H0.length with
   | zero => rw [e] at ho; cases ho; exact ⟨by omega, rfl⟩
   | succ n => rw [e] at ho; simp at ho
 refine zBE (List.replicate H0.length none ++ [some ⟨ty, .box l⟩]) (H0 ++ [none]) ((t, .rp (.box l) 0 0) :: L) (fun h o ho => ?_) (fun h o ho => ?_) (by simp) (fun h o' ho' => ?_) ⟨⟨.ptr H0.length 0 0, ht, .inr (.inr ⟨?_, ?_⟩)⟩, zCP hk1⟩ ?_
 ·obtain ⟨rfl, rfl⟩ := hat h o ho
  rw [List.getElem?_append_right (Nat.le_refl _), Nat.sub_self]; rfl
 ·obtain ⟨rfl, rfl⟩ := hat h o ho
  exact zq hn
 ·rcases Nat.lt_or_ge h H0.length with q | q
  ·rw [List.getElem?_append_left q] at ho'
   refine ⟨fun o ho => ?_, o', by rw [List.getElem?_append_left q]; exact ho', J, J, J, fun _ _ _ _ => .inl J⟩
   have := (hat h o ho).1; omega
  ·rw [List.getElem?_append_right q] at ho'
   cases e : h - H0.length with
   | zero => rw [e] at ho'; cases ho'
   | succ n => rw [e] at ho'; simp at ho'
 ·have e : (List.replicate H0.length none ++ [some (⟨ty, .box l⟩ : AObj)] : zQ)[H0.length]? = some (some ⟨ty, .box l⟩) := by
   rw [List.getElem?_append_right (by rw [List.length_replicate]; exact Nat.le_refl _), List.length_replicate, Nat.sub_self]; rfl
  show AV.rp (.box l) 0 0 = AV.frz _ (.ptr H0.length 0 0)
  simp only [AV.frz, e]
 ·intro o ho
  obtain ⟨_, rfl⟩ := hat _ o ho
  exact Nat.zero_lt_one
 exact hk
theorem beqF {a b : Nat} (h : a ≠ b) : Nat.beq a b = false := by
 have _p := ‹Pins›
 cases e : Nat.beq a b with
 | false => rfl
 | true => exact absurd (Nat.eq_of_beq_eq_true e) h
/-- One cell of a row of structs is written. -/
theorem zJq {P : Program} {fn : Func} {c : Ctx} {fr : Fr} {H : zQ} {k : List It} {α : Type} {d0 : α} {n0 : Nat} {e0 : α → List AV} {ls : List α} (b : α) {all : Array Oper} {t : TypeId} {x y : Operand} {ty : TypeId} {pos : String} {after : Array Edge} {rest : List Oper} {h i j : Nat} {ty' : TypeId} {v : AV}
 (hx : ev fr x = some (.ptr h i j)) (hy : ev fr y = some v) (hone : v.one = true) (hs : (P.info? t).map (·.size) = some 1) (hh : H[h]? = some (some ⟨ty', zCk d0 n0 e0 ls⟩)) (hj : Nat.blt j n0 = true) (hi : i < ls.length)
 (he : ∀ j', j' < n0 → (e0 b).getD j' .any = if j' = j then v else (e0 (ls.getD i d0)).getD j' .any)
 (hk : Ax P fn c (.ops false all rest k) fr (H.set h (some ⟨ty', zCk d0 n0 e0 (ls.set i b)⟩))) : Ax P fn c (.ops false all (⟨none, .store t x y, ty, pos, after, none⟩ :: rest) k) fr H := by
 refine zAF (ob := ⟨ty', zCk d0 n0 e0 ls⟩) hx hy hone hs hh hj J hi ?_
 refine zBJ _ (zAs.set1 (b := zCk d0 n0 e0 (ls.set i b)) H h ⟨by simp [zCk, Cells.len], J, fun i' j' hi' hj' => ?_⟩) hk
 have hj' : j' < n0 := hj'
 have hi' : i' < ls.length := by first | exact hi' | (have h2 : i' < (ls.set i b).length := hi'; rwa [List.length_set] at h2)
 show (e0 ((ls.set i b).getD i' d0)).getD j' .any = bif Nat.beq i' i && Nat.beq j' j then v else (e0 (ls.getD i' d0)).getD j' .any
 by_cases q : i' = i
 ·subst q
  have e1 : (ls.set i' b).getD i' d0 = b := by rw [List.getD, List.getElem?_set_self hi']; rfl
  rw [e1, he j' hj', Nat.beq_refl, Bool.true_and]
  by_cases q2 : j' = j
  ·subst q2; rw [if_pos rfl, Nat.beq_refl]; rfl
  ·rw [if_neg q2, show Nat.beq j' j = false from beqF q2]; rfl
 ·have e1 : (ls.set i b).getD i' d0 = ls.getD i' d0 := by simp [List.getD, List.getElem?_set_ne (Ne.symm q)]
  rw [e1, show Nat.beq i' i = false from beqF q, Bool.false_and]; rfl
/-- A struct of a row of structs is written. -/
theorem zMN {P : Program} {fn : Func} {c : Ctx} {fr : Fr} {H : zQ} {k : List It} {α : Type} {d0 : α} {n0 : Nat} {e0 : α → List AV} {ls : List α} (b : α) {all : Array Oper} {t : TypeId} {x y : Operand} {ty : TypeId} {pos : String} {after : Array Edge} {rest : List Oper} {h i : Nat} {ty' : TypeId} {L : List AV}
 (hx : ev fr x = some (.ptr h i 0)) (hy : ev fr y = some (.agg L)) (hs : (P.info? t).map (·.size) = some n0) (hh : H[h]? = some (some ⟨ty', zCk d0 n0 e0 ls⟩)) (hl : L.length = n0) (hi : i < ls.length) (hz : n0 ≠ 0) (he : ∀ j', j' < n0 → (e0 b).getD j' .any = L.getD j' .any)
 (hk : Ax P fn c (.ops false all rest k) fr (H.set h (some ⟨ty', zCk d0 n0 e0 (ls.set i b)⟩))) : Ax P fn c (.ops false all (⟨none, .store t x y, ty, pos, after, none⟩ :: rest) k) fr H := by
 refine zDW (c' := zCk d0 n0 e0 (ls.set i b)) (ob := ⟨ty', zCk d0 n0 e0 ls⟩) hx hy hs hh hl hi (by simp [zCk, Cells.len]) J (fun i' j' hi' hj' => ?_) hk hz
 have hj' : j' < n0 := hj'
 have hi' : i' < ls.length := by first | exact hi' | (have h2 : i' < (ls.set i b).length := hi'; rwa [List.length_set] at h2)
 show (e0 ((ls.set i b).getD i' d0)).getD j' .any = _
 by_cases q : i' = i
 ·subst q
  rw [if_pos rfl, show (ls.set i' b).getD i' d0 = b by rw [List.getD, List.getElem?_set_self hi']; rfl]
  exact he j' hj'
 ·rw [if_neg q, show (ls.set i b).getD i' d0 = ls.getD i' d0 by simp [List.getD, List.getElem?_set_ne (Ne.symm q)]]
  rfl
end Go.Ax.Gm
namespace Go.Ax.Gm
def zCq (v : Nat → Ent) (f : List Nat) (E : List Ent) : List Ent := f.foldl (fun A i => A.set i (v i)) E
theorem zDg (v : Nat → Ent) : ∀ (f : List Nat) (E : List Ent), (zCq v f E).length = E.length
 | [], _ => rfl
 | i :: f, E => by
  show (zCq v f (E.set i (v i))).length = _
  rw [zDg v f, List.length_set]
theorem zKz (v : Nat → Ent) (f : List Nat) (i : Nat) (E : List Ent) : zCq v (f ++ [i]) E = (zCq v f E).set i (v i) := by
 unfold zCq; rw [List.foldl_append]; rfl
theorem zIC (v : Nat → Ent) : ∀ (f : List Nat) (E : List Ent) (j : Nat), j < E.length → (zCq v f E).getD j (0, 0) = if j ∈ f then v j else E.getD j (0, 0)
 | [], E, j, hj => by rw [if_neg (by simp)]; rfl
 | i :: f, E, j, hj => by
  show (zCq v f (E.set i (v i))).getD j (0, 0) = _
  rw [zIC v f _ j (by rw [List.length_set]; exact hj)]
  by_cases h : j ∈ f
  ·rw [if_pos h, if_pos (List.mem_cons_of_mem _ h)]
  ·rw [if_neg h]
   by_cases h2 : j = i
   ·subst h2
    rw [if_pos (List.mem_cons_self ..), List.getD, List.getElem?_set_self hj]; rfl
   ·rw [if_neg (by simp [h, h2]), List.getD, List.getElem?_set_ne (Ne.symm h2)]; rfl
theorem zNy {A B : List Ent} (hl : A.length = B.length) (h : ∀ j, j < A.length → A.getD j (0, 0) = B.getD j (0, 0)) : A = B := by
 apply List.ext_getElem hl
 intro j h1 h2
 have := h j h1
 rw [List.getD, List.getElem?_eq_getElem h1, List.getD, List.getElem?_eq_getElem h2] at this
 exact this
theorem zK0 {l : List Pos} {nx : List (List Nat)} {E : List Ent} {n : Nat} (hE : E.length = l.length) : zCq (fun i => (zDQ l nx E i, (n : Int))) (zA1 l nx E) E = zDu l nx n E := by
 have hs : (zDu l nx n E).length = l.length := by unfold zDu; rw [List.length_map, List.length_range]
 refine zNy (by rw [zDg, hs, hE]) (fun j hj => ?_)
 rw [zDg, hE] at hj
 rw [zIC _ _ _ _ (by omega)]
 have e : (zDu l nx n E).getD j (0, 0) = if zB5 l nx E j = true then (zDQ l nx E j, (n : Int)) else E.getD j (0, 0) := by
  unfold zDu
  rw [List.getD, List.getElem?_map, List.getElem?_range hj]; rfl
 rw [e]
 unfold zA1
 by_cases h : zB5 l nx E j = true
 ·rw [if_pos h, if_pos (List.mem_filter.2 ⟨List.mem_range.2 hj, h⟩)]
 ·rw [if_neg h, if_neg (fun q => h (List.mem_filter.1 q).2)]
/-- the first entries, those up to i -/
def zDC (r : Rules) (l : List Pos) (k : Nat) : List Ent := zAM r (l.take k) ++ List.replicate (l.length - k) (0, 0)
theorem zL5 (r : Rules) (l : List Pos) : zDC r l 0 = List.replicate l.length (0, 0) := by unfold zDC zAM; simp
theorem zIF (r : Rules) (l : List Pos) : zDC r l l.length = zAM r l := by unfold zDC; rw [List.take_length, Nat.sub_self]; simp
theorem zJN (r : Rules) {l : List Pos} {k : Nat} (h : k ≤ l.length) : (zDC r l k).length = l.length := by
 unfold zDC zAM; rw [List.length_append, List.length_map, List.length_take, List.length_replicate]; omega
theorem zOP (r : Rules) {l : List Pos} {k : Nat} (h : k < l.length) : (zDC r l k).getD k (0, 0) = (0, 0) := by
 unfold zDC zAM
 rw [List.getD, List.getElem?_append_right (by rw [List.length_map, List.length_take]; omega), List.getElem?_replicate]
 split <;> rfl
theorem zL4 (r : Rules) {l : List Pos} {k : Nat} (h : k < l.length) : zDC r l (k + 1) = (zDC r l k).set k (zp r (l.getD k z7), 0) := by
 have hl : (zAM r (l.take k)).length = k := by unfold zAM; rw [List.length_map, List.length_take]; omega
 unfold zDC
 rw [List.set_append_right _ _ (by omega), hl, Nat.sub_self, show l.length - k = (l.length - (k + 1)) + 1 by omega, List.replicate_succ, List.set_cons_zero]
 unfold zAM
 rw [List.take_succ_eq_append_getElem h, List.map_append, List.append_assoc]
 simp [List.getD, h]
theorem zLA {l : List Pos} {nx : List (List Nat)} {E : List Ent} {i : Nat} : ((nx.getD i []).map Int.ofNat).any (fun x => decide ((E.getD x.toNat (0, 0)).1 = 1 + zAk l i)) = zKS l nx E i := by
 rw [List.any_map]; rfl
theorem zNb {l : List Pos} {nx : List (List Nat)} {E : List Ent} {i : Nat} : (!((nx.getD i []).map Int.ofNat).any (fun x => decide ((E.getD x.toNat (0, 0)).1 ≠ 2 - zAk l i))) = zI2 l nx E i := by
 rw [List.any_map, List.not_any_eq_all_not]
 unfold zI2 zDI
 congr 1
 funext k
 show (!decide ((E.getD k (0, 0)).1 ≠ 2 - zAk l i)) = decide ((E.getD k (0, 0)).1 = 1 + 1 - zAk l i)
 rw [show (2 : Int) = 1 + 1 by rfl]
 by_cases h : (E.getD k (0, 0)).1 = 1 + 1 - zAk l i
 ·rw [decide_eq_true h, decide_eq_false (fun q => q h)]; rfl
 ·rw [decide_eq_false h, decide_eq_true h]; rfl
def zBF (l : List Pos) (nx : List (List Nat)) (E : List Ent) (k : Nat) : List Nat := (List.range k).filter (zB5 l nx E)
theorem zLZ (l : List Pos) (nx : List (List Nat)) (E : List Ent) (k : Nat) : zBF l nx E (k + 1) = if zB5 l nx E k = true then zBF l nx E k ++ [k] else zBF l nx E k := by
 unfold zBF
 rw [List.range_succ, List.filter_append]
 by_cases h : zB5 l nx E k = true
 ·rw [if_pos h, List.filter_cons_of_pos h]; rfl
 ·rw [if_neg h, List.filter_cons_of_neg h]; simp
theorem zIo (l : List Pos) (nx : List (List Nat)) (E : List Ent) (k : Nat) : (zBF l nx E k).length ≤ k := by
 unfold zBF
 exact Nat.le_trans (List.length_filter_le ..) (by rw [List.length_range]; exact Nat.le_refl _)
theorem zNq {l : List Pos} {nx : List (List Nat)} {E : List Ent} {k i : Nat} (h : i ∈ zBF l nx E k) : i < k := List.mem_range.1 (List.mem_filter.1 h).1
/-- the results of those that were found -/
def zFU (l : List Pos) (nx : List (List Nat)) (E : List Ent) (f : List Nat) (k : Nat) : List Int := (f.take k).map (zDQ l nx E) ++ List.replicate (f.length - k) 0
theorem resK_len {l : List Pos} {nx : List (List Nat)} {E : List Ent} {f : List Nat} {k : Nat} (h : k ≤ f.length) : (zFU l nx E f k).length = f.length := by
 unfold zFU; rw [List.length_append, List.length_map, List.length_take, List.length_replicate]; omega
theorem zOG {l : List Pos} {nx : List (List Nat)} {E : List Ent} {f : List Nat} {k : Nat} (h : k < f.length) : zFU l nx E f (k + 1) = (zFU l nx E f k).set k (zDQ l nx E (f.getD k 0)) := by
 have hl : ((f.take k).map (zDQ l nx E)).length = k := by rw [List.length_map, List.length_take]; omega
 unfold zFU
 rw [List.set_append_right _ _ (by omega), hl, Nat.sub_self, show f.length - k = (f.length - (k + 1)) + 1 by omega, List.replicate_succ, List.set_cons_zero, List.take_succ_eq_append_getElem h, List.map_append, List.append_assoc]
 simp [List.getD, h]
theorem zOF {l : List Pos} {nx : List (List Nat)} {E : List Ent} {f : List Nat} {k : Nat} (h : k < f.length) : (zFU l nx E f f.length).getD k 0 = zDQ l nx E (f.getD k 0) := by
 unfold zFU
 rw [List.take_length, Nat.sub_self]
 simp [List.getD, h]
/-- the entries after closing the first k -/
def zCO (E : List Ent) (k : Nat) : List Ent := zB3 (E.take k) ++ E.drop k
theorem zLP (E : List Ent) : zCO E 0 = E := by unfold zCO zB3; simp
theorem zLN (E : List Ent) : zCO E E.length = zB3 E := by unfold zCO; rw [List.take_length, List.drop_length, List.append_nil]
theorem zIg (E : List Ent) (k : Nat) : (zCO E k).length = E.length := by
 unfold zCO zB3; rw [List.length_append, List.length_map, List.length_take, List.length_drop]; omega
theorem zNe {E : List Ent} {k : Nat} (h : k < E.length) : (zCO E k).getD k (0, 0) = E.getD k (0, 0) := by
 unfold zCO zB3
 rw [List.getD, List.getElem?_append_right (by rw [List.length_map, List.length_take]; omega), List.length_map, List.length_take, List.getElem?_drop, List.getD]
 congr 2; omega
theorem zLO {E : List Ent} {k : Nat} (h : k < E.length) : zCO E (k + 1) = if (E.getD k (0, 0)).1 = 0 then (zCO E k).set k (3, (E.getD k (0, 0)).2) else zCO E k := by
 have hl : (zB3 (E.take k)).length = k := by unfold zB3; rw [List.length_map, List.length_take]; omega
 have hd : E.drop k = E.getD k (0, 0) :: E.drop (k + 1) := by rw [List.drop_eq_getElem_cons h]; simp [List.getD, h]
 have ht : zB3 (E.take (k + 1)) = zB3 (E.take k) ++ [if (E.getD k (0, 0)).1 = 0 then (3, (E.getD k (0, 0)).2) else E.getD k (0, 0)] := by
  unfold zB3
  rw [List.take_succ_eq_append_getElem h, List.map_append]; simp [List.getD, h]
 unfold zCO
 rw [ht, hd, List.append_assoc]
 split
 ·rw [List.set_append_right _ _ (by omega), hl, Nat.sub_self, List.set_cons_zero]; rfl
 ·rfl
def zFG (r : Rules) : Option (List Pos × List (List Nat)) := grow r 3001 0 [zAI r] []
def zDx (r : Rules) : Int := if zAa r ≠ 0 then zAa r else if r.quiet ≠ 0 then 1 else match zFG r with | none => 2 | some _ => 0
def zFP (r : Rules) (x : List Pos × List (List Nat)) : Tab := ⟨r, x.1, x.2, zB3 (zw x.1 x.2 (zAM r x.1) x.1.length)⟩
theorem zJ7 {r : Rules} (hv : ValidR r) : ∀ {f i : Nat} {l : List Pos} {nx : List (List Nat)} {l' : List Pos} {nx' : List (List Nat)}, Grown r i l nx → 3001 ≤ f + i → grow r f i l nx = some (l', nx') → Grown r l'.length l' nx'
 | 0, i, l, nx, l', nx', G, hf, h => by
  have h1 := G.le
  have h2 := G.most
  omega
 | f + 1, i, l, nx, l', nx', G, hf, h => by
  rw [grow] at h
  split at h
  ·rename_i hi
   split at h
   ·cases h
   ·rename_i x hx
    obtain ⟨l1, ix⟩ := x
    refine zJ7 hv (f := f) (i := i + 1) (zIq G hi (fun m hm => ?_) hx) (by omega) h
    have S := (G.snd (l.getD i z7) (by
     rw [show l.getD i z7 = l[i] by simp [List.getD, hi]]
     exact List.getElem_mem hi)).1
    exact zFF hv S (zFk hv S hm)
  ·rename_i hi
   obtain ⟨rfl, rfl⟩ := Prod.mk.inj (Option.some.inj h)
   have h1 := G.le
   obtain rfl : i = l.length := by omega
   exact G
theorem zMd {r : Rules} (hv : ValidR r) {l : List Pos} {nx : List (List Nat)} (h : zFG r = some (l, nx)) : Grown r l.length l nx := zJ7 hv (zH6 hv) (Nat.le_refl _) h
theorem zOQ {l : List Pos} {nx : List (List Nat)} {E : List Ent} {n : Nat} (hE : E.length = l.length) (h : zA1 l nx E = []) : zDu l nx n E = E := by
 conv => rhs; rw [zI0 hE]
 unfold zDu
 refine List.map_congr_left (fun i hi => ?_)
 rw [if_neg]
 intro c
 have : i ∈ zA1 l nx E := List.mem_filter.2 ⟨hi, c⟩
 rw [h] at this
 cases this
theorem zEP {l : List Pos} {nx : List (List Nat)} {E0 : List Ent} (h0 : E0.length = l.length) {n : Nat} (h : zA1 l nx (zw l nx E0 n) = []) : ∀ d, zw l nx E0 (n + d) = zw l nx E0 n
 | 0 => rfl
 | d + 1 => by
  show zDu l nx (n + d + 1) (zw l nx E0 (n + d)) = _
  rw [zEP h0 h d]
  exact zOQ (zCx h0 n) h
theorem zMx {l : List Pos} {nx : List (List Nat)} {E0 : List Ent} (h0 : E0.length = l.length) {n m : Nat} (h : zA1 l nx (zw l nx E0 n) = []) (h' : zA1 l nx (zw l nx E0 m) = []) : zw l nx E0 n = zw l nx E0 m := by
 rcases Nat.le_total n m with q | q
 ·obtain ⟨d, rfl⟩ : ∃ d, m = n + d := ⟨m - n, by omega⟩
  exact (zEP h0 h d).symm
 ·obtain ⟨d, rfl⟩ : ∃ d, n = m + d := ⟨n - m, by omega⟩
  exact zEP h0 h' d
theorem zJM {l : List Pos} {nx : List (List Nat)} {E0 : List Ent} (h0 : E0.length = l.length) (ht : ∀ i, zAk l i = 0 ∨ zAk l i = 1) : zA1 l nx (zw l nx E0 l.length) = [] := by
 have key : ∀ n, (∃ m, m ≤ n ∧ zA1 l nx (zw l nx E0 m) = []) ∨ n + 1 + zBv (zw l nx E0 (n + 1)) ≤ l.length := by
  intro n
  induction n with
  | zero =>
   by_cases h : zA1 l nx (zw l nx E0 0) = []
   ·exact .inl ⟨0, Nat.le_refl _, h⟩
   ·right
    have := zFO (n := 0 + 1) h0 ht h
    have h2 : zBv E0 ≤ E0.length := List.length_filter_le ..
    show 0 + 1 + zBv (zDu l nx (0 + 1) E0) ≤ _
    have h3 : zBv (zw l nx E0 0) = zBv E0 := rfl
    omega
  | succ n ih =>
   rcases ih with ⟨m, hm, h⟩ | ih
   ·exact .inl ⟨m, by omega, h⟩
   ·by_cases h : zA1 l nx (zw l nx E0 (n + 1)) = []
    ·exact .inl ⟨n + 1, Nat.le_refl _, h⟩
    ·right
     have := zFO (n := n + 1 + 1) (zCx h0 (n + 1)) ht h
     show n + 1 + 1 + zBv (zDu l nx (n + 1 + 1) (zw l nx E0 (n + 1))) ≤ _
     omega
 rcases key l.length with ⟨m, hm, h⟩ | h
 ·obtain ⟨d, hd⟩ : ∃ d, l.length = m + d := ⟨l.length - m, by omega⟩
  rw [hd, zEP h0 h d]
  exact h
 ·omega
theorem zME {r : Rules} {l : List Pos} (h : ∀ p ∈ l, Sound r p ∧ p.quiet = 0) (i : Nat) : zAk l i = 0 ∨ zAk l i = 1 := by
 unfold zAk
 by_cases hi : i < l.length
 ·rw [show l.getD i z7 = l[i] by simp [List.getD, hi]]
  exact (h _ (List.getElem_mem hi)).1.tn
 ·left
  simp [List.getD, List.getElem?_eq_none (Nat.le_of_not_lt hi), z7]
/-- what New makes is a table -/
theorem new_tab {r : Rules} (hz : zAa r = 0) (hq : r.quiet = 0) {x : List Pos × List (List Nat)} (h : zFG r = some x) : TabOK (zFP r x) := by
 obtain ⟨l, nx⟩ := x
 have G := zMd (zAu hz) h
 exact ⟨hz, hq, G, l.length, zJM (List.length_map ..) (zME G.snd), J⟩
theorem new_ent {r : Rules} {x : List Pos × List (List Nat)} (G : Grown r x.1.length x.1 x.2) {N : Nat} (h : zA1 x.1 x.2 (zw x.1 x.2 (zAM r x.1) N) = []) : zB3 (zw x.1 x.2 (zAM r x.1) N) = (zFP r x).E := by
 show _ = zB3 (zw x.1 x.2 (zAM r x.1) x.1.length)
 rw [zMx (E0 := zAM r x.1) (List.length_map ..) h (zJM (List.length_map ..) (zME G.snd))]
theorem zN2 {r : Rules} (h : zDx r = 0) : zAa r = 0 ∧ r.quiet = 0 ∧ ∃ x, zFG r = some x := by
 unfold zDx at h
 split at h
 ·rename_i h1; exact absurd h h1
 rename_i h1
 split at h
 ·cases h
 rename_i h2
 split at h
 ·cases h
 ·rename_i x hx; exact ⟨Classical.not_not.1 h1, Classical.not_not.1 h2, x, hx⟩
theorem zNr {l : List Pos} {nx : List (List Nat)} {E0 : List Ent} (h0 : E0.length = l.length) {n : Nat} (h : zA1 l nx (zw l nx E0 n) ≠ []) {j : Nat} (hj : j ≤ n) : zA1 l nx (zw l nx E0 j) ≠ [] := fun c => by
 obtain ⟨d, rfl⟩ : ∃ d, n = j + d := ⟨n - j, by omega⟩
 rw [zEP h0 c d] at h
 exact h c
theorem zJ3 {l : List Pos} {nx : List (List Nat)} {E0 : List Ent} (h0 : E0.length = l.length) (ht : ∀ i, zAk l i = 0 ∨ zAk l i = 1) : ∀ {n : Nat}, zA1 l nx (zw l nx E0 n) ≠ [] → n + zBv (zw l nx E0 n) ≤ l.length
 | 0, _ => by
  have h2 : zBv E0 ≤ E0.length := List.length_filter_le ..
  show 0 + zBv E0 ≤ _
  omega
 | n + 1, h => by
  have h1 := zNr h0 h (Nat.le_succ n)
  have ih := zJ3 h0 ht h1
  have := zFO (n := n + 1) (zCx h0 n) ht h1
  show n + 1 + zBv (zDu l nx (n + 1) (zw l nx E0 n)) ≤ _
  omega
theorem zLa {l : List Pos} {nx : List (List Nat)} {E0 : List Ent} (h0 : E0.length = l.length) (ht : ∀ i, zAk l i = 0 ∨ zAk l i = 1) {n : Nat} (h : zA1 l nx (zw l nx E0 n) ≠ []) : n + 1 ≤ l.length := by
 have h1 := zJ3 h0 ht h
 obtain ⟨i, hi⟩ := List.exists_mem_of_ne_nil _ h
 obtain ⟨h2, h3⟩ := List.mem_filter.1 hi
 have h4 : 0 < zBv (zw l nx E0 n) := by
  unfold zBv
  rw [List.length_pos_iff]
  intro c
  have hl := zCx (nx := nx) h0 n
  have hil : i < (zw l nx E0 n).length := by rw [hl]; exact List.mem_range.1 h2
  have : (zw l nx E0 n)[i] ∈ (zw l nx E0 n).filter (fun x => decide (x.1 = 0)) := by
   refine List.mem_filter.2 ⟨List.getElem_mem hil, decide_eq_true ?_⟩
   have := zE9 h3
   unfold zDI at this
   rwa [show (zw l nx E0 n).getD i (0, 0) = (zw l nx E0 n)[i] by simp [List.getD, hil]] at this
  rw [c] at this
  cases this
 omega
theorem TabOK.plies_le {T : Tab} (h : TabOK T) {i : Nat} (hi : i < T.l.length) : (zBi T i).2 ≤ 3000 := by
 obtain ⟨N, h1, h2⟩ := h.S
 have S := zKP h.v h.G h1
 have hm := h.G.most
 unfold zBi
 rw [h2, zJ2 i hi S.len]
 split
 ·rename_i hz
  have := zHm S N hz
  show ((zw T.l T.nx (zAM T.r T.l) N).getD i (0, 0)).2 ≤ 3000
  omega
 ·rename_i hz
  obtain ⟨m, g1, g2, g3, g4⟩ := zG4 S.len S.zero N hz
  rw [g2]
  rcases g4 with rfl | ⟨q, rfl, gf⟩
  ·show ((0 : Nat) : Int) ≤ 3000; decide
  ·have : zA1 T.l T.nx (zw T.l T.nx (zAM T.r T.l) q) ≠ [] := fun c => by
    have : i ∈ zA1 T.l T.nx (zw T.l T.nx (zAM T.r T.l) q) := List.mem_filter.2 ⟨List.mem_range.2 hi, gf⟩
    rw [c] at this; cases this
   have := zLa S.len S.turn this
   omega
end Go.Ax.Gm
namespace Go.Ax
variable [Pins]
open Go.RowKit
def sclM (x : Value) : Option AV := match x with
 | .map none => some .any
 | v => scl v
theorem vr_sclM {w : World} {S : Nat → Prop} {σ : Nat → Option Blk} {x : Value} {v : AV} (h : sclM x = some v) : VR w S σ v x ∧ x.oneCell' = true := by
 unfold sclM at h
 split at h
 ·cases h; exact ⟨.any _ _, rfl⟩
 ·exact zK6 h
def zavM (v : Value) : Option (List AV) := v.cells.toList.mapM fun x => sclM x
theorem zOc {w : World} {S : Nat → Prop} {σ : Nat → Option Blk} {z : Value} {zs : List AV} (h : zavM z = some zs) : z.cells.size = zs.length ∧ ∀ j, j < zs.length → VR w S σ (zs.getD j .any) (z.cells.getD j undef) ∧ (z.cells.getD j undef).oneCell' = true := by
 unfold zavM at h
 have key : ∀ (l : List Value) (zs : List AV), l.mapM (fun x => sclM x) = some zs → l.length = zs.length ∧ ∀ j, j < zs.length → VR w S σ (zs.getD j .any) (l.getD j undef) ∧ (l.getD j undef).oneCell' = true := by
  intro l
  induction l with
  | nil => intro zs h; simp at h; subst h; exact ⟨rfl, fun j hj => by simp at hj⟩
  | cons x r ih =>
   intro zs h
   simp only [List.mapM_cons] at h
   cases h1 : sclM x with
   | none => simp [h1] at h
   | some y =>
    cases h2 : r.mapM (fun x => sclM x) with
    | none => simp [h1, h2] at h
    | some ys =>
     simp [h1, h2] at h
     subst h
     obtain ⟨i1, i2⟩ := ih ys h2
     refine ⟨by simp [i1], fun j hj => ?_⟩
     cases j with
     | zero => exact vr_sclM h1
     | succ j => simpa using i2 j (by simpa using hj)
 obtain ⟨k1, k2⟩ := key _ _ h
 refine ⟨by simpa using k1, fun j hj => ?_⟩
 have := k2 j hj
 have e : z.cells.toList.getD j undef = z.cells.getD j undef := by
  have hlt : j < z.cells.size := by simp at k1; omega
  simp [List.getD, Array.getD, hlt]
 rwa [e] at this
section
variable {P : Program} {fn : Func} {c : Ctx} {fr : Fr} {H : zQ} {k : List It}
/-- A struct's or an array's value. -/
theorem q_buildM {ind : Bool} {d : Option Nat} {ty : TypeId} {pos : String} {after : Array Edge} {g : Option (Nat × Bool)} {t : TypeId} {parts : List (Nat × Operand)} {it : TypeInfo} {z : Value} {zs L : List AV} {l : List (Nat × AV)} {pl : Nat → Option (Nat × Nat)}
 (hi : P.info? t = some it) (hz : it.zero = some z) (hzs : zavM z = some zs) (hpl : zHJ P t = some pl) (hl : zB4 fr parts = some l) (hf : zEX pl zs l = some L) :
 QOp ind P fn c fr H ⟨d, .build t parts.toArray, ty, pos, after, g⟩ (.agg L) := by
 intro w a σ S hr
 obtain ⟨y1, y2⟩ := zOc (w := w) (S := S) (σ := σ) hzs
 obtain ⟨cs', g1, g2⟩ := zF9 l _ z.cells zs L ⟨y1, y2⟩ (zDv hr parts l hl) hf
 refine ⟨.agg cs', .agg _ _ _ g2.1 (fun i hi => (g2.2 i hi).1) (fun i hi => (g2.2 i hi).2), fun w' _ => ?_⟩
 have hb : P.built t ((parts.toArray.map fun (i, x) => (i, a.eval x)).toList) = some cs' := by
  have e : (parts.toArray.map fun (i, x) => (i, a.eval x)).toList = parts.map fun (i, x) => (i, a.eval x) := by simp
  rw [e]
  unfold zHJ at hpl
  unfold Program.built
  cases hu : P.underlying t with
  | none => simp [hu] at hpl
  | some u =>
   cases u with
   | array nn e' =>
    simp only [hu] at hpl
    cases he : P.info? e' with
    | none => simp [he] at hpl
    | some ie =>
     simp only [he, Option.some.injEq] at hpl
     subst hpl
     simp only [hi, hz, he]
     exact g1
   | struct fields =>
    simp only [hu] at hpl
    cases he : fields.toList.mapM (fun f => (P.info? f.type).map fun i => (f.offset, i.size)) with
    | none => simp [he] at hpl
    | some places =>
     simp only [he, Option.some.injEq] at hpl
     subst hpl
     simp only [hi, hz, he]
     exact g1
   | _ => simp [hu] at hpl
 have hrun := run_build (P := P) w' t (parts.toArray.map fun (i, x) => (i, a.eval x)) cs' hb
 simp only [execOp, Sem.run_bind, hrun, Result.andThen_ok]
 rfl
end
end Go.Ax
namespace Go.Ax
open Go.RowKit
variable [Pins]
variable {P : Program} {fn : Func} {c : Ctx} {fr : Fr} {H : zQ} {d : Option Nat} {ty : TypeId} {pos : String} {after : Array Edge} {g : Option (Nat × Bool)}
theorem zCi {x : Operand} {t : TypeId} {u : TypeDesc} {i j : Nat} {cl : Cells} {inf : TypeInfo} {L : List AV} (ht : P.underlying t = some u) (hu : zBP u = true) (hinf : P.info? t = some inf) (hsz : Nat.ble (j + inf.size) cl.sz = true) (hx : ev fr x = some (.rp cl i j))
 (hL : (List.range inf.size).map (fun e => cl.at i (j + e)) = L) : QOp false P fn c fr H ⟨d, .load t x, ty, pos, after, g⟩ (.agg L) := by
 intro w a σ S hr
 have h1 := hr.evAt hx
 subst hL
 have hsz' := Nat.le_of_ble_eq_true hsz
 generalize hz : a.eval x = z at h1
 cases h1 with
 | rp _ _ _ _ b o val hS hc hvv h1' =>
  let cs : List Value := (List.range inf.size).map (fun e => val e)
  refine ⟨.agg cs.toArray, .agg _ _ _ (by simp [cs]) (fun e he => ?_) (fun e he => ?_), fun w' hw => ?_⟩
  ·have he' : e < inf.size := by simpa using he
   have := (hvv e (by omega)).mono (w' := w) (fun _ h => h) (fun _ _ => rfl) σ (fun _ _ h => by cases h)
   simpa [cs, Array.getD, he', List.getD] using this
  ·have he' : e < inf.size := by simpa using he
   have := h1' e (by omega)
   simpa [cs, Array.getD, he'] using this
  ·have hw := hw.resolve_left (by decide)
   have hl := run_loadCells_list (P := P) w' ⟨b, o, none⟩ cs (fun e v hv => by
    have he : e < inf.size := by simpa [cs] using (List.getElem?_eq_some_iff.1 hv).1
    simp only [cs, List.getElem?_map, List.getElem?_range he, Option.map_some, Option.some.injEq] at hv
    subst hv
    rw [Addr.add_lit]
    have := World.cell?_of_block (w := w) (w' := w') (a := ⟨b, o + e, none⟩) (by rw [hw])
    rw [this]; exact hc e (by omega))
   have hcl : cs.length = inf.size := by simp [cs]
   rw [hcl] at hl
   simp [execOp, hz, Instr.loadAt, Instr.sureAddr, loadVar, zCX ht, hu, sizeOf, typeInfo, hinf, hl]
end Go.Ax
namespace Go.Ax.Gm
def zD7 (r : Rules) : Nat → Pos → Nat
 | 0, _ => 1
 | d + 1, p => 1 + ((zAD r p).map (fun m => zD7 r d (zZ r p m))).sum
theorem zIw {α : Type} {f : α → Nat} {x : α} : ∀ {l : List α}, x ∈ l → f x ≤ (l.map f).sum
 | a :: l, h => by
  simp only [List.map_cons, List.sum_cons]
  rcases List.mem_cons.1 h with rfl | h
  ·omega
  ·have := zIw (f := f) h; omega
theorem zJv (r : Rules) {p : Pos} {m : Mv} (d : Nat) (h : m ∈ zAD r p) : zD7 r d (zZ r p m) ≤ zD7 r (d + 1) p := by
 have := zIw (f := fun m => zD7 r d (zZ r p m)) h
 rw [zD7]; omega
def ansB (r : Rules) (w : Pos → Mv → Bool) (own : Int) (q : Pos) (a : Mv) : Bool :=
 if zp r (zZ r q a) = own then true else if zp r (zZ r q a) = 0 then (zx r (zZ r q a)).any (w (zZ r q a)) else false
def zBp (r : Rules) : Nat → Pos → Mv → Bool
 | 0, p, m => decide (zp r (zZ r p m) = 1 + p.turn)
 | k + 1, p, m => if zp r (zZ r p m) ≠ 0 then decide (zp r (zZ r p m) = 1 + p.turn) else (zx r (zZ r p m)).all (ansB r (zBp r k) (1 + p.turn) (zZ r p m))
def zBN (r : Rules) (k : Nat) (p : Pos) : List Mv := (zx r p).filter (zBp r k p)
theorem zNA {r : Rules} {k : Nat} {p : Pos} : zBN r k p ≠ [] ↔ (zx r p).any (zBp r k p) = true := by
 unfold zBN
 rw [Ne, List.filter_eq_nil_iff, List.any_eq_true]
 constructor
 ·intro h
  refine Classical.byContradiction (fun c => h (fun a ha q => c ⟨a, ha, q⟩))
 ·rintro ⟨a, ha, q⟩ h
  exact h a ha q
theorem zHx {r : Rules} {k : Nat} {p : Pos} {m : Mv} (h : zp r (zZ r p m) ≠ 0) : zBp r k p m = decide (zp r (zZ r p m) = 1 + p.turn) := by
 cases k with
 | zero => rfl
 | succ k => rw [zBp, if_pos h]
theorem zM5 {r : Rules} {p : Pos} {m : Mv} (ht : p.turn = 0 ∨ p.turn = 1) (h : zp r (zZ r p m) = 0) : zBp r 0 p m = false := by
 rw [zBp, h, decide_eq_false]; omega
def zDm (r : Rules) (p : Pos) (d : Int) : Int := if zAp r p ≠ 0 then zAp r p else if d < 0 ∨ 12 < d then 1 else if 50000 < zD7 r d.toNat p then 17 else 0
def zI7 (n : Int) : Bool := decide (1 ≤ n) && (decide (n ≤ 5) && decide (n.tmod 2 = 1))
def zAC (r : Rules) (p : Pos) (n : Int) : Int := if zAp r p ≠ 0 then zAp r p else if zI7 n = false then 4 else if zp r p ≠ 0 then 14 else zDm r p n
theorem odd_is {n : Int} (h : zI7 n = true) : ∃ k : Nat, k ≤ 2 ∧ n = 2 * (k : Int) + 1 := by
 unfold zI7 at h
 simp only [Bool.and_eq_true, decide_eq_true_eq] at h
 obtain ⟨h1, h2, h3⟩ := h
 rw [Int.tmod_eq_emod_of_nonneg (by omega)] at h3
 exact ⟨(n.toNat - 1) / 2, by omega, by omega⟩
theorem odd_of {k : Nat} (h : k ≤ 2) : zI7 (2 * (k : Int) + 1) = true := by
 unfold zI7
 rw [Int.tmod_eq_emod_of_nonneg (by omega)]
 simp only [Bool.and_eq_true, decide_eq_true_eq]
 omega
structure Checked (r : Rules) (p : Pos) (k : Nat) : Prop where
 z : zAa r = 0
 S : Sound r p
 o : zp r p = 0
 k2 : k ≤ 2
 c : zD7 r (2 * k + 1) p ≤ 50000
theorem place_is {r : Rules} {p : Pos} (h : zAp r p = 0) : zAa r = 0 ∧ Sound r p := by
 unfold zAp at h
 split at h
 ·rename_i h1; exact absurd h h1
 ·rename_i h1; exact ⟨Classical.not_not.1 h1, zFw.1 h⟩
theorem zFa {r : Rules} {p : Pos} {n : Int} (h : zAC r p n = 0) : ∃ k : Nat, n = 2 * (k : Int) + 1 ∧ Checked r p k := by
 unfold zAC at h
 split at h
 ·rename_i h1; exact absurd h h1
 rename_i h1
 split at h
 ·cases h
 rename_i h2
 split at h
 ·cases h
 rename_i h3
 unfold zDm at h
 rw [if_neg h1] at h
 split at h
 ·cases h
 split at h
 ·cases h
 rename_i h4
 obtain ⟨a, b⟩ := place_is (Classical.not_not.1 h1)
 obtain ⟨k, hk, rfl⟩ := odd_is (Bool.not_eq_false _ ▸ h2)
 refine ⟨k, J, a, b, Classical.not_not.1 h3, hk, ?_⟩
 rw [show (2 * (k : Int) + 1).toNat = 2 * k + 1 by omega] at h4
 omega
theorem check_of {r : Rules} {p : Pos} {k : Nat} (h : Checked r p k) : zAC r p (2 * (k : Int) + 1) = 0 := by
 have hp := zGi h.z h.S
 unfold zAC zDm
 have h1 := h.k2
 have h2 := h.c
 rw [if_neg (fun c => c hp), if_neg (by rw [odd_of h1]; simp), if_neg (fun c => c h.o), if_neg (fun c => c hp), if_neg (by omega), if_neg]
 rw [show (2 * (k : Int) + 1).toNat = 2 * k + 1 by omega]
 omega
theorem Checked.v {r : Rules} {p : Pos} {k : Nat} (h : Checked r p k) : ValidR r := zAu h.z
theorem list_ok {r : Rules} {p : Pos} (hv : ValidR r) (S : Sound r p) {m : Mv} (h : m ∈ zx r p) : MvOK r p m := raw_ok hv S (zLm h)
theorem zB7 {r : Rules} {p : Pos} (hv : ValidR r) (S : Sound r p) {m : Mv} (h : m ∈ zx r p) : Sound r (zZ r p m) := zFF hv S (list_ok hv S h)
/-- two plies later -/
theorem Checked.down {r : Rules} {p : Pos} {k : Nat} (h : Checked r p (k + 1)) {m a : Mv} (hm : m ∈ zx r p) (hq : zp r (zZ r p m) = 0) (ha : a ∈ zx r (zZ r p m)) (hs : zp r (zZ r (zZ r p m) a) = 0) : Checked r (zZ r (zZ r p m) a) k := by
 have S1 := zB7 h.v h.S hm
 have S2 := zB7 h.v S1 ha
 have e1 := (zGh h.o h.S.tn).1
 have e2 := (zGh hq S1.tn).1
 refine ⟨h.z, S2, hs, by have := h.k2; omega, ?_⟩
 have c1 := zJv r (2 * k + 1) (p := zZ r p m) (m := a) (by rw [e2]; exact ha)
 have c2 := zJv r (2 * k + 2) (p := p) (m := m) (by rw [e1]; exact hm)
 have c3 := h.c
 rw [show 2 * (k + 1) + 1 = 2 * k + 2 + 1 by omega] at c3
 exact Nat.le_trans c1 (Nat.le_trans c2 c3)
def zBy (n : Int) : Nat := n.toNat / 2
theorem zHC (k : Nat) : zBy (2 * (k : Int) + 1) = k := by unfold zBy; omega
def zC1 (r : Rules) (p : Pos) (n : Int) : List Mv := if zAC r p n ≠ 0 then [] else zBN r (zBy n) p
def zDT (r : Rules) (p : Pos) (n : Int) : Int := if zAC r p n ≠ 0 then zAC r p n else if (zBN r (zBy n) p).length = 0 then 8 else if 1 < (zBN r (zBy n) p).length then 7 else 0
def zGL (r : Rules) (p : Pos) (n : Int) : Mv := if zDT r p n ≠ 0 then mv0 else (zBN r (zBy n) p).getD 0 mv0
/-- Least: number, error -/
def zHj (r : Rules) (p : Pos) : Nat → Nat → Int × Int
 | 0, _ => (0, 8)
 | f + 1, k => if zAC r p (2 * (k : Int) + 1) ≠ 0 then (0, zAC r p (2 * (k : Int) + 1)) else if 0 < (zBN r k p).length then (2 * (k : Int) + 1, 0) else zHj r p f (k + 1)
def zIx (r : Rules) (p : Pos) : Int × Int := zHj r p 3 0
abbrev zBg := Mv × List Int
def zBD : zBg := (mv0, [])
def zA0 (r : Rules) (k : Nat) (p : Pos) : Mv := (zBN r k p).getD 0 mv0
def zA7 (r : Rules) (f : Pos → Nat → List zBg) (q : Pos) : List Mv → Nat → List Int × List zBg
 | [], _ => ([], [])
 | a :: ms, b => if zp r (zZ r q a) ≠ 0 then (-1 :: (zA7 r f q ms b).1, (zA7 r f q ms b).2)
  else ((b : Int) :: (zA7 r f q ms (b + (f (zZ r q a) b).length)).1, f (zZ r q a) b ++ (zA7 r f q ms (b + (f (zZ r q a) b).length)).2)
def zAE (r : Rules) : Nat → Pos → Nat → List zBg
 | 0, p, _ => [(zA0 r 0 p, [])]
 | k + 1, p, b => (zA0 r (k + 1) p, (zA7 r (zAE r k) (zZ r p (zA0 r (k + 1) p)) (zAD r (zZ r p (zA0 r (k + 1) p))) (b + 1)).1) :: (zA7 r (zAE r k) (zZ r p (zA0 r (k + 1) p)) (zAD r (zZ r p (zA0 r (k + 1) p))) (b + 1)).2
def zEm (r : Rules) (p : Pos) (n : Int) : Int := if zAC r p n ≠ 0 then zAC r p n else if (zBN r (zBy n) p).length = 0 then 8 else if 256 < (zAE r (zBy n) p 0).length then 2 else 0
def zGr (r : Rules) (p : Pos) (n : Int) : List zBg := if zEm r p n ≠ 0 then [] else zAE r (zBy n) p 0
def zEu (r : Rules) (f : Pos → Int → Bool) (own : Int) (q : Pos) (j : Int) (x : Mv × Int) : Bool :=
 if zp r (zZ r q x.1) = own then decide (x.2 = -1) else if zp r (zZ r q x.1) = 0 then decide (j < x.2) && f (zZ r q x.1) x.2 else false
def headB (r : Rules) (l : List zBg) (p : Pos) (j : Int) (rest : Bool) : Bool :=
 if j < 0 ∨ (l.length : Int) ≤ j ∨ (l.getD j.toNat zBD).1 ∉ zx r p then false
 else if zp r (zZ r p (l.getD j.toNat zBD).1) ≠ 0 then decide (zp r (zZ r p (l.getD j.toNat zBD).1) = 1 + p.turn) && decide ((l.getD j.toNat zBD).2.length = 0)
 else rest
def zBI (r : Rules) (l : List zBg) : Nat → Pos → Int → Bool
 | 0, p, j => headB r l p j false
 | k + 1, p, j => headB r l p j (decide ((l.getD j.toNat zBD).2.length = (zx r (zZ r p (l.getD j.toNat zBD).1)).length) &&
  ((zx r (zZ r p (l.getD j.toNat zBD).1)).zip (l.getD j.toNat zBD).2).all (zEu r (zBI r l k) (1 + p.turn) (zZ r p (l.getD j.toNat zBD).1) j))
def zLz (r : Rules) (l : List zBg) : Nat → Pos → Int → Bool
 | 0, p, j => false
 | k + 1, p, j => (decide ((l.getD j.toNat zBD).2.length = (zx r (zZ r p (l.getD j.toNat zBD).1)).length) &&
  ((zx r (zZ r p (l.getD j.toNat zBD).1)).zip (l.getD j.toNat zBD).2).all (zEu r (zBI r l k) (1 + p.turn) (zZ r p (l.getD j.toNat zBD).1) j))
theorem zEx (r : Rules) (l : List zBg) (k : Nat) (p : Pos) (j : Int) : zBI r l k p j = if j < 0 ∨ (l.length : Int) ≤ j ∨ (l.getD j.toNat zBD).1 ∉ zx r p then false
 else if zp r (zZ r p (l.getD j.toNat zBD).1) ≠ 0 then decide (zp r (zZ r p (l.getD j.toNat zBD).1) = 1 + p.turn) && decide ((l.getD j.toNat zBD).2.length = 0)
 else zLz r l k p j := by cases k <;> rfl
def zDF (r : Rules) (p : Pos) (n : Int) (l : List zBg) : Int := if zAC r p n ≠ 0 then zAC r p n else if 256 < l.length then 2 else if zBI r l (zBy n) p 0 = false then 16 else 0
theorem zIn {r : Rules} {k : Nat} {p : Pos} (h : zBN r k p ≠ []) : zA0 r k p ∈ zx r p ∧ zBp r k p (zA0 r k p) = true := by
 unfold zA0
 obtain ⟨a, t, e⟩ : ∃ a t, zBN r k p = a :: t := by
  cases he : zBN r k p with
  | nil => exact absurd he h
  | cons a t => exact ⟨a, t, rfl⟩
 rw [e]
 have : a ∈ zBN r k p := by rw [e]; exact List.mem_cons_self ..
 exact List.mem_filter.1 this
/-- an answer after which there is a win -/
def ansP (r : Rules) (k : Nat) (own : Int) (q : Pos) (a : Mv) : Prop := zp r (zZ r q a) = own ∨ (zp r (zZ r q a) = 0 ∧ zBN r k (zZ r q a) ≠ [])
theorem ans_of {r : Rules} {k : Nat} {p : Pos} {m : Mv} (h : zBp r (k + 1) p m = true) (hq : zp r (zZ r p m) = 0) : ∀ a ∈ zx r (zZ r p m), ansP r k (1 + p.turn) (zZ r p m) a := by
 rw [zBp, if_neg (fun c => c hq), List.all_eq_true] at h
 intro a ha
 have h := h a ha
 unfold ansB at h
 split at h
 ·rename_i h1; exact .inl h1
 split at h
 ·rename_i h2; exact .inr ⟨h2, zNA.2 h⟩
 ·cases h
theorem zHF (r : Rules) (f : Pos → Nat → List zBg) (q : Pos) : ∀ (ms : List Mv) (b : Nat), (zA7 r f q ms b).1.length = ms.length
 | [], _ => rfl
 | a :: ms, b => by
  rw [zA7]
  split <;> simp [zHF r f q ms]
theorem zIp {α : Type} (pre S post : List α) (x d : α) : (pre ++ (x :: S) ++ post).getD pre.length d = x := by
 rw [List.append_assoc, List.getD, List.getElem?_append_right (Nat.le_refl _), Nat.sub_self]; rfl
/-- solutions prove -/
theorem zIH {r : Rules} : ∀ {k : Nat} {p : Pos} {b : Nat} {pre post : List zBg}, (p.turn = 0 ∨ p.turn = 1) → zBN r k p ≠ [] → pre.length = b → zBI r (pre ++ zAE r k p b ++ post) k p (b : Int) = true
 | 0, p, b, pre, post, ht, hw, hb => by
  obtain ⟨h1, h2⟩ := zIn hw
  subst hb
  have hg : (pre ++ zAE r 0 p pre.length ++ post).getD pre.length zBD = (zA0 r 0 p, []) := zIp pre [] post _ _
  rw [zEx, Int.toNat_natCast, hg]
  have hr : zp r (zZ r p (zA0 r 0 p)) = 1 + p.turn := by rw [zBp, decide_eq_true_eq] at h2; exact h2
  rw [if_neg, if_pos (by show zp r (zZ r p (zA0 r 0 p)) ≠ 0; rw [hr]; omega)]
  ·show (decide (zp r (zZ r p (zA0 r 0 p)) = 1 + p.turn) && decide (0 = 0)) = true
   rw [hr]; simp
  ·rintro (q | q | q)
   ·omega
   ·simp only [List.length_append, zAE, List.length_cons, List.length_nil] at q; omega
   ·exact q h1
 | k + 1, p, b, pre, post, ht, hw, hb => by
  obtain ⟨h1, h2⟩ := zIn hw
  subst hb
  obtain ⟨m, em⟩ : ∃ m, zA0 r (k + 1) p = m := ⟨_, rfl⟩
  rw [em] at h1 h2
  have es : zAE r (k + 1) p pre.length = (m, (zA7 r (zAE r k) (zZ r p m) (zAD r (zZ r p m)) (pre.length + 1)).1) :: (zA7 r (zAE r k) (zZ r p m) (zAD r (zZ r p m)) (pre.length + 1)).2 := by rw [zAE, em]
  obtain ⟨l, el⟩ : ∃ l, pre ++ zAE r (k + 1) p pre.length ++ post = l := ⟨_, rfl⟩
  rw [el]
  have hg : l.getD pre.length zBD = (m, (zA7 r (zAE r k) (zZ r p m) (zAD r (zZ r p m)) (pre.length + 1)).1) := by rw [← el, es]; exact zIp pre _ post _ _
  have hlen : pre.length < l.length := by rw [← el, es]; simp only [List.length_append, List.length_cons]; omega
  rw [zEx, Int.toNat_natCast, hg]
  rw [if_neg (by
   rintro (q | q | q)
   ·omega
   ·omega
   ·exact q h1)]
  by_cases hq : zp r (zZ r p m) = 0
  ·rw [if_neg (fun c => c hq)]
   have e1 : zAD r (zZ r p m) = zx r (zZ r p m) := by unfold zAD; rw [if_neg (fun c => c hq)]
   rw [zLz, Int.toNat_natCast, hg]
   show (decide ((zA7 r (zAE r k) (zZ r p m) (zAD r (zZ r p m)) (pre.length + 1)).1.length = (zx r (zZ r p m)).length) && _) = true
   rw [zHF, e1, decide_eq_true rfl, Bool.true_and]
   have hans := ans_of h2 hq
   rw [e1] at es
   have key : ∀ (ms : List Mv) (pr : List zBg) (po : List zBg), (∀ a ∈ ms, ansP r k (1 + p.turn) (zZ r p m) a) → pre.length < pr.length → l = pr ++ (zA7 r (zAE r k) (zZ r p m) ms pr.length).2 ++ po →
    (ms.zip (zA7 r (zAE r k) (zZ r p m) ms pr.length).1).all (zEu r (zBI r l k) (1 + p.turn) (zZ r p m) pre.length) = true := by
    intro ms
    induction ms with
    | nil => intro pr po _ _ _; rfl
    | cons a ms ih =>
     intro pr po ha hlt hl
     have h3 := ha a (List.mem_cons_self ..)
     by_cases ho : zp r (zZ r (zZ r p m) a) = 0
     ·rw [zA7, if_neg (fun c => c ho)] at hl ⊢
      rw [List.zip_cons_cons, List.all_cons, Bool.and_eq_true]
      have hne : zBN r k (zZ r (zZ r p m) a) ≠ [] := by
       rcases h3 with q | q
       ·omega
       ·exact q.2
      obtain ⟨s, es2⟩ : ∃ s, zAE r k (zZ r (zZ r p m) a) pr.length = s := ⟨_, rfl⟩
      constructor
      ·unfold zEu
       rw [if_neg (by show ¬ zp r (zZ r (zZ r p m) a) = 1 + p.turn; omega), if_pos ho, Bool.and_eq_true, decide_eq_true_eq]
       refine ⟨by show (pre.length : Int) < pr.length; omega, ?_⟩
       have := zIH (r := r) (k := k) (p := zZ r (zZ r p m) a) (b := pr.length) (pre := pr) (post := (zA7 r (zAE r k) (zZ r p m) ms (pr.length + (zAE r k (zZ r (zZ r p m) a) pr.length).length)).2 ++ po) (by show 1 - (1 - p.turn) = 0 ∨ 1 - (1 - p.turn) = 1; omega) hne rfl
       rw [hl]
       simp only [List.append_assoc] at this ⊢
       exact this
      ·rw [es2] at hl ⊢
       have := ih (pr ++ s) po (fun x hx => ha x (List.mem_cons_of_mem _ hx)) (by rw [List.length_append]; omega) (by rw [hl, List.length_append]; simp only [List.append_assoc])
       rw [List.length_append] at this
       exact this
     ·rw [zA7, if_pos ho] at hl ⊢
      rw [List.zip_cons_cons, List.all_cons, Bool.and_eq_true]
      constructor
      ·unfold zEu
       rcases h3 with q | q
       ·rw [if_pos q]; rfl
       ·exact absurd q.1 ho
      ·exact ih pr po (fun x hx => ha x (List.mem_cons_of_mem _ hx)) hlt hl
   have := key (zx r (zZ r p m)) (pre ++ [(m, (zA7 r (zAE r k) (zZ r p m) (zx r (zZ r p m)) (pre.length + 1)).1)]) post hans (by simp) (by
    rw [← el, es, List.length_append]
    simp only [List.append_assoc, List.length_cons, List.length_nil, List.cons_append, List.nil_append])
   rw [List.length_append] at this
   exact this
  ·rw [if_pos hq]
   have e1 : zAD r (zZ r p m) = [] := by unfold zAD; rw [if_pos hq]
   rw [zHx hq] at h2
   show (decide (zp r (zZ r p m) = 1 + p.turn) && decide ((zA7 r (zAE r k) (zZ r p m) (zAD r (zZ r p m)) (pre.length + 1)).1.length = 0)) = true
   rw [h2, zHF, e1]; rfl
theorem zK5 {p q : Pos} (h : zBw p = zBw q) : p.turn = q.turn := by
 have e := congrArg Pos.turn h
 exact e
def inT (T : Tab) (p : Pos) : Prop := zBH T.l p < T.l.length
def entQ (T : Tab) (p : Pos) : Ent := zBi T (zBH T.l p)
section
variable {T : Tab}
theorem TabOK.norm_at (h : TabOK T) {p : Pos} (I : inT T p) : zBw (T.l.getD (zBH T.l p) z7) = zBw p := by
 rw [zIR I]; rfl
theorem TabOK.in_at (h : TabOK T) {i : Nat} (hi : i < T.l.length) : inT T (T.l.getD i z7) ∧ entQ T (T.l.getD i z7) = zBi T i := by
 unfold inT entQ
 rw [h.idx hi]; exact ⟨hi, rfl⟩
theorem TabOK.turn_at (h : TabOK T) {p : Pos} (I : inT T p) : (T.l.getD (zBH T.l p) z7).turn = p.turn := zK5 (h.norm_at I)
theorem TabOK.turn01 (h : TabOK T) {p : Pos} (I : inT T p) : p.turn = 0 ∨ p.turn = 1 := by
 rw [← h.turn_at I]; exact (h.sound I).1.tn
def zD9 (T : Tab) (n : Int) : List Pos := (T.l.filter (fun p => decide (entQ T p = (1 + p.turn, n)) && decide ((zDH T p).length = 1)))
end
end Go.Ax.Gm
namespace Go.Ax.Gm
section
variable {T : Tab}
end
end Go.Ax.Gm
namespace Go.Ax.Gm
def zIW : List Mv → Bool
 | [] => true
 | a :: l => l.all (fun b => leM a b) && zIW l
theorem zIE : ∀ {l : List Mv}, zIW l = true → l.Pairwise (fun a b => leM a b = true)
 | [], _ => List.Pairwise.nil
 | a :: l, h => by
  rw [zIW, Bool.and_eq_true, List.all_eq_true] at h
  exact List.Pairwise.cons h.1 (zIE h.2)
theorem zH7 {r : Rules} {p : Pos} (h : zIW (rawM r p) = true) : zx r p = zt (rawM r p) := by
 unfold zx
 rw [List.mergeSort_of_pairwise (zIE h)]
def resultQ (r : Rules) (p : Pos) (L : List Mv) : Int :=
 if r.ends.findIdx (zDM r p (1 - p.turn)) < r.ends.length then (if (r.ends.getD (r.ends.findIdx (zDM r p (1 - p.turn))) en0).loses = true then 1 + p.turn else 1 + (1 - p.turn))
 else if r.quiet ≠ 0 ∧ r.quiet ≤ p.quiet then 3
 else if 0 < L.length then 0
 else if r.blocked = 0 then 1 + (1 - p.turn)
 else if r.blocked = 1 then 1 + p.turn else 3
theorem zL0 {r : Rules} {p : Pos} {L : List Mv} {x : Int} (h : zx r p = L) (hx : resultQ r p L = x) : zp r p = x := by rw [← hx, ← h]; rfl
theorem zIU {r : Rules} {p : Pos} {L M : List Mv} {x : Int} (h : zx r p = L) (hr : zp r p = x) (hm : (if x ≠ 0 then [] else L) = M) : zAD r p = M := by unfold zAD; rw [hr, h]; exact hm
theorem zJ6 {r : Rules} {f i : Nat} {l : List Pos} {nx : List (List Nat)} {ms : List Mv} {l' : List Pos} {ix : List Nat} {res : Option (List Pos × List (List Nat))} (hi : i < l.length) (hm : zAD r (l.getD i z7) = ms) (ha : zCZ r (l.getD i z7) ms l [] = some (l', ix)) (hk : grow r f (i + 1) l' (nx ++ [ix]) = res) : grow r (f + 1) i l nx = res := by
 rw [grow, if_pos hi, hm, ha]; exact hk
theorem zNt {r : Rules} {f i : Nat} {l : List Pos} {nx : List (List Nat)} (hi : ¬ i < l.length) : grow r (f + 1) i l nx = some (l, nx) := by rw [grow, if_neg hi]
def three : Rules := ⟨[82, 79, 87], 3, 1, [⟨65, 3, 0, []⟩], [1, 1, 0], false, false, [⟨0, 0, 3, false⟩], 0, 0, 0⟩
def threeL : List Pos := [⟨[1, 1, 0], [3], [3], 0, 0⟩, ⟨[1, 1, 1], [2], [3], 1, 0⟩]
def zJT : List (List Nat) := [[1], []]
def threeE : List Ent := [(1, 1), (1, 0)]
theorem zF0 : zx three ⟨[1, 1, 0], [3], [3], 0, 0⟩ = [⟨-1, 2, 0⟩] := (zH7 (by decide +kernel)).trans (by decide +kernel)
theorem zMB : zx three ⟨[1, 1, 1], [2], [3], 1, 0⟩ = [] := (zH7 (by decide +kernel)).trans (by decide +kernel)
theorem zF1 : zp three ⟨[1, 1, 0], [3], [3], 0, 0⟩ = 0 := zL0 zF0 (by decide +kernel)
theorem zJV : zp three ⟨[1, 1, 1], [2], [3], 1, 0⟩ = 1 := zL0 zMB (by decide +kernel)
theorem zJU : zFG three = some (threeL, zJT) := by
 unfold zFG
 refine zJ6 (ms := [⟨-1, 2, 0⟩]) (l' := threeL) (ix := [1]) (by decide) (zIU zF0 zF1 J) (by decide +kernel) ?_
 refine zJ6 (ms := []) (l' := threeL) (ix := []) (by decide) (zIU zMB zJV J) (by decide +kernel) ?_
 exact zNt (by decide)
theorem zCz : zAa three = 0 := by decide +kernel
theorem zOY : zDx three = 0 := by
 unfold zDx
 rw [zCz, if_neg (by decide), if_neg (by decide), zJU]
theorem zMD : zAM three threeL = [(0, 0), (1, 0)] := by
 unfold zAM threeL
 simp only [List.map_cons, List.map_nil, zF1, zJV]
def zGu : Tab := ⟨three, threeL, zJT, threeE⟩
theorem zOZ : zFP three (threeL, zJT) = zGu := by
 unfold zFP zGu
 congr 1
 show zB3 (zw threeL zJT (zAM three threeL) threeL.length) = threeE
 rw [zMD]
 decide +kernel
theorem zDR : zBN three 0 (zAI three) = [⟨-1, 2, 0⟩] := by
 unfold zBN
 rw [show zAI three = ⟨[1, 1, 0], [3], [3], 0, 0⟩ from rfl, zF0, List.filter_cons_of_pos]
 ·rfl
 ·rw [zBp, decide_eq_true_eq]
  exact zJV
theorem zOX : zD7 three 1 (zAI three) = 2 := by
 rw [zD7, zIU (show zx three (zAI three) = _ from zF0) zF1 rfl]; rfl
theorem three_checked : Checked three (zAI three) 0 := ⟨zCz, zEU (zAu zCz), zF1, by decide, by show zD7 three 1 (zAI three) ≤ 50000; rw [zOX]; decide⟩
theorem zCU : zAC three (zAI three) 1 = 0 := check_of three_checked
theorem zK3 : zAC three (zAI three) 2 = 4 := by
 unfold zAC
 rw [if_neg (fun c => c (zGi zCz (zEU (zAu zCz))))]; rfl
theorem zM1 : zC1 three (zAI three) 1 = [⟨-1, 2, 0⟩] := by
 unfold zC1
 rw [zCU, if_neg (by decide)]
 exact zDR
theorem zMC : zIx three (zAI three) = (1, 0) := by
 unfold zIx zHj
 rw [show (2 * ((0 : Nat) : Int) + 1) = 1 from rfl, zCU, if_neg (by decide), zDR]; rfl
theorem zHR : zDT three (zAI three) 1 = 0 ∧ zGL three (zAI three) 1 = ⟨-1, 2, 0⟩ := by
 have h : zDT three (zAI three) 1 = 0 := by
  unfold zDT
  rw [zCU, if_neg (by decide), show zBy 1 = 0 from rfl, zDR]; rfl
 refine ⟨h, ?_⟩
 unfold zGL
 rw [h, if_neg (by decide), show zBy 1 = 0 from rfl, zDR]; rfl
theorem zF2 : zAE three 0 (zAI three) 0 = [(⟨-1, 2, 0⟩, [])] := by
 rw [zAE, zA0, zDR]; rfl
theorem zIJ : zEm three (zAI three) 1 = 0 ∧ zGr three (zAI three) 1 = [(⟨-1, 2, 0⟩, [])] := by
 have h : zEm three (zAI three) 1 = 0 := by
  unfold zEm
  rw [zCU, if_neg (by decide), show zBy 1 = 0 from rfl, zDR, zF2]; rfl
 refine ⟨h, ?_⟩
 unfold zGr
 rw [h, if_neg (by decide), show zBy 1 = 0 from rfl, zF2]
theorem zK4 : zDF three (zAI three) 1 [(⟨-1, 2, 0⟩, [])] = 0 := by
 have h := zIH (r := three) (k := 0) (p := zAI three) (b := 0) (pre := []) (post := []) (.inl rfl) (by rw [zDR]; simp) rfl
 rw [zF2] at h
 unfold zDF
 rw [zCU, if_neg (by decide), if_neg (by decide), show zBy 1 = 0 from rfl, if_neg]
 rw [Bool.not_eq_false]
 exact h
theorem zMA : zDF three (zAI three) 1 [] = 16 := by
 unfold zDF
 rw [zCU, if_neg (by decide), if_neg (by decide), show zBy 1 = 0 from rfl, if_pos]
 rw [zEx, if_pos]
 right; left; decide
theorem zM0 : zDH zGu (zAI three) = [⟨-1, 2, 0⟩] := by
 have hm : zEG zGu (zAI three) = [⟨-1, 2, 0⟩] := zIU zF0 zF1 rfl
 have hf : zDZ zGu (zAI three) = 0 := by decide +kernel
 have h : zFY zGu (zAI three) = 0 := by
  unfold zFY
  rw [hf, hm]; rfl
 unfold zDH
 rw [h, if_neg (by decide), hm]
 decide +kernel
theorem zJi : zD9 zGu 1 = [zAI three] := by
 unfold zD9
 show List.filter _ [zAI three, ⟨[1, 1, 1], [2], [3], 1, 0⟩] = _
 rw [List.filter_cons_of_pos, List.filter_cons_of_neg]
 ·rfl
 ·rw [Bool.and_eq_true, not_and]
  intro h
  exact absurd h (by decide +kernel)
 ·rw [Bool.and_eq_true]
  exact ⟨by decide +kernel, by rw [zM0]; rfl⟩
end Go.Ax.Gm
namespace Go.Ax
open Go.RowKit
variable [Pins]
variable {ind : Bool} {P : Program} {fn : Func} {c : Ctx} {fr : Fr} {H : zQ} {d : Option Nat} {ty : TypeId} {pos : String} {after : Array Edge} {g : Option (Nat × Bool)}
theorem zLy {x : Operand} {t e : TypeId} {lo hi : Option Operand} {lo' hi' : Option AV} {h' i n : Nat} {ob : AObj} {l h : Int} (ht : P.underlying t = some (.slice e)) (hx : ev fr x = some (.sl h' i n)) (hh : H[h']? = some (some ob)) (hs : (P.info? e).map (·.size) = some ob.c.sz) (h1 : evo fr lo = some lo') (h2 : evo fr hi = some hi') (h3 : zEl 0 lo' = some l) (h4 : zEl n hi' = some h) (hb : 0 ≤ l ∧ l ≤ h ∧ h ≤ n ∧ l < n) :
 QOp ind P fn c fr H ⟨d, .slice t x lo hi none, ty, pos, after, g⟩ (.sl h' (i + l.toNat) (h - l).toNat) := by
 intro w a σ S hr
 have hxv := hr.evAt hx
 generalize hz : a.eval x = z at hxv
 have hsub : h.toNat - l.toNat = (h - l).toNat := by omega
 cases hxv with
 | sl0 => omega
 | sl _ _ _ _ b s C cap hσ hlen hcap =>
  obtain ⟨hs', cur, g1, g2, g3, g4, g5, g6⟩ := hr.obj hh hσ
  subst hs'
  have hne : ¬ cap = l.toNat := by omega
  refine ⟨.slice (some ⟨b, (i + l.toNat) * ob.c.sz, none⟩) (h - l).toNat (cap - l.toNat), .sl _ _ _ _ _ _ C _ hσ (by omega) (by omega), fun w' _ => ?_⟩
  have hbs := zA9 (P := P) (w := w') (isS := true) (cap := cap) hr h1 h2 h3 h4 ⟨by omega, by omega, by omega⟩
  cases hq : P.info? e with
  | none => simp [hq] at hs
  | some inf =>
   have hsz : inf.size = ob.c.sz := by simpa [hq] using hs
   simp [execOp, hz, Instr.sliceAt, Instr.slice, run_underlying ht, hbs, sizeOf, typeInfo, hq, hsub, hsz, Addr.add_lit, hne, Nat.add_mul]
end Go.Ax
namespace Go.Ax
variable [Pins]
open Go.RowKit
abbrev zC4 := List (Nat × Fr)
def zHh : zC4 → Fr
 | [] => []
 | s :: r => s.2 ++ zHh r
theorem zGf {p : Nat × AV} : ∀ {st : zC4}, p ∈ zHh st ↔ ∃ s ∈ st, p ∈ s.2
 | [] => have _p := ‹Pins›; by simp [zHh]
 | s :: r => by
  have _p := ‹Pins›
  have := zGf (p := p) (st := r)
  simp [zHh, this]
def zIN (st : zC4) (K0 : Fr) (o : Oper) : Fr := zHh (st.filter (fun s => o.after.toList.any (fun e => Nat.beq e.on s.1 && Region.binds .any e))) ++ K0
/-- May operation i come up when j operations of the chain have run? -/
def zHk (all : Array Oper) (idx chain : List Nat) (i j : Nat) : Bool :=
 Nat.ble j chain.length && (List.range chain.length).all fun p =>
  (!zEv all idx (idx.length + 1) i (chain.getD p 0) || Nat.blt p j) && ((!zEv all idx (idx.length + 1) (chain.getD p 0) i || Nat.ble j p) && (!Nat.beq (chain.getD p 0) i || Nat.beq j p))
/-- Is the chain a chain? -/
def zKo (all : Array Oper) (idx chain : List Nat) : Bool :=
 chain.all (fun i => idx.contains i) && (List.range chain.length).all fun p => (List.range p).all fun q => !Nat.beq (chain.getD q 0) (chain.getD p 0) && zEv all idx (idx.length + 1) (chain.getD p 0) (chain.getD q 0)
def zKi (fs : Fr) (o : Oper) : Prop := (fs = [] ∧ o.dst = none) ∨ ∃ d v, fs = [(d, v)] ∧ o.dst = some d
def okRunM (all : Array Oper) (listed : Array Bool) (idx : List Nat) (k0 : List Nat) : Bool :=
 (idx.all fun i => !listed.getD i true && (match all[i]? with
  | some o => (match o.dst with | some d => !k0.contains d | none => true) && o.after.toList.all (fun e => !Region.binds .any e || (Nat.blt e.on i && (idx.contains e.on || listed.getD e.on false)))
  | none => false)) &&
 ((List.range all.size).all fun j => idx.contains j || listed.getD j true || idx.all (fun i => zEv all idx (idx.length + 1) j i) || zK7 all listed idx j) &&
 (idx.all fun i => idx.all fun j => Nat.beq i j || !(match all[i]?, all[j]? with | some o, some o' => (match o.dst, o'.dst with | some d, some d' => Nat.beq d d' | _, _ => false) | _, _ => false))
section
variable {P : Program} {fn : Func} {c : Ctx} {fr : Fr} {H : zQ} {k : List It}
/-- One operation: what it asks of the slots, what it leaves. -/
def zKV (P : Program) (fn : Func) (c : Ctx) (H H' : zQ) (all : Array Oper) (K : Fr) (o : Oper) (fs : Fr) : Prop :=
 ∀ (k : List It) (fr : Fr), zA2 fr K → Ax P fn c (.ops false all [] k) (fs ++ fr) H' → Ax P fn c (.ops false all [o] k) fr H
def zEa (chain : List Nat) (i j : Nat) : Nat := if chain.contains i then j + 1 else j
def zES (P : Program) (fn : Func) (c : Ctx) (Hs : Nat → zQ) (all : Array Oper) (K0 : Fr) (idx0 chain : List Nat) : List Nat → zC4 → (zC4 → Prop) → Prop
 | [], st, G => G st
 | i :: r, st, G => ∃ o fs, all[i]? = some o ∧ zKi fs o ∧ (∀ j, zHk all idx0 chain i j = true → zKV P fn c (Hs j) (Hs (zEa chain i j)) all (zIN st K0 o) o fs) ∧ zES P fn c Hs all K0 idx0 chain r ((i, fs) :: st) G
def zF5 (P : Program) (fn : Func) (c : Ctx) (Hs : Nat → zQ) (all : Array Oper) (K0 : Fr) (idx0 chain : List Nat) (st : zC4) (s : Nat × Fr) : Prop :=
 ∃ o K, all[s.1]? = some o ∧ zKi s.2 o ∧ (∀ j, zHk all idx0 chain s.1 j = true → zKV P fn c (Hs j) (Hs (zEa chain s.1 j)) all K o s.2) ∧ ∀ p ∈ K, p ∈ K0 ∨ ∃ s' ∈ st, (∃ e ∈ o.after, Region.binds .any e = true ∧ e.on = s'.1) ∧ p ∈ s'.2
theorem zF5.mono {Hs : Nat → zQ} {all : Array Oper} {K0 : Fr} {idx0 chain : List Nat} {st st' : zC4} {s : Nat × Fr} (hs : ∀ x ∈ st, x ∈ st') (h : zF5 P fn c Hs all K0 idx0 chain st s) : zF5 P fn c Hs all K0 idx0 chain st' s := by
 obtain ⟨o, K, h1, h2, h3, h4⟩ := h
 refine ⟨o, K, h1, h2, h3, fun p hp => ?_⟩
 rcases h4 p hp with q | ⟨s', q1, q2⟩
 ·exact .inl q
 ·exact .inr ⟨s', hs _ q1, q2⟩
theorem zI4 {Hs : Nat → zQ} {all : Array Oper} {K0 : Fr} {idx0 chain : List Nat} {G : zC4 → Prop} : ∀ {idx : List Nat} {st : zC4}, zES P fn c Hs all K0 idx0 chain idx st G → (∀ s ∈ st, zF5 P fn c Hs all K0 idx0 chain st s) → ∃ st', G st' ∧ st'.map (·.1) = idx.reverse ++ st.map (·.1) ∧ (∀ s ∈ st', zF5 P fn c Hs all K0 idx0 chain st' s)
 | [], st, h, hs => ⟨st, h, by simp, hs⟩
 | i :: r, st, h, hs => by
  obtain ⟨o, fs, h1, h2, h3, h4⟩ := h
  have hsub : ∀ x ∈ st, x ∈ (i, fs) :: st := fun x hx => List.mem_cons_of_mem _ hx
  have hstep : zF5 P fn c Hs all K0 idx0 chain ((i, fs) :: st) (i, fs) := by
   refine ⟨o, zIN st K0 o, h1, h2, h3, fun p hp => ?_⟩
   unfold zIN at hp
   rcases List.mem_append.1 hp with q | q
   ·obtain ⟨s, q1, q2⟩ := zGf.1 q
    obtain ⟨q3, q4⟩ := List.mem_filter.1 q1
    obtain ⟨e, q5, q6⟩ := List.any_eq_true.1 q4
    rw [Bool.and_eq_true] at q6
    exact .inr ⟨s, hsub _ q3, ⟨e, Array.mem_toList_iff.1 q5, q6.2, Nat.eq_of_beq_eq_true q6.1⟩, q2⟩
   ·exact .inl q
  obtain ⟨st', g1, g2, g3⟩ := zI4 h4 (fun s hs' => by
   rcases List.mem_cons.1 hs' with rfl | q
   ·exact hstep
   ·exact (hs s q).mono hsub)
  exact ⟨st', g1, by rw [g2]; simp, g3⟩
def unlM (cur : Array Bool) (st : zC4) : Nat := (st.filter (fun s => !cur.getD s.1 true)).length
theorem zI1 {fs : Fr} {t : Nat} (h : ∀ p ∈ fs, p.1 ≠ t) : zAY t (fs ++ fr) = zAY t fr := by
 have _p := ‹Pins›
 induction fs with
 | nil => rfl
 | cons p r ih =>
  obtain ⟨u, v⟩ := p
  show (bif Nat.beq t u then some v else zAY t (r ++ fr)) = _
  rw [zBQ (fun e => h (u, v) (by simp) e.symm)]
  exact ih (fun q hq => h q (by simp [hq]))
theorem zDV {all : Array Oper} {fuel : Nat} {listed listed' : Array Bool} (idx chain : List Nat) (Hs : Nat → zQ) (K0 : Fr) (hK : zA2 fr K0) (hok : okRunM all listed idx (K0.map (·.1)) = true) (hch : zKo all idx chain = true) (hH : Hs 0 = H) (hnd : idx.Nodup) (hd : zCt fn.ntmps all.toList = true) (hl : zFM listed idx = listed')
 (h : zES P fn c Hs all K0 idx chain idx [] (fun st => Ax P fn c (.any all fuel listed' k) (zHh st ++ K0) (Hs chain.length))) : Ax P fn c (.any all (fuel + idx.length) listed k) fr H := by
 obtain ⟨st, hG, hidx, hst⟩ := zI4 h (fun s hs => by simp at hs)
 rw [List.map_nil, List.append_nil] at hidx
 clear h
 unfold okRunM at hok
 simp only [Bool.and_eq_true] at hok
 obtain ⟨⟨ok1, ok2⟩, ok3⟩ := hok
 rw [List.all_eq_true] at ok1 ok2 ok3
 have hmem : ∀ i, i ∈ idx ↔ ∃ s ∈ st, s.1 = i := fun i => by
  have : i ∈ idx.reverse ↔ ∃ s ∈ st, s.1 = i := by rw [← hidx]; simp
  rw [← this, List.mem_reverse]
 have hlen : st.length = idx.length := by
  have := congrArg List.length hidx
  simpa using this
 have hnd' : (st.map (·.1)).Nodup := by rw [hidx]; exact (List.reverse_perm idx).nodup_iff.2 hnd
 have hlt : ∀ i ∈ idx, i < listed.size := fun i hi => by
  have := ok1 i hi
  simp only [Bool.and_eq_true, Bool.not_eq_true'] at this
  rcases Nat.lt_or_ge i listed.size with q | q
  ·exact q
  ·have h1 := this.1
   simp only [Array.getD, show ¬ i < listed.size by omega, dite_false] at h1
   cases h1
 have chin : ∀ i ∈ chain, i ∈ idx := by
  unfold zKo at hch
  rw [Bool.and_eq_true, List.all_eq_true] at hch
  intro i hi
  simpa using hch.1 i hi
 have chpair : ∀ p q, p < chain.length → q < p → chain.getD q 0 ≠ chain.getD p 0 ∧ zEv all idx (idx.length + 1) (chain.getD p 0) (chain.getD q 0) = true := by
  unfold zKo at hch
  rw [Bool.and_eq_true, List.all_eq_true, List.all_eq_true] at hch
  intro p q hp hq
  have h1 := List.all_eq_true.1 (hch.2 p (List.mem_range.2 hp)) q (List.mem_range.2 hq)
  rw [Bool.and_eq_true, Bool.not_eq_true'] at h1
  exact ⟨fun e => by (rw [e, Nat.beq_refl] at h1; exact absurd h1.1 (by decide)), h1.2⟩
 -- the induction
 have key : ∀ (m : Nat) (j0 : Nat) (cur : Array Bool) (fr : Fr), j0 ≤ chain.length → (∀ p, p < chain.length → (cur.getD (chain.getD p 0) true = true ↔ p < j0)) → cur.size = listed.size → (∀ j, j ∉ idx → cur[j]? = listed[j]?) → unlM cur st = m → (∀ s ∈ st, cur.getD s.1 true = true → ∀ f ∈ s.2, zAY f.1 fr = some f.2) → zA2 fr K0 → (∀ m' ∈ idx, cur.getD m' true = true → ∀ o, all[m']? = some o → ∀ e ∈ o.after, Region.binds .any e = true → cur.getD e.on false = true) → Ax P fn c (.any all (fuel + m) cur k) fr (Hs j0) := by
  intro m
  induction m with
  | zero =>
   intro j0 cur fr hj1 hj2 hcs hco hcm hck hk0 hcl
   have hall : ∀ s ∈ st, cur.getD s.1 true = true := fun s hs => by
    cases hq : cur.getD s.1 true with
    | true => rfl
    | false =>
     exfalso
     have h0 : st.filter (fun s => !cur.getD s.1 true) = [] := List.length_eq_zero_iff.1 hcm
     have : s ∈ st.filter (fun s => !cur.getD s.1 true) := List.mem_filter.2 ⟨hs, by rw [hq]; rfl⟩
     rw [h0] at this; simp at this
   have hcur : cur = listed' := by
    rw [← hl]
    apply Array.ext_getElem?
    intro j
    rcases Nat.lt_or_ge j listed.size with q | q
    ·rw [zFN idx listed j q]
     by_cases hj : j ∈ idx
     ·rw [if_pos hj]
      obtain ⟨s, hs1, hs2⟩ := (hmem j).1 hj
      have := hall s hs1
      rw [hs2] at this
      simp only [Array.getD, show j < cur.size by omega, dite_true] at this
      rw [Array.getElem?_eq_getElem (by omega)]
      exact congrArg some this
     ·rw [if_neg hj]; exact hco j hj
    ·rw [Array.getElem?_eq_none (by omega), Array.getElem?_eq_none (by rw [zEf]; omega)]
   subst hcur
   have hjm : j0 = chain.length := by
    apply Classical.byContradiction
    intro hne
    have hlt0 : j0 < chain.length := by omega
    have hm0 := chin _ (zAN 0 hlt0)
    obtain ⟨s, hs1, hs2⟩ := (hmem _).1 hm0
    have h1 := hall s hs1
    rw [hs2] at h1
    have := (hj2 j0 hlt0).1 h1
    omega
   rw [hjm]
   intro w a σ S hr
   refine hG w a σ S (hr.weaken (zCf fun p hp => ?_))
   rcases List.mem_append.1 hp with q | q
   ·obtain ⟨s, q1, q2⟩ := zGf.1 q
    exact hck s q1 (hall s q1) p q2
   ·exact zCg hk0 p q
  | succ m ih =>
   intro j0 cur fr hj1 hj2 hcs hco hcm hck hk0 hcl
   -- some step is left
   obtain ⟨s0, hs0, hs0u⟩ : ∃ s ∈ st, cur.getD s.1 true = false := by
    rcases hq : st.filter (fun s => !cur.getD s.1 true) with _ | ⟨s, r⟩
    ·unfold unlM at hcm; rw [hq] at hcm; simp at hcm
    ·have : s ∈ st.filter (fun s => !cur.getD s.1 true) := by rw [hq]; simp
     obtain ⟨h1, h2⟩ := List.mem_filter.1 this
     exact ⟨s, h1, by simpa using h2⟩
   have hsub : ∀ i ∈ Region.ready .any all cur, i ∈ idx ∧ cur.getD i true = false := by
    intro i hi
    obtain ⟨h1, o, ho, hdeps⟩ := mem_ready.1 hi
    refine ⟨?_, h1⟩
    apply Classical.byContradiction
    intro hni
    have hjs : i < all.size := (Array.getElem?_eq_some_iff.1 ho).1
    have := ok2 i (List.mem_range.2 hjs)
    simp only [Bool.or_eq_true, ho] at this
    rcases this with ((q | q) | q) | q
    ·exact hni (by simpa using q)
    ·have hco' := hco i hni
     have h2 : listed.getD i true = cur.getD i true := by
      simp only [Array.getD_eq_getD_getElem?, hco']
     rw [h2, h1] at q; cases q
    ·rw [List.all_eq_true] at q
     have h3 := zEH hcl _ i s0.1 (q s0.1 ((hmem s0.1).2 ⟨s0, hs0, rfl⟩)) (fun o' ho' e he hb => by
      rw [ho] at ho'
      obtain rfl := Option.some.inj ho'
      exact hdeps e he hb)
     rw [h3] at hs0u; cases hs0u
    ·unfold zK7 at q
     rw [ho] at q
     obtain ⟨e, he1, he2⟩ := List.any_eq_true.1 q
     simp only [Bool.and_eq_true, Bool.not_eq_true'] at he2
     obtain ⟨hb, hne, hnl⟩ := he2
     have hni' : e.on ∉ idx := fun q => by
      have : idx.contains e.on = true := by simpa using q
      rw [this] at hne; cases hne
     have hd1 := hdeps e (Array.mem_toList_iff.1 he1) hb
     have hco' := hco e.on hni'
     rw [Array.getD_eq_getD_getElem?] at hd1 hnl
     rw [hco'] at hd1
     cases hx : listed[e.on]? with
     | none => rw [hx] at hd1; cases hd1
     | some b =>
      rw [hx] at hd1 hnl
      have e1 : b = true := hd1
      have e2 : b = false := hnl
      rw [e1] at e2; cases e2
   have hne : Region.ready .any all cur ≠ [] := by
    intro h0
    -- the least one that is left
    have hex : ∃ i, i ∈ idx ∧ cur.getD i true = false := ⟨s0.1, (hmem s0.1).2 ⟨s0, hs0, rfl⟩, hs0u⟩
    have least : ∀ n i, i ≤ n → i ∈ idx → cur.getD i true = false → False := by
     intro n
     induction n with
     | zero =>
      intro i hi him hiu
      have h1 := ok1 i him
      simp only [Bool.and_eq_true] at h1
      cases hoo : all[i]? with
      | none => rw [hoo] at h1; exact absurd h1.2 (by simp)
      | some o =>
       rw [hoo] at h1
       simp only [Bool.and_eq_true] at h1
       have h2 := List.all_eq_true.1 h1.2.2
       have : i ∈ Region.ready .any all cur := mem_ready.2 ⟨hiu, o, hoo, fun e he hb => by
        have := h2 e (Array.mem_toList_iff.2 he)
        rw [hb] at this
        simp only [Bool.not_true, Bool.false_or, Bool.and_eq_true] at this
        have := Nat.le_of_ble_eq_true this.1
        omega⟩
       rw [h0] at this; simp at this
     | succ n ihn =>
      intro i hi him hiu
      have h1 := ok1 i him
      simp only [Bool.and_eq_true] at h1
      cases hoo : all[i]? with
      | none => rw [hoo] at h1; exact absurd h1.2 (by simp)
      | some o =>
       rw [hoo] at h1
       simp only [Bool.and_eq_true] at h1
       have h2 := List.all_eq_true.1 h1.2.2
       have : i ∈ Region.ready .any all cur := mem_ready.2 ⟨hiu, o, hoo, fun e he hb => by
        have h3 := h2 e (Array.mem_toList_iff.2 he)
        rw [hb] at h3
        simp only [Bool.not_true, Bool.false_or, Bool.and_eq_true, Bool.or_eq_true] at h3
        have hlt' : e.on < i := Nat.le_of_ble_eq_true h3.1
        by_cases hei : e.on ∈ idx
        ·cases hq : cur.getD e.on true with
         | false => exact (ihn e.on (by omega) hei hq).elim
         | true =>
          have hsz := hlt e.on hei
          simp only [Array.getD, show e.on < cur.size by omega, dite_true] at hq ⊢
          exact hq
        ·rcases h3.2 with q | q
         ·exact absurd (by simpa using q) hei
         ·have h2 : cur.getD e.on false = listed.getD e.on false := by simp only [Array.getD_eq_getD_getElem?, hco e.on hei]
          rw [h2]; exact q⟩
       rw [h0] at this; simp at this
    obtain ⟨i, hi1, hi2⟩ := hex
    exact least i i (Nat.le_refl _) hi1 hi2
   refine zH J hne hd (zIP (fun i hi o ho => ?_))
   obtain ⟨him, hiu⟩ := hsub i hi
   obtain ⟨s, hs1, hs2⟩ := (hmem i).1 him
   obtain ⟨o', K, g1, g2, g3, g4⟩ := hst s hs1
   rw [hs2, ho] at g1
   obtain rfl := Option.some.inj g1
   obtain ⟨_, o2, ho2, hdeps⟩ := mem_ready.1 hi
   rw [ho] at ho2
   obtain rfl := Option.some.inj ho2
   have hdn : ∀ i', zEv all idx (idx.length + 1) i i' = true → cur.getD i' true = true := fun i' h => zEH hcl _ i i' h (fun o' ho' e he hb => by
    rw [ho] at ho'
    obtain rfl := Option.some.inj ho'
    exact hdeps e he hb)
   have hup : ∀ p, p < chain.length → zEv all idx (idx.length + 1) (chain.getD p 0) i = true → j0 ≤ p := fun p hp hn => by
    rcases Nat.lt_or_ge p j0 with q | q
    ·have h1 := (hj2 p hp).2 q
     have h2 := zEH hcl _ _ i hn (hcl _ (chin _ (zAN 0 hp)) h1)
     rw [hiu] at h2; cases h2
    ·exact q
   have hself : ∀ p, p < chain.length → chain.getD p 0 = i → j0 = p := fun p hp he => by
    have h1 : ¬ p < j0 := fun q => by
     have h2 := (hj2 p hp).2 q
     rw [he, hiu] at h2; cases h2
    have h3 : p ≤ j0 := by
     rcases Nat.eq_zero_or_pos p with q | q
     ·omega
     ·have h4 := (chpair p (p - 1) hp (by omega)).2
      rw [he] at h4
      have := (hj2 (p - 1) (by omega)).1 (hdn _ h4)
      omega
    omega
   have hmay : zHk all idx chain i j0 = true := by
    unfold zHk
    rw [Bool.and_eq_true, List.all_eq_true]
    refine ⟨Nat.ble_eq_true_of_le hj1, fun p hp => ?_⟩
    have hp := List.mem_range.1 hp
    simp only [Bool.and_eq_true, Bool.or_eq_true, Bool.not_eq_true']
    refine ⟨?_, ?_, ?_⟩
    ·cases hq : zEv all idx (idx.length + 1) i (chain.getD p 0) with
     | false => exact .inl rfl
     | true => exact .inr (Nat.ble_eq_true_of_le ((hj2 p hp).1 (hdn _ hq)))
    ·cases hq : zEv all idx (idx.length + 1) (chain.getD p 0) i with
     | false => exact .inl rfl
     | true => exact .inr (Nat.ble_eq_true_of_le (hup p hp hq))
    ·cases hq : Nat.beq (chain.getD p 0) i with
     | false => exact .inl rfl
     | true => exact .inr (by rw [hself p hp (Nat.eq_of_beq_eq_true hq)]; exact Nat.beq_refl _)
   rw [← hs2] at hmay
   refine g3 j0 hmay _ fr (zCf fun p hp => ?_) (zC (zX ?_))
   ·rcases g4 p hp with q | ⟨s', q1, ⟨e, q2, q3, q4⟩, q5⟩
    ·exact zCg hk0 p q
    ·have h1 := hdeps e q2 q3
     rw [q4] at h1
     refine hck s' q1 ?_ p q5
     have hsz := hlt s'.1 ((hmem s'.1).2 ⟨s', q1, rfl⟩)
     simp only [Array.getD, show s'.1 < cur.size by omega, dite_true] at h1 ⊢
     exact h1
   ·have hisz := hlt i him
    have hnx : zEa chain s.1 j0 ≤ chain.length ∧ ∀ p, p < chain.length → ((cur.setIfInBounds i true).getD (chain.getD p 0) true = true ↔ p < zEa chain s.1 j0) := by
     rw [hs2]
     by_cases hc : i ∈ chain
     ·obtain ⟨p0, hp0, he0⟩ := List.mem_iff_getElem.1 hc
      have he0' : chain.getD p0 0 = i := by rw [zFB 0 hp0]; exact he0
      have hj0 := hself p0 hp0 he0'
      have hn : zEa chain i j0 = j0 + 1 := by unfold zEa; rw [if_pos (by simpa using hc)]
      rw [hn]
      refine ⟨by omega, fun p hp => ?_⟩
      by_cases hpe : p = p0
      ·subst hpe
       rw [he0']
       exact ⟨fun _ => by omega, fun _ => by simp [Array.getD, show i < cur.size by omega]⟩
      ·have hne' : chain.getD p 0 ≠ i := by
        rw [← he0']
        rcases Nat.lt_or_ge p p0 with q | q
        ·exact (chpair p0 p hp0 q).1
        ·exact fun e => (chpair p p0 hp (by omega)).1 e.symm
       have hne'' : ¬ i = chain.getD p 0 := fun e => hne' e.symm
       have h1 : (cur.setIfInBounds i true).getD (chain.getD p 0) true = cur.getD (chain.getD p 0) true := by
        simp only [Array.getD_eq_getD_getElem?, Array.getElem?_setIfInBounds, hne'', if_false]
       rw [h1, hj2 p hp]
       omega
     ·have hn : zEa chain i j0 = j0 := by unfold zEa; rw [if_neg (by simpa using hc)]
      rw [hn]
      refine ⟨hj1, fun p hp => ?_⟩
      have hne'' : ¬ i = chain.getD p 0 := fun e => hc (e ▸ zAN 0 hp)
      have h1 : (cur.setIfInBounds i true).getD (chain.getD p 0) true = cur.getD (chain.getD p 0) true := by
       simp only [Array.getD_eq_getD_getElem?, Array.getElem?_setIfInBounds, hne'', if_false]
      rw [h1]
      exact hj2 p hp
    refine ih _ (cur.setIfInBounds i true) _ hnx.1 hnx.2 (by simpa using hcs) (fun j hj => ?_) ?_ (fun s' hs' hu => ?_) ?_ (zJu him hcl (fun o' ho' e he hb => by rw [ho] at ho'; obtain rfl := Option.some.inj ho'; exact hdeps e he hb))
    ·rw [Array.getElem?_setIfInBounds_ne (show i ≠ j from fun e => hj (e ▸ him))]; exact hco j hj
    ·-- one less
     have hf : st.filter (fun s' => !(cur.setIfInBounds i true).getD s'.1 true) = (st.filter (fun s' => !cur.getD s'.1 true)).filter (fun s' => decide (s'.1 ≠ i)) := by
      rw [List.filter_filter]
      congr 1
      funext s'
      by_cases hq : s'.1 = i
      ·rw [hq]; simp [Array.getD, show i < cur.size by omega]
      ·have hq' : ¬ i = s'.1 := fun e => hq e.symm
       simp [Array.getD_eq_getD_getElem?, Array.getElem?_setIfInBounds, hq, hq']
     unfold unlM at hcm ⊢
     rw [hf]
     have hmemf : s ∈ st.filter (fun s' => !cur.getD s'.1 true) := List.mem_filter.2 ⟨hs1, by rw [hs2, hiu]; rfl⟩
     have hndf : ((st.filter (fun s' => !cur.getD s'.1 true)).map (·.1)).Nodup := List.Nodup.sublist (List.Sublist.map _ List.filter_sublist) hnd'
     revert hcm hmemf hndf
     generalize st.filter (fun s' => !cur.getD s'.1 true) = L
     intro hcm hmemf hndf
     have gen : ∀ (L : zC4) (n : Nat), L.length = n + 1 → s ∈ L → (L.map (·.1)).Nodup → (L.filter (fun s' => decide (s'.1 ≠ i))).length = n := by
      intro L
      induction L with
      | nil => intro n h; simp at h
      | cons x r ihL =>
       intro n hn hm hnd
       simp only [List.map_cons, List.nodup_cons] at hnd
       rcases List.mem_cons.1 hm with rfl | hm
       ·have hno : ∀ y ∈ r, y.1 ≠ i := fun y hy e => hnd.1 (List.mem_map.2 ⟨y, hy, by rw [e, hs2]⟩)
        have : (r.filter (fun s' => decide (s'.1 ≠ i))) = r := List.filter_eq_self.2 (fun y hy => by simpa using hno y hy)
        rw [List.filter_cons_of_neg (by simp [hs2]), this]
        simpa using hn
       ·have hx : x.1 ≠ i := fun e => hnd.1 (List.mem_map.2 ⟨s, hm, by rw [hs2, e]⟩)
        have hr0 : 0 < r.length := List.length_pos_iff.2 (by rintro rfl; simp at hm)
        obtain ⟨n', rfl⟩ : ∃ n', n = n' + 1 := ⟨n - 1, by simp at hn; omega⟩
        rw [List.filter_cons_of_pos (by simpa using hx), List.length_cons, ihL n' (by simpa using hn) hm hnd.2]
     exact gen L m hcm hmemf hndf
    ·intro f hf
     by_cases hq : s'.1 = i
     ·have hss : s' = s := by
       have h1 : s ∈ st := hs1
       have hinj : ∀ (L : zC4), (L.map (·.1)).Nodup → ∀ x ∈ L, ∀ y ∈ L, x.1 = y.1 → x = y := by
        intro L
        induction L with
        | nil => intro _ x hx; simp at hx
        | cons z r ihL =>
         intro hnd x hx y hy hxy
         simp only [List.map_cons, List.nodup_cons] at hnd
         rcases List.mem_cons.1 hx with hx | hx <;> rcases List.mem_cons.1 hy with hy | hy
         ·rw [hx, hy]
         ·exact absurd (List.mem_map.2 ⟨y, hy, by rw [← hxy, hx]⟩) hnd.1
         ·exact absurd (List.mem_map.2 ⟨x, hx, by rw [hxy, hy]⟩) hnd.1
         ·exact ihL hnd.2 x hx y hy hxy
       exact hinj st hnd' s' hs' s hs1 (by rw [hq, hs2])
      rw [hss] at hf
      rcases g2 with ⟨e1, _⟩ | ⟨d, v, e1, _⟩
      ·rw [e1] at hf; simp at hf
      ·rw [e1] at hf ⊢
       obtain rfl := List.mem_singleton.1 hf
       exact zIS _ _ _
     ·have h1 : cur.getD s'.1 true = true := by
       have hq' : ¬ i = s'.1 := fun e => hq e.symm
       simpa [Array.getD_eq_getD_getElem?, Array.getElem?_setIfInBounds, hq'] using hu
      have h2 := hck s' hs' h1 f hf
      rw [zI1 (fun p hp e => ?_)]
      ·exact h2
      obtain ⟨o3, _, f1, f2, _, _⟩ := hst s' hs'
      have h3 := List.all_eq_true.1 (ok3 s'.1 ((hmem s'.1).2 ⟨s', hs', rfl⟩)) i him
      rw [f1, ho] at h3
      rcases g2 with ⟨e1, _⟩ | ⟨d, v, e1, e2⟩
      ·rw [e1] at hp; simp at hp
      rcases f2 with ⟨e3, _⟩ | ⟨d', v', e3, e4⟩
      ·rw [e3] at hf; simp at hf
      rw [e1] at hp
      obtain rfl := List.mem_singleton.1 hp
      rw [e3] at hf
      obtain rfl := List.mem_singleton.1 hf
      have e : d = d' := e
      simp only [e2, e4, Bool.or_eq_true, Bool.not_eq_true'] at h3
      rcases h3 with h3 | h3
      ·exact hq (Nat.eq_of_beq_eq_true h3)
      ·rw [e, Nat.beq_refl] at h3; cases h3
    ·refine zCf fun p hp => ?_
     have h1 := ok1 i him
     simp only [Bool.and_eq_true] at h1
     rw [ho] at h1
     rw [zI1 (fun x hx e => ?_)]
     ·exact zCg hk0 p hp
     rcases g2 with ⟨e1, _⟩ | ⟨d, v, e1, e2⟩
     ·rw [e1] at hx; simp at hx
     rw [e1] at hx
     obtain rfl := List.mem_singleton.1 hx
     have e : d = p.1 := e
     simp only [e2, Bool.and_eq_true, Bool.not_eq_true'] at h1
     have : (K0.map (·.1)).contains d = true := by
      rw [List.contains_iff_mem]
      exact List.mem_map.2 ⟨p, hp, e.symm⟩
     rw [h1.2.1] at this; cases this
 have hm0 : unlM listed st = idx.length := by
  unfold unlM
  rw [List.filter_eq_self.2 (fun s hs => ?_), hlen]
  have := ok1 s.1 ((hmem s.1).2 ⟨s, hs, rfl⟩)
  simp only [Bool.and_eq_true] at this
  exact this.1
 have hun : ∀ i ∈ idx, listed.getD i true = false := fun i hi => by
  have h1 := ok1 i hi
  simp only [Bool.and_eq_true, Bool.not_eq_true'] at h1
  exact h1.1
 have := key idx.length 0 listed fr (Nat.zero_le _) (fun p hp => by rw [hun _ (chin _ (zAN 0 hp))]; simp) rfl (fun _ _ => rfl) hm0 (fun s hs hu => by
  rw [hun _ ((hmem s.1).2 ⟨s, hs, rfl⟩)] at hu; cases hu) hK (fun m' hm' hu => by
  rw [hun _ hm'] at hu; cases hu)
 rw [hH] at this
 exact this
section
variable {Hs : Nat → zQ} {all : Array Oper} {K0 : Fr} {idx0 chain : List Nat} {i : Nat} {r : List Nat} {st : zC4} {G : zC4 → Prop}
theorem zKQ {K : Fr} {o : Oper} {d : Nat} {v : AV} (h : zDk P fn c H all K o d v) : zKV P fn c H H all K o [(d, v)] := fun k fr hk h2 => h k fr hk h2
/-- An operation that only reads, whatever the memory. -/
theorem zNU {o : Oper} {d : Nat} {v : AV} {K : Fr} (hi : all[i]? = some o) (hd : o.dst = some d) (hK : zIN st K0 o = K) (hop : ∀ H, zDk P fn c H all K o d v) (h : zES P fn c Hs all K0 idx0 chain r ((i, [(d, v)]) :: st) G) (hn : chain.contains i = false) : zES P fn c Hs all K0 idx0 chain (i :: r) st G :=
 ⟨o, [(d, v)], hi, .inr ⟨d, v, rfl, hd⟩, fun j _ => by
  have e : zEa chain i j = j := by unfold zEa; rw [hn]; rfl
  rw [e, hK]
  exact zKQ (hop _), h⟩
/-- .. that reads the own memory as it is then. -/
theorem pm_pureJ {o : Oper} {d : Nat} {v : AV} {K : Fr} {js : List Nat} (hi : all[i]? = some o) (hd : o.dst = some d) (hK : zIN st K0 o = K) (hj : (List.range (chain.length + 1)).filter (zHk all idx0 chain i) = js) (hop : ∀ j ∈ js, zDk P fn c (Hs j) all K o d v) (h : zES P fn c Hs all K0 idx0 chain r ((i, [(d, v)]) :: st) G) (hn : chain.contains i = false) : zES P fn c Hs all K0 idx0 chain (i :: r) st G :=
 ⟨o, [(d, v)], hi, .inr ⟨d, v, rfl, hd⟩, fun j hm => by
  have e : zEa chain i j = j := by unfold zEa; rw [hn]; rfl
  rw [e, hK]
  refine zKQ (hop j ?_)
  rw [← hj]
  refine List.mem_filter.2 ⟨List.mem_range.2 ?_, hm⟩
  unfold zHk at hm
  rw [Bool.and_eq_true] at hm
  have := Nat.le_of_ble_eq_true hm.1
  omega, h⟩
theorem zCK {d : Nat} {op : Op} {ty : TypeId} {pos : String} {after : Array Edge} {v : AV} {K : Fr} (hi : all[i]? = some ⟨some d, op, ty, pos, after, none⟩) (hK : zIN st K0 ⟨some d, op, ty, pos, after, none⟩ = K) (hn : chain.contains i = false)
 (hop : ∀ H, QOp false P fn c K H ⟨some d, op, ty, pos, after, none⟩ v) (h : zES P fn c Hs all K0 idx0 chain r ((i, [(d, v)]) :: st) G) : zES P fn c Hs all K0 idx0 chain (i :: r) st G :=
 zNU hi rfl hK (fun H => zKs (hop H)) h hn
def AllJ : List Nat → (Nat → Prop) → Prop
 | [], _ => True
 | j :: r, p => p j ∧ AllJ r p
theorem AllJ.get {p : Nat → Prop} : ∀ {js : List Nat}, AllJ js p → ∀ j ∈ js, p j
 | [], _, j, hj => have _p := ‹Pins›; by simp at hj
 | i :: r, h, j, hj => by
  have _p := ‹Pins›
  rcases List.mem_cons.1 hj with rfl | hj
  ·exact h.1
  ·exact AllJ.get h.2 j hj
/-- .. at some of the memories. -/
theorem pm_qs {d : Nat} {op : Op} {ty : TypeId} {pos : String} {after : Array Edge} {v : AV} {K : Fr} (js : List Nat) (hi : all[i]? = some ⟨some d, op, ty, pos, after, none⟩) (hK : zIN st K0 ⟨some d, op, ty, pos, after, none⟩ = K) (hn : chain.contains i = false) (hj : (List.range (chain.length + 1)).filter (zHk all idx0 chain i) = js)
 (hop : AllJ js (fun j => QOp false P fn c K (Hs j) ⟨some d, op, ty, pos, after, none⟩ v)) (h : zES P fn c Hs all K0 idx0 chain r ((i, [(d, v)]) :: st) G) : zES P fn c Hs all K0 idx0 chain (i :: r) st G :=
 pm_pureJ hi rfl hK hj (fun j' hj' => zKs (hop.get j' hj')) h hn
theorem pm_v {d : Nat} {g : Operand} {args : List Operand} {ats : Array TypeId} {ty : TypeId} {pos : String} {after : Array Edge} {f : FuncId} {caps ags ags' : List AV} {v : AV} {K : Fr} (hi : all[i]? = some ⟨some d, .call { callee := .value g, args := args.toArray, argTypes := ats }, ty, pos, after, none⟩)
 (hK : zIN st K0 ⟨some d, .call { callee := .value g, args := args.toArray, argTypes := ats }, ty, pos, after, none⟩ = K) (hn : chain.contains i = false) (hg : ev K g = some (.fn f caps)) (ha : evs K args = some ags) (has : ags ++ caps = ags') (hcall : zl P f ags' v)
 (h : zES P fn c Hs all K0 idx0 chain r ((i, [(d, v)]) :: st) G) : zES P fn c Hs all K0 idx0 chain (i :: r) st G :=
 zNU hi rfl hK (fun H => zMk hg ha has hcall) h hn
/-- An operation of the chain. -/
theorem zLq {o : Oper} {fs K : Fr} {j : Nat} (hi : all[i]? = some o) (hf : zKi fs o) (hK : zIN st K0 o = K) (hn : chain.contains i = true) (hj : (List.range (chain.length + 1)).filter (zHk all idx0 chain i) = [j]) (hop : zKV P fn c (Hs j) (Hs (j + 1)) all K o fs)
 (h : zES P fn c Hs all K0 idx0 chain r ((i, fs) :: st) G) : zES P fn c Hs all K0 idx0 chain (i :: r) st G :=
 ⟨o, fs, hi, hf, fun j' hm => by
  have e : zEa chain i j' = j' + 1 := by unfold zEa; rw [hn]; rfl
  rw [e, hK]
  have hle : j' < chain.length + 1 := by
   unfold zHk at hm
   rw [Bool.and_eq_true] at hm
   have := Nat.le_of_ble_eq_true hm.1
   omega
  have hmem : j' ∈ (List.range (chain.length + 1)).filter (zHk all idx0 chain i) := List.mem_filter.2 ⟨List.mem_range.2 hle, hm⟩
  rw [hj] at hmem
  obtain rfl := List.mem_singleton.1 hmem
  exact hop, h⟩
theorem zFo {d : Nat} {t ty : TypeId} {pos : String} {after : Array Edge} {inf : TypeInfo} {z : Value} {zs : List AV} {K : Fr} {j n : Nat} (hi : all[i]? = some ⟨some d, .alloc t, ty, pos, after, none⟩) (hK : zIN st K0 ⟨some d, .alloc t, ty, pos, after, none⟩ = K) (hn : chain.contains i = true) (hj : (List.range (chain.length + 1)).filter (zHk all idx0 chain i) = [j])
 (hin : P.info? t = some inf) (hz : inf.zero = some z) (hzs : zav z = some zs) (hl : (Hs j).length = n) (hH : Hs (j + 1) = Hs j ++ [some ⟨t, .box zs⟩])
 (h : zES P fn c Hs all K0 idx0 chain r ((i, [(d, .ptr n 0 0)]) :: st) G) : zES P fn c Hs all K0 idx0 chain (i :: r) st G :=
 zLq hi (.inr ⟨d, _, rfl, rfl⟩) hK hn hj (fun k fr hk h2 => zAK hin hz hzs (by rw [hl, ← hH]; exact h2)) h
theorem zLr {t : TypeId} {x y : Operand} {ty : TypeId} {pos : String} {after : Array Edge} {hd i' : Nat} {ob : AObj} {L : List AV} {K : Fr} {j : Nat} (c' : Cells) (hi : all[i]? = some ⟨none, .store t x y, ty, pos, after, none⟩) (hK : zIN st K0 ⟨none, .store t x y, ty, pos, after, none⟩ = K) (hn : chain.contains i = true) (hj : (List.range (chain.length + 1)).filter (zHk all idx0 chain i) = [j])
 (hx : ev K x = some (.ptr hd i' 0)) (hy : ev K y = some (.agg L)) (hs : (P.info? t).map (·.size) = some ob.c.sz) (hh : (Hs j)[hd]? = some (some ob)) (hl : L.length = ob.c.sz) (hil : i' < ob.c.len)
 (h1 : c'.len = ob.c.len) (h2 : c'.sz = ob.c.sz) (h3 : ∀ a b, a < ob.c.len → b < ob.c.sz → c'.at a b = if a = i' then L.getD b .any else ob.c.at a b) (hz0 : ob.c.sz ≠ 0) (hH : Hs (j + 1) = (Hs j).set hd (some ⟨ob.ty, c'⟩))
 (h : zES P fn c Hs all K0 idx0 chain r ((i, []) :: st) G) : zES P fn c Hs all K0 idx0 chain (i :: r) st G :=
 zLq hi (.inl ⟨rfl, rfl⟩) hK hn hj (fun k fr hk h4 => zDW (zEq hk hx) (zEq hk hy) hs hh hl hil h1 h2 h3 (by rw [← hH]; exact h4) hz0) h
theorem zDc {t : TypeId} {x y : Operand} {ty : TypeId} {pos : String} {after : Array Edge} {hd : Nat} {ty' : TypeId} {l0 L : List AV} {K : Fr} {j : Nat} (L' : List AV) (hi : all[i]? = some ⟨none, .store t x y, ty, pos, after, none⟩) (hK : zIN st K0 ⟨none, .store t x y, ty, pos, after, none⟩ = K) (hn : chain.contains i = true) (hj : (List.range (chain.length + 1)).filter (zHk all idx0 chain i) = [j])
 (hx : ev K x = some (.ptr hd 0 0)) (hy : ev K y = some (.agg L)) (hs : (P.info? t).map (·.size) = some l0.length) (hh : (Hs j)[hd]? = some (some ⟨ty', .box l0⟩)) (hl : L.length = l0.length) (hL : L = L') (hz : Nat.blt 0 l0.length = true) (hH : Hs (j + 1) = (Hs j).set hd (some ⟨ty', .box L'⟩))
 (h : zES P fn c Hs all K0 idx0 chain r ((i, []) :: st) G) : zES P fn c Hs all K0 idx0 chain (i :: r) st G := by
 subst hL
 have hz := Nat.le_of_ble_eq_true hz
 refine zLr (ob := ⟨ty', .box l0⟩) (.box L) hi hK hn hj hx hy hs hh hl Nat.zero_lt_one J hl (fun a b ha hb => ?_) (by show l0.length ≠ 0; omega) hH h
 obtain rfl : a = 0 := Nat.lt_one_iff.1 ha
 rw [if_pos rfl]; rfl
theorem zHK (h : G st) : zES P fn c Hs all K0 idx0 chain [] st G := h
end
end
end Go.Ax
namespace Go.Ax
variable [Pins]
open Go.RowKit
def frσ (n : Nat) (σ' σ : Nat → Option Blk) (h : Nat) : Option Blk := if h < n then σ' h else σ h
theorem zd.frame {P : Program} {f : FuncId} {args : List AV} {H : zQ} (Hr : zQ) {fix : Nat → Prop} {K K' : AV → zQ → Prop} (hc : zd P f args H fix K) (hfl : ∀ h, fix h → h < H.length) (hargs : zB2 H.length args = true)
 (hbH : ∀ (h : Nat) (o : AObj), H[h]? = some (some o) → zAo H.length o.c) (hrl : ∀ (h : Nat) (o : AObj), Hr[h]? = some (some o) → zAG o.c)
 (hK : ∀ r H', K r H' → H'.length = H.length ∧ K' r (H' ++ Hr)) : zd P f args (H ++ Hr) (fun h => fix h ∨ (H.length ≤ h ∧ h < H.length + Hr.length)) K' := by
 refine ⟨hc.1, fun w σ S vals hp hr hf hv => ?_⟩
 have hs : ∀ h, h < H.length → zIM H.length σ h = σ h := fun h hl => if_pos hl
 have hget : ∀ {h : Nat} {o : AObj}, H[h]? = some (some o) → h < H.length ∧ (H ++ Hr)[h]? = some (some o) := by
  intro h o ho
  have hl : h < H.length := (List.getElem?_eq_some_iff.1 ho).1
  exact ⟨hl, by rw [List.getElem?_append_left hl]; exact ho⟩
 have hgetR : ∀ {h : Nat} {o : AObj}, Hr[h]? = some (some o) → h < Hr.length ∧ (H ++ Hr)[H.length + h]? = some (some o) := by
  intro h o ho
  have hl : h < Hr.length := (List.getElem?_eq_some_iff.1 ho).1
  exact ⟨hl, by rw [List.getElem?_append_right (by omega), Nat.add_sub_cancel_left]; exact ho⟩
 have hown : ∀ b, zDp (zIM H.length σ) H b → zDp σ (H ++ Hr) b := by
  rintro b ⟨h, o, s, C, h1, h2⟩
  obtain ⟨hl, ho⟩ := hget h1
  rw [hs h hl] at h2
  exact ⟨h, o, s, C, ho, h2⟩
 have hp0 : zDG w S (zIM H.length σ) H := hp.less (fun _ h => h) hown
 have hr0 : HR w S (zIM H.length σ) H := by
  refine ⟨fun h o ho => ?_, fun h h' o o' b s C s' C' q1 q2 e1 e2 => ?_, hr.small, fun h hl => if_neg (by omega)⟩
  ·obtain ⟨hl, ho'⟩ := hget ho
   rw [hs h hl]
   rcases hr.live h o ho' with g | ⟨b, C, cur, k1, k2, k3, k4, k5, k6, k7⟩
   ·exact .inl g
   ·refine .inr ⟨b, C, cur, k1, k2.cutv (fun ks vs hc => (hbH h o ho).mp hc) hs, k3, k4, k5, k6, fun i j hi hj => ?_⟩
    obtain ⟨v, m1, m2, m3⟩ := k7 i j hi hj
    exact ⟨v, m1, m2.cutv ((hbH h o ho).row i j hi hj) _ hs, m3⟩
  ·obtain ⟨hl, ho⟩ := hget q1
   obtain ⟨hl', ho'⟩ := hget q2
   rw [hs h hl] at e1
   rw [hs h' hl'] at e2
   exact hr.dist h h' o o' b s C s' C' ho ho' e1 e2
 have hv0 : VRs w S (zIM H.length σ) args vals := ⟨hv.1, fun i hi => (hv.2 i hi).cutv (zCr hargs i hi) _ hs⟩
 refine (hc.2 w _ S vals hp0 hr0 hfl hv0).mono ?_
 rintro e w' ⟨v, r, σ', S', H', rfl, g1, g2, g3, g4⟩
 obtain ⟨hlen, hk⟩ := hK _ _ g4
 have hlto : ∀ h o b s C, (H ++ Hr)[h]? = some (some o) → σ h = some (.at b s C) → b < w.heap.size ∧ ¬ S b := by
  intro h o b s C ho hb
  rcases hr.live h o ho with ⟨hn, _⟩ | ⟨b', C', cur, hσ', g, _, _, _, hS, _⟩
  ·rw [hb] at hn; cases hn
  ·rw [hb] at hσ'
   simp only [Option.some.injEq, Blk.at.injEq] at hσ'
   rw [hσ'.1]
   exact ⟨g.lt, hS⟩
 -- the blocks of the further objects are not those of the first
 have hno : ∀ h o b s C, Hr[h]? = some (some o) → σ (H.length + h) = some (.at b s C) → ¬ zDp (zIM H.length σ) H b := by
  rintro h o b s C ho hb ⟨h', o', s', C', q1, q2⟩
  obtain ⟨hl, ho1⟩ := hget q1
  rw [hs h' hl] at q2
  have := hr.dist _ _ _ _ _ _ _ _ _ (hgetR ho).2 ho1 hb q2
  omega
 have hSb : ∀ b, S b → w'.heap[b]? = w.heap[b]? := fun b hb => g3.block b (hr.small b hb) (by
  rintro ⟨h', o', s', C', q1, q2⟩
  obtain ⟨hl, ho1⟩ := hget q1
  rw [hs h' hl] at q2
  exact (hlto _ _ _ _ _ ho1 q2).2 hb)
 have hlow : ∀ h, h < H.length → (frσ H.length σ' σ) h = σ' h := fun h hl => if_pos hl
 have hup : ∀ h, (frσ H.length σ' σ) (H.length + h) = σ (H.length + h) := fun h => if_neg (by omega)
 have hmono : ∀ h B, σ' h = some B → (frσ H.length σ' σ) h = some B := fun h B hB => by
  rcases Nat.lt_or_ge h H.length with q | q
  ·rw [hlow h q]; exact hB
  ·rw [g1.dom h (by omega)] at hB; cases hB
 have hcase : ∀ h' o', (H' ++ Hr)[h']? = some (some o') → (h' < H.length ∧ H'[h']? = some (some o')) ∨ ∃ h, h' = H.length + h ∧ Hr[h]? = some (some o') := by
  intro h' o' ho
  by_cases he : h' < H.length
  ·rw [List.getElem?_append_left (by omega)] at ho; exact .inl ⟨he, ho⟩
  ·rw [List.getElem?_append_right (by omega), hlen] at ho
   exact .inr ⟨h' - H.length, by omega, ho⟩
 have hnew : ∀ h o b s C, H'[h]? = some (some o) → σ' h = some (.at b s C) → ∀ h2 o2 s2 C2, Hr[h2]? = some (some o2) → σ (H.length + h2) = some (.at b s2 C2) → False := by
  intro h o b s C ho hb h2 o2 s2 C2 ho2 hb2
  rcases g3.own h o b s C ho hb with q | q
  ·exact hno _ _ _ _ _ ho2 hb2 q
  ·have := (hlto _ _ _ _ _ (hgetR ho2).2 hb2).1
   have q : w.heap.size ≤ b := q
   omega
 have hHR : HR w' S' (frσ H.length σ' σ) (H' ++ Hr) := by
  refine ⟨fun h o ho => ?_, fun h1 h2 o1 o2 b s C s' C' q1 q2 e1 e2 => ?_, g1.small, fun h hl => ?_⟩
  ·rcases hcase h o ho with ⟨hl, ho'⟩ | ⟨h', rfl, ho'⟩
   ·rw [hlow h hl]
    rcases g1.live h o ho' with g | ⟨b, C, cur, k1, k2, k3, k4, k5, k6, k7⟩
    ·exact .inl g
    ·refine .inr ⟨b, C, cur, k1, k2.mono J (fun hv => hv.mono (fun _ h => h) (fun _ _ => rfl) _ hmono), k3, k4, k5, k6, fun i j hi hj => ?_⟩
     obtain ⟨v, m1, m2, m3⟩ := k7 i j hi hj
     exact ⟨v, m1, m2.mono (fun _ h => h) (fun _ _ => rfl) _ hmono, m3⟩
   ·rw [hup h']
    rcases hr.live _ o (hgetR ho').2 with g | ⟨b, C, cur, k1, k2, k3, k4, k5, k6, k7⟩
    ·exact .inl g
    ·have hbw : w'.heap[b]? = w.heap[b]? := g3.block b k2.lt (hno h' o b _ C ho' k1)
     have hvm : ∀ {x v}, noRef x = true → VR w S σ x v → VR w' S' (frσ H.length σ' σ) x v := fun {x v} hx hv =>
      (hv.closed hx (fun _ => none)).mono (fun b hb => g3.S1 b hb) hSb _ (fun h B hB => by cases hB)
     refine .inr ⟨b, C, cur, k1, ?_, k3, k4, k5, fun hS => ?_, fun i j hi hj => ?_⟩
     ·cases k2 with
      | row mk h hm hC => exact .row mk (by rw [hbw]; exact h) hm hC
      | map ks vs es clock hc hC h hn hl hd he =>
       have hm := (hrl h' o ho').mp hc
       refine .map ks vs es clock hc hC (by rw [hbw]; exact h) hn hl hd (fun i hi => ?_)
       obtain ⟨e, e1, e2, e3⟩ := he i hi
       exact ⟨e, e1, hvm (zBY hm.1 i hi) e2, hvm (zBY hm.2 i (by omega)) e3⟩
     ·rcases g3.S2 b hS with q | q | q
      ·exact k6 q
      ·exact hno _ _ _ _ _ ho' k1 q
      ·have := k2.lt
       have q : w.heap.size ≤ b := q
       omega
     ·obtain ⟨v, m1, m2, m3⟩ := k7 i j hi hj
      exact ⟨v, m1, hvm ((hrl h' o ho').row i j hi hj) m2, m3⟩
  ·rcases hcase h1 o1 q1 with ⟨l1, r1⟩ | ⟨x1, rfl, r1⟩ <;> rcases hcase h2 o2 q2 with ⟨l2, r2⟩ | ⟨x2, rfl, r2⟩
   ·rw [hlow _ l1] at e1
    rw [hlow _ l2] at e2
    exact g1.dist _ _ _ _ _ _ _ _ _ r1 r2 e1 e2
   ·rw [hlow _ l1] at e1
    rw [hup] at e2
    exact (hnew _ _ _ _ _ r1 e1 _ _ _ _ r2 e2).elim
   ·rw [hup] at e1
    rw [hlow _ l2] at e2
    exact (hnew _ _ _ _ _ r2 e2 _ _ _ _ r1 e1).elim
   ·rw [hup] at e1
    rw [hup] at e2
    exact hr.dist _ _ _ _ _ _ _ _ _ (hgetR r1).2 (hgetR r2).2 e1 e2
  ·rw [List.length_append, hlen] at hl
   unfold frσ; rw [if_neg (by omega)]
   exact hr.dom h (by rw [List.length_append]; omega)
 refine ⟨v, r, _, S', _, J, hHR, g2.mono (fun _ h => h) (fun _ _ => rfl) _ hmono, ⟨g3.os, g3.output, g3.tape, g3.size, fun b hb hn => g3.block b hb (fun q => hn (hown b q)), g3.S1, fun b hb => ?_, fun h hh => ?_, fun h hh => ?_, fun h o b s C ho hb => ?_⟩, hk⟩
 ·rcases g3.S2 b hb with q | q | q
  ·exact .inl q
  ·exact .inr (.inl (hown b q))
  ·exact .inr (.inr q)
 ·rcases hh with hh | ⟨h1, h2⟩
  ·have hl := hfl h hh
   show frσ H.length σ' σ h = σ h
   rw [hlow h hl, ← hs h hl]
   exact g3.fixed h hh
  ·show frσ H.length σ' σ h = σ h
   unfold frσ; rw [if_neg (by omega)]
 ·rw [List.length_append, hlen]
  rcases hh with hh | ⟨h1, h2⟩
  ·have := hfl h hh; omega
  ·exact h2
 ·rcases hcase h o ho with ⟨hl, ho'⟩ | ⟨h', rfl, ho'⟩
  ·rw [hlow h hl] at hb
   rcases g3.own h o b s C ho' hb with q | q
   ·exact .inl (hown b q)
   ·exact .inr q
  ·rw [hup h'] at hb
   exact .inl ⟨_, o, s, C, (hgetR ho').2, hb⟩
end Go.Ax
namespace Go.Ax.Gm
theorem zGE (r : Rules) (f : Pos → Nat → List zBg) (q : Pos) (a : Mv) : ∀ (ms : List Mv) (b : Nat), zA7 r f q (ms ++ [a]) b =
 if zp r (zZ r q a) ≠ 0 then ((zA7 r f q ms b).1 ++ [-1], (zA7 r f q ms b).2)
 else ((zA7 r f q ms b).1 ++ [((b + (zA7 r f q ms b).2.length : Nat) : Int)], (zA7 r f q ms b).2 ++ f (zZ r q a) (b + (zA7 r f q ms b).2.length))
 | [], b => by
  simp only [List.nil_append, zA7]
  split <;> simp
 | x :: ms, b => by
  simp only [List.cons_append, zA7]
  by_cases h : zp r (zZ r q x) ≠ 0
  ·rw [if_pos h, if_pos h, zGE r f q a ms b]
   split <;> simp
  ·rw [if_neg h, if_neg h, zGE r f q a ms]
   split <;> simp [Nat.add_assoc]
theorem zNQ (r : Rules) (f : Pos → Nat → List zBg) (q : Pos) (b : Nat) : ∀ (ms' ms : List Mv), (zA7 r f q ms b).2.length ≤ (zA7 r f q (ms ++ ms') b).2.length
 | [], ms => by simp
 | a :: ms', ms => by
  have h1 := zNQ r f q b ms' (ms ++ [a])
  have h2 : (zA7 r f q ms b).2.length ≤ (zA7 r f q (ms ++ [a]) b).2.length := by
   rw [zGE]
   split <;> simp
  have e : ms ++ a :: ms' = (ms ++ [a]) ++ ms' := by simp
  rw [e]; omega
theorem zNw (r : Rules) (f : Pos → Nat → List zBg) (q : Pos) (b : Nat) (ms : List Mv) (j : Nat) : (zA7 r f q (ms.take j) b).2.length ≤ (zA7 r f q ms b).2.length := by
 have := zNQ r f q b (ms.drop j) (ms.take j)
 rwa [List.take_append_drop] at this
/-- the answers of a step and what comes behind it -/
def zL9 (r : Rules) : Nat → Pos → Nat → List Int × List zBg
 | 0, _, _ => ([], [])
 | k + 1, p, b => zA7 r (zAE r k) (zZ r p (zA0 r (k + 1) p)) (zAD r (zZ r p (zA0 r (k + 1) p))) (b + 1)
theorem zJP (r : Rules) (k : Nat) (p : Pos) (b : Nat) : zAE r k p b = (zA0 r k p, (zL9 r k p b).1) :: (zL9 r k p b).2 := by
 cases k <;> rfl
theorem zMy (r : Rules) (k : Nat) (p : Pos) (b : Nat) : (zAE r k p b).length = 1 + (zL9 r k p b).2.length := by
 rw [zJP]; simp [Nat.add_comm]
/-- the steps of a position whose answers are told -/
def zGY (r : Rules) (k : Nat) : Pos → Nat → List zBg := match k with
 | 0 => fun _ _ => []
 | k + 1 => zAE r k
theorem zOW {r : Rules} {k : Nat} {p : Pos} {b : Nat} (h0 : k = 0 → zAD r (zZ r p (zA0 r k p)) = []) :
 zL9 r k p b = zA7 r (zGY r k) (zZ r p (zA0 r k p)) (zAD r (zZ r p (zA0 r k p))) (b + 1) := by
 cases k with
 | zero => rw [h0 rfl]; rfl
 | succ k => rfl
end Go.Ax.Gm
namespace Go.Ax
variable [Pins]
open Go.RowKit
theorem px_gb {P : Program} {fn : Func} {c : Ctx} {H : zQ} {all : Array Oper} {K0 : Fr} {i : Nat} {r : List Nat} {st : Go.Ax.Steps} {G : Go.Ax.Steps → Prop} {d : Nat} {t e : TypeId} {n : Nat} {parts : List (Nat × Operand)} {ty : TypeId} {pos : String} {after : Array Edge} {it : TypeInfo} {z : Value} {zs L : List AV} {l : List (Nat × AV)} {cl : Cells} {K : Fr} {j u : Nat} {p : Bool}
 (hi : all[i]? = some ⟨some d, .buildSlice t n parts.toArray, ty, pos, after, some (j, p)⟩) (hK : zEs st K0 ⟨some d, .buildSlice t n parts.toArray, ty, pos, after, some (j, p)⟩ = K) (hy : zDi all j = some u) (hb : zAY u K = some (.bool p))
 (ht : P.underlying t = some (.slice e)) (hinf : P.info? e = some it) (hz : it.zero = some z) (hzs : zav z = some zs) (hsz : it.size = zs.length) (hpos : Nat.blt 0 zs.length = true) (hsmall : Nat.ble (n * zs.length) 16777216 = true)
 (hl : zB4 K parts = some l) (hf : zEX (fun i => some (i * zs.length, zs.length)) (zCs zs n) l = some L) (hcl : zGT n zs.length L = cl) (hn : noRef.noRefs L = true)
 (h : zDj P fn c H all K0 r ((i, d, .ro cl 0 n) :: st) G) : zDj P fn c H all K0 (i :: r) st G :=
 ⟨_, _, _, hi, rfl, hK ▸ zHn hy hb (fun k fr hk h2 => zAH ht hinf hz hzs hsz hpos hsmall (zEh hk hl) hf hcl hn h2), h⟩
end Go.Ax
namespace Go.Ax
variable [Pins]
open Go.RowKit
section
variable {H : Type} {enc : TypeId × Value → H} {P : Program} {W : World}
theorem Rd.arr2 {α : Type} {t e : TypeId} {el : α → List AV} {ok : α → Prop} (ht : P.underlying t = some (.array 2 e)) (hc : P.cellsOf e = 1) (hc2 : P.cellsOf t = 2) (R : Rd enc P W e 1 el ok) :
 Rd enc P W t 2 (fun x : α × α => el x.1 ++ el x.2) (fun x => ok x.1 ∧ ok x.2) := by
 have _p := ‹Pins›
 intro fuel cs x hx
 obtain ⟨xs, m, _, _, hl, hxl, hf⟩ := DataW.trod_array ht hx
 rw [hc2] at hl
 rw [hc] at hf
 have each : ∀ i, i < 2 → ∃ a, ok a ∧ zDJ W (el a) ((cs.drop (i * 1)).take 1) := by
  intro i hi
  have h1 := hf i hi
  have h2 : xs[i]? = some (xs[i]'(by omega)) := List.getElem?_eq_getElem _
  rw [h2] at h1
  obtain ⟨a, h3, _, hr⟩ := R _ _ _ h1
  exact ⟨a, h3, hr⟩
 obtain ⟨a, ka, ha⟩ := each 0 (by decide)
 obtain ⟨b, kb, hb⟩ := each 1 (by decide)
 refine ⟨(a, b), ⟨ka, kb⟩, hl, ?_⟩
 have e1 : cs = (cs.drop (0 * 1)).take 1 ++ (cs.drop (1 * 1)).take 1 := by
  match cs, hl with
  | [c0, c1], _ => rfl
 rw [e1]
 exact ha.append hb
end
end Go.Ax
