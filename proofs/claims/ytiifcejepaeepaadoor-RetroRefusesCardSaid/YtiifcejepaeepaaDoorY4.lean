import Derived.Lib.Bytealg
import Derived.Lib.Join
import Derived.Shelf.SlSortCmp.NoneTotal
import Derived.Lib.ItoaLen
import Derived.Shelf.Strconv.AppendIntPublic10
import Derived.Test.YtiifcejepaeepaaDoorProg
import Derived.Shelf.RegionOpenPlain
import Derived.WalkKit
import Derived.Deep.LoopGhost
import Derived.Deep.Draws
import Derived.Lib.Walk
import Derived.Lib.Slices
import Derived.StillTailTactics
import Derived.Lib.LaidTab
import Derived.Lib.ItoaNum
import Derived.Stop.LaidErr
import Derived.Test.YtiifcejepaeepaaDoorY3
set_option linter.unusedVariables false
set_option linter.unusedSimpArgs false
set_option maxRecDepth 100000
set_option maxHeartbeats 4000000
namespace Go.Ax.Dt
def zAl (f : Nat → Int) : Nat → Int
 | 0 => 0
 | n + 1 => zAl f n + f n
theorem zAN {f g : Nat → Int} : ∀ {n : Nat}, (∀ i, i < n → f i = g i) → zAl f n = zAl g n
 | 0, _ => rfl
 | n + 1, h => by rw [zAl, zAl, zAN (fun i hi => h i (by omega)), h n (by omega)]
theorem zDB {f : Nat → Int} : ∀ {n : Nat}, (∀ i, i < n → f i = 0) → zAl f n = 0
 | 0, _ => rfl
 | n + 1, h => by rw [zAl, zDB (fun i hi => h i (by omega)), h n (by omega)]; rfl
theorem zCc (f g : Nat → Int) : ∀ n, zAl (fun i => f i + g i) n = zAl f n + zAl g n
 | 0 => rfl
 | n + 1 => by rw [zAl, zAl, zAl, zCc f g n]; omega
theorem zBi (c : Int) (f : Nat → Int) : ∀ n, zAl (fun i => c * f i) n = c * zAl f n
 | 0 => by rw [zAl, zAl, Int.mul_zero]
 | n + 1 => by rw [zAl, zAl, zBi c f n, Int.mul_add]
theorem zEs {f : Nat → Int} {n : Nat} (k : Nat) (hk : k < n) (h : ∀ i, i < n → i ≠ k → f i = 0) : zAl f n = f k := by
 induction n with
 | zero => omega
 | succ n ih =>
  rw [zAl]
  by_cases hkn : k = n
  ·subst hkn
   rw [zDB (fun i hi => h i (by omega) (by omega))]; omega
  ·rw [ih (by omega) (fun i hi hne => h i (by omega) hne), h n (by omega) (fun e => hkn e.symm)]; omega
theorem sumZ_two {f : Nat → Int} {n : Nat} (k l : Nat) (hk : k < n) (hl : l < n) (hkl : k ≠ l) (h : ∀ i, i < n → i ≠ k → i ≠ l → f i = 0) : zAl f n = f k + f l := by
 have e : zAl f n = zAl (fun i => (if i = k then f k else 0) + (if i = k then 0 else f i)) n := by
  refine zAN (fun i hi => ?_)
  by_cases hik : i = k
  ·subst hik; simp
  ·simp [hik]
 rw [e, zCc]
 rw [zEs k hk (fun i hi hne => by simp [hne]), zEs l hl (fun i hi hne => by
  by_cases hik : i = k
  ·simp [hik]
  ·simp [hik]; exact h i hi hik hne)]
 have : ¬ l = k := fun e => hkl e.symm
 simp [this]
abbrev V := Nat → Int
abbrev Mx := Nat → V
def sg : Nat → Int
 | 0 => 1
 | n + 1 => -sg n
def skip (i : Nat) (D : Mx) : Mx := fun a c => D (if a < i then a else a + 1) (c + 1)
def det : Nat → Mx → Int
 | 0, _ => 1
 | n + 1, D => zAl (fun i => sg i * (D i 0 * det n (skip i D))) (n + 1)
def put (D : Mx) (r : Nat) (v : V) : Mx := fun a => if a = r then v else D a
theorem zGL : ∀ {n : Nat} {D E : Mx}, (∀ a c, a < n → c < n → D a c = E a c) → det n D = det n E
 | 0, _, _, _ => rfl
 | n + 1, D, E, h => by
  rw [det, det]
  refine zAN (fun i hi => ?_)
  rw [h i 0 hi (by omega), zGL (D := skip i D) (E := skip i E) (fun a c ha hc => ?_)]
  unfold skip
  exact h _ _ (by split <;> omega) (by omega)
theorem zCC (D : Mx) (r : Nat) (v : V) : skip r (put D r v) = skip r D := by
 funext a c
 unfold skip put
 have : ¬ (if a < r then a else a + 1) = r := by split <;> omega
 rw [if_neg this]
theorem zEr {D : Mx} {i r : Nat} {v : V} (h : i ≠ r) : skip i (put D r v) = put (skip i D) (if r < i then r else r - 1) (fun c => v (c + 1)) := by
 funext a c
 unfold skip put
 by_cases hri : r < i
 ·rw [if_pos hri]
  by_cases ha : a = r
  ·subst ha; rw [if_pos hri]; simp
  ·by_cases hai : a < i
   ·simp [hai, ha]
   ·have : ¬ a + 1 = r := by omega
    simp [hai, ha, this]
 ·rw [if_neg hri]
  by_cases ha : a = r - 1
  ·subst ha
   have h1 : ¬ r - 1 < i := by omega
   have h2 : r - 1 + 1 = r := by omega
   simp [h1, h2]
  ·by_cases hai : a < i
   ·have : ¬ a = r := by omega
    simp [hai, ha, this]
   ·have : ¬ a + 1 = r := by omega
    simp [hai, ha, this]
/-- The determinant is linear in each row. -/
theorem zGz : ∀ (n : Nat) (D : Mx) (r : Nat) (u v : V), r < n → det n (put D r (fun c => u c + v c)) = det n (put D r u) + det n (put D r v)
 | 0, _, _, _, _, h => absurd h (Nat.not_lt_zero _)
 | n + 1, D, r, u, v, h => by
  rw [det, det, det, ← zCc]
  refine zAN (fun i hi => ?_)
  by_cases hir : i = r
  ·subst hir
   rw [zCC, zCC, zCC]
   have e : ∀ w : V, put D i w i 0 = w 0 := fun w => by simp [put]
   rw [e, e, e, Int.add_mul, Int.mul_add]
  ·have e : ∀ w : V, put D r w i 0 = D i 0 := fun w => by simp [put, hir]
   rw [zEr hir, zEr hir, zEr hir, e, e, e, zGz n _ _ _ _ (by split <;> omega), Int.mul_add, Int.mul_add]
theorem zEZ : ∀ (n : Nat) (D : Mx) (r : Nat) (k : Int) (v : V), r < n → det n (put D r (fun c => k * v c)) = k * det n (put D r v)
 | 0, _, _, _, _, h => absurd h (Nat.not_lt_zero _)
 | n + 1, D, r, k, v, h => by
  rw [det, det, ← zBi]
  refine zAN (fun i hi => ?_)
  by_cases hir : i = r
  ·subst hir
   rw [zCC, zCC]
   have e : ∀ w : V, put D i w i 0 = w 0 := fun w => by simp [put]
   rw [e, e, Int.mul_left_comm k, Int.mul_assoc]
  ·have e : ∀ w : V, put D r w i 0 = D i 0 := fun w => by simp [put, hir]
   rw [zEr hir, zEr hir, e, e, zEZ n _ _ _ _ (by split <;> omega), Int.mul_left_comm k, Int.mul_left_comm k]
theorem zFp (n : Nat) (D : Mx) (r : Nat) (h : r < n) : det n (put D r (fun _ => 0)) = 0 := by
 have := zEZ n D r 0 (fun _ => 0) h
 simpa using this
/-- Two rows beside each other that are equal. -/
theorem zI3 : ∀ (n : Nat) (D : Mx) (r : Nat), r + 1 < n → (∀ c, c < n → D r c = D (r + 1) c) → det n D = 0
 | 0, _, _, h, _ => absurd h (Nat.not_lt_zero _)
 | n + 1, D, r, h, he => by
  rw [det, sumZ_two r (r + 1) (by omega) h (by omega) (fun i hi h1 h2 => ?_)]
  ·have e : det n (skip r D) = det n (skip (r + 1) D) := zGL (fun a c ha hc => by
    unfold skip
    by_cases h1 : a < r
    ·rw [if_pos h1, if_pos (by omega)]
    ·rw [if_neg h1]
     by_cases h2 : a < r + 1
     ·have : a = r := by omega
      subst this
      rw [if_pos h2]; exact (he _ (by omega)).symm
     ·rw [if_neg h2])
   rw [e, he 0 (by omega), sg, Int.neg_mul]
   omega
  ·have := zI3 n (skip i D) (if r < i then r else r - 1) (by split <;> omega) (fun c hc => by
    unfold skip
    by_cases hri : r < i
    ·rw [if_pos hri, if_pos (show r < i from hri), if_pos (show r + 1 < i by omega)]
     exact he _ (by omega)
    ·have e1 : ¬ r - 1 < i := by omega
     have e2 : ¬ r - 1 + 1 < i := by omega
     rw [if_neg hri, if_neg e1, if_neg e2, show r - 1 + 1 = r by omega]
     exact he _ (by omega))
   rw [this, Int.mul_zero, Int.mul_zero]
theorem zHi (D : Mx) {r s : Nat} (u v : V) (h : r ≠ s) : put (put D r u) s v = put (put D s v) r u := by
 funext a
 unfold put
 by_cases h1 : a = s
 ·have : ¬ a = r := fun e => h (e.symm.trans h1)
  simp [h1]
  intro e; exact absurd e.symm h
 ·simp [h1]
theorem zHj (D : Mx) (r : Nat) : put D r (D r) = D := by
 funext a; unfold put; split
 ·rename_i h; rw [h]
 ·rfl
/-- Exchange of two rows beside each other. -/
theorem det_swap (n : Nat) (D : Mx) (r : Nat) (u v : V) (h : r + 1 < n) : det n (put (put D r u) (r + 1) v) = - det n (put (put D r v) (r + 1) u) := by
 have key : ∀ w : V, det n (put (put D r w) (r + 1) w) = 0 := fun w => zI3 n _ r h (fun c _ => by unfold put; simp)
 have h0 := key (fun c => u c + v c)
 have add0 : ∀ w : V, det n (put (put D r (fun c => u c + v c)) (r + 1) w) = det n (put (put D r u) (r + 1) w) + det n (put (put D r v) (r + 1) w) := fun w => by
  rw [zHi D _ w (by omega), zGz n _ _ _ _ (by omega), zHi D u w (by omega), zHi D v w (by omega)]
 rw [zGz n _ _ _ _ h, add0, add0] at h0
 have h1 := key u
 have h2 := key v
 omega
theorem zKS : ∀ (k : Nat) (n : Nat) (D : Mx) (r : Nat), r + (k + 1) < n → (∀ c, c < n → D r c = D (r + (k + 1)) c) → det n D = 0
 | 0, n, D, r, h, he => zI3 n D r h he
 | k + 1, n, D, r, h, he => by
  have e : D = put (put D (r + (k + 1)) (D (r + (k + 1)))) (r + (k + 1) + 1) (D (r + (k + 1) + 1)) := by
   rw [zHj, zHj]
  rw [e, det_swap n D (r + (k + 1)) _ _ (by omega), zKS k n _ r (by omega) (fun c hc => ?_)]
  ·rfl
  ·have h1 : ¬ r = r + (k + 1) + 1 := by omega
   have h2 : ¬ r = r + (k + 1) := by omega
   have h3 : ¬ r + (k + 1) = r + (k + 1) + 1 := by omega
   unfold put
   rw [if_neg h1, if_neg h2, if_neg h3, if_pos rfl]
   exact he c hc
theorem det_rep (n : Nat) (D : Mx) {r s : Nat} (hr : r < n) (hs : s < n) (hne : r ≠ s) : det n (put D r (D s)) = 0 := by
 rcases Nat.lt_or_gt_of_ne hne with h | h
 ·refine zKS (s - r - 1) n _ r (by omega) (fun c _ => ?_)
  rw [show r + (s - r - 1 + 1) = s by omega]
  have : ¬ s = r := fun e => hne e.symm
  simp [put, this]
 ·refine zKS (r - s - 1) n _ s (by omega) (fun c _ => ?_)
  rw [show s + (r - s - 1 + 1) = r by omega]
  have : ¬ s = r := fun e => hne e.symm
  simp [put, this]
/-- A row that is a sum of multiples of the rows. -/
theorem zJj (n : Nat) (D : Mx) (r : Nat) (hr : r < n) (t : V) : ∀ k, k ≤ n → det n (put D r (fun c => zAl (fun i => t i * D i c) k)) = if r < k then t r * det n D else 0
 | 0, _ => by
  rw [if_neg (Nat.not_lt_zero _)]
  exact zFp n D r hr
 | k + 1, hk => by
  have ih := zJj n D r hr t k (by omega)
  have e : (fun c => zAl (fun i => t i * D i c) (k + 1)) = (fun c => (fun c => zAl (fun i => t i * D i c) k) c + (fun c => t k * D k c) c) := rfl
  rw [e, zGz n D r _ _ hr, ih, zEZ n D r _ _ hr]
  by_cases hkr : k = r
  ·subst hkr
   rw [if_neg (by omega), if_pos (by omega), zHj]; omega
  ·rw [det_rep n D hr (by omega) (fun e => hkr e.symm), Int.mul_zero, Int.add_zero]
   by_cases h1 : r < k
   ·rw [if_pos h1, if_pos (by omega)]
   ·rw [if_neg h1, if_neg (by omega)]
theorem zD5 {n : Nat} {D : Mx} {r : Nat} (hr : r < n) {t w : V} (h : ∀ c, c < n → w c = zAl (fun i => t i * D i c) n) : det n (put D r w) = t r * det n D := by
 have := zJj n D r hr t n (Nat.le_refl _)
 rw [if_pos hr] at this
 rw [← this]
 refine zGL (fun a c _ hc => ?_)
 unfold put
 split
 ·exact h c hc
 ·rfl
/-- A column of the table, and the column of the beginning that it stands for. -/
def Sol (n : Nat) (D : Mx) (d : Int) (t0 t : V) : Prop := ∀ c, c < n → zAl (fun i => t i * D i c) n = d * t0 c
theorem sol_det {n : Nat} {D : Mx} {d s : Int} {t0 t : V} (hd : d ≠ 0) (hs : s * s = 1) (hD : det n D = s * d) (h : Sol n D d t0 t) {i : Nat} (hi : i < n) : t i = s * det n (put D i t0) := by
 have h1 := zD5 (w := fun c => d * t0 c) hi (fun c hc => (h c hc).symm)
 rw [zEZ n D i d t0 hi, hD] at h1
 have h2 : d * det n (put D i t0) = d * (s * t i) := by rw [h1, Int.mul_left_comm, Int.mul_comm (t i) d, Int.mul_left_comm]
 have h3 := Int.eq_of_mul_eq_mul_left hd h2
 rw [h3, ← Int.mul_assoc, hs, Int.one_mul]
/-- The pivot: the determinant of the new rows, and exact quotients. -/
theorem zIi {n : Nat} {D : Mx} {d s : Int} {t0 t : V} (hd : d ≠ 0) (hs : s * s = 1) (hD : det n D = s * d) (h : Sol n D d t0 t) {r : Nat} (hr : r < n) : det n (put D r t0) = s * t r := by
 rw [sol_det hd hs hD h hr, ← Int.mul_assoc, hs, Int.one_mul]
theorem sumZ_put {n : Nat} {D : Mx} {r : Nat} (hr : r < n) (v : V) (t : V) (c : Nat) : zAl (fun i => t i * put D r v i c) n = zAl (fun i => t i * D i c) n - t r * D r c + t r * v c := by
 have e : ∀ i, i < n → t i * put D r v i c = t i * D i c + (if i = r then t r * v c - t r * D r c else 0) := by
  intro i hi
  by_cases hir : i = r
  ·subst hir; simp [put]; omega
  ·simp [put, hir]
 rw [zAN e, zCc, zEs (f := fun i => if i = r then t r * v c - t r * D r c else 0) r hr (fun i hi hne => by simp [hne])]
 simp; omega
theorem zIj {n : Nat} {D : Mx} {d s : Int} {tc0 tc tj0 tj : V} (hd : d ≠ 0) (hs : s * s = 1) (hD : det n D = s * d) (hc : Sol n D d tc0 tc) (hj : Sol n D d tj0 tj) {r : Nat} (hr : r < n) (hp : tc r ≠ 0) :
 (∀ i, i < n → i ≠ r → d ∣ tj i * tc r - tc i * tj r) ∧ Sol n (put D r tc0) (tc r) tj0 (fun i => if i = r then tj r else (tj i * tc r - tc i * tj r) / d) := by
 have hD' := zIi hd hs hD hc hr
 -- the numerators are a solution of d times the new equation
 let N : V := fun i => if i = r then d * tj r else tj i * tc r - tc i * tj r
 have hN : ∀ c, c < n → zAl (fun i => N i * put D r tc0 i c) n = d * tc r * tj0 c := by
  intro c hcn
  rw [sumZ_put hr]
  have e : ∀ i, i < n → N i * D i c = (tc r * (tj i * D i c) + (-(tj r)) * (tc i * D i c)) + (if i = r then d * tj r * D r c else 0) := by
   intro i hi
   by_cases hir : i = r
   ·subst hir
    simp only [N, if_true]
    have : tc i * (tj i * D i c) + -tj i * (tc i * D i c) = 0 := by
     rw [Int.neg_mul, Int.mul_left_comm]; omega
    omega
   ·simp only [N, hir, if_false, Int.add_zero]
    rw [Int.sub_mul, Int.neg_mul, Int.mul_comm (tj i) (tc r), Int.mul_assoc, Int.mul_comm (tc i) (tj r), Int.mul_assoc]; omega
  rw [zAN e, zCc, zCc, zBi, zBi, hj c hcn, hc c hcn, zEs (f := fun i => if i = r then d * tj r * D r c else 0) r hr (fun i hi hne => by simp [hne])]
  simp only [N, if_true]
  have e1 : tc r * (d * tj0 c) = d * tc r * tj0 c := by rw [← Int.mul_assoc, Int.mul_comm (tc r) d]
  have e2 : -tj r * (d * tc0 c) = -(d * tj r * tc0 c) := by rw [Int.neg_mul, ← Int.mul_assoc, Int.mul_comm (tj r) d]
  rw [e1, e2]; omega
 have hex : ∀ i, i < n → N i = d * (s * det n (put (put D r tc0) i tj0)) := by
  intro i hi
  have h1 := zD5 (D := put D r tc0) (w := fun c => d * tc r * tj0 c) hi (fun c hcn => (hN c hcn).symm)
  rw [zEZ n _ i (d * tc r) tj0 hi, hD'] at h1
  have h2 : tc r * (d * (s * det n (put (put D r tc0) i tj0))) = tc r * N i := by
   have h3 : s * (d * tc r * det n (put (put D r tc0) i tj0)) = s * (N i * (s * tc r)) := by rw [h1]
   have h4 : s * (N i * (s * tc r)) = tc r * N i := by
    rw [Int.mul_left_comm, ← Int.mul_assoc s s, hs, Int.one_mul, Int.mul_comm]
   rw [h4] at h3
   rw [← h3]
   rw [Int.mul_assoc d, Int.mul_left_comm s d, Int.mul_left_comm s (tc r), Int.mul_left_comm d (tc r)]
  exact (Int.eq_of_mul_eq_mul_left hp h2).symm
 refine ⟨fun i hi hne => ?_, ?_⟩
 ·have := hex i hi
  simp only [N, hne, if_false] at this
  exact ⟨_, this⟩
 ·intro c hcn
  have h1 := hN c hcn
  have h2 : ∀ i, i < n → N i * put D r tc0 i c = d * ((fun i => if i = r then tj r else (tj i * tc r - tc i * tj r) / d) i * put D r tc0 i c) := by
   intro i hi
   by_cases hir : i = r
   ·subst hir; simp only [N, if_true]; rw [Int.mul_assoc]
   ·have h3 := hex i hi
    simp only [N, hir, if_false] at h3 ⊢
    have h4 : (tj i * tc r - tc i * tj r) / d = s * det n (put (put D r tc0) i tj0) := by rw [h3, Int.mul_ediv_cancel_left _ hd]
    rw [h4, ← Int.mul_assoc, ← h3]
  rw [zAN h2, zBi, Int.mul_assoc d] at h1
  exact Int.eq_of_mul_eq_mul_left hd h1
/-- The quotient of the absolute values, with the sign of the quotient. -/
def zEb (x d : Int) : Int := if (decide (x < 0) != decide (d < 0)) = true then -((x.natAbs / d.natAbs : Nat) : Int) else ((x.natAbs / d.natAbs : Nat) : Int)
theorem zEx {q d : Int} (hd : d ≠ 0) : zEb (d * q) d = q := by
 have hn : (d * q).natAbs / d.natAbs = q.natAbs := by rw [Int.natAbs_mul, Nat.mul_div_cancel_left _ (by omega)]
 unfold zEb
 rw [hn]
 rcases Int.lt_trichotomy q 0 with hq | hq | hq
 ·rcases Int.lt_or_gt_of_ne hd with h | h
  ·have h1 : ¬ d * q < 0 := Int.not_lt.2 (Int.le_of_lt (Int.mul_pos_of_neg_of_neg h hq))
   simp [h, h1]; omega
  ·have h1 : d * q < 0 := Int.mul_neg_of_pos_of_neg h hq
   have h2 : ¬ d < 0 := by omega
   simp [h1, h2]; omega
 ·subst hq; simp
 ·rcases Int.lt_or_gt_of_ne hd with h | h
  ·have h1 : d * q < 0 := Int.mul_neg_of_neg_of_pos h hq
   simp [h, h1]; omega
  ·have h1 : ¬ d * q < 0 := Int.not_lt.2 (Int.le_of_lt (Int.mul_pos h hq))
   have h2 : ¬ d < 0 := by omega
   simp [h1, h2]; omega
theorem zIX {x d : Int} (hd : d ≠ 0) (h : d ∣ x) : zEb x d = x / d := by
 obtain ⟨q, rfl⟩ := h
 rw [zEx hd, Int.mul_ediv_cancel_left _ hd]
abbrev Tab := List (List Int)
def at2 (T : Tab) (i j : Nat) : Int := (T.getD i []).getD j 0
def zFq (R K : List Int) (p f d : Int) : List Int := (List.range R.length).map (fun j => zEb (R.getD j 0 * p - f * K.getD j 0) d)
def zGh (T : Tab) (k c : Nat) (d : Int) : Tab := (List.range T.length).map (fun i => if i = k then T.getD k [] else zFq (T.getD i []) (T.getD k []) (at2 T k c) (at2 T i c) d)
structure Red where
 T : Tab
 piv : List Nat
 last : Int
 neg : Bool
theorem zEd {α : Type} (l : List α) (d x : α) (i j : Nat) : (l.set i x).getD j d = if j = i ∧ i < l.length then x else l.getD j d := by
 by_cases h : j = i
 ·subst h
  by_cases h2 : j < l.length
  ·simp [List.getD, h2]
  ·have : l.length ≤ j := by omega
   simp [List.getD, h2, this]
 ·have : ¬ i = j := fun e => h e.symm
  simp [List.getD, h, List.getElem?_set, this]
theorem zIV (T : Tab) (k c : Nat) (d : Int) : (zGh T k c d).length = T.length := by simp [zGh]
theorem zLe (T : Tab) (k c : Nat) (d : Int) {i : Nat} (hi : i < T.length) : (zGh T k c d).getD i [] = if i = k then T.getD k [] else zFq (T.getD i []) (T.getD k []) (at2 T k c) (at2 T i c) d := by
 unfold zGh
 simp [List.getD, hi]
theorem zJR (T : Tab) (k c : Nat) (d : Int) {L : Nat} (hT : ∀ x ∈ T, x.length = L) {i j : Nat} (hi : i < T.length) (hj : j < L) : at2 (zGh T k c d) i j = if i = k then at2 T k j else zEb (at2 T i j * at2 T k c - at2 T i c * at2 T k j) d := by
 unfold at2
 rw [zLe T k c d hi]
 have hl : (T.getD i []).length = L := hT _ (by simp [List.getD, hi])
 by_cases h : i = k
 ·rw [if_pos h, if_pos h]
 ·rw [if_neg h, if_neg h]
  unfold zFq
  rw [hl]
  have : ∀ f : Nat → Int, ((List.range L).map f).getD j 0 = f j := fun f => by simp [List.getD, hj]
  rw [this]; rfl
theorem zJk (R K : List Int) (p f d : Int) : (zFq R K p f d).length = R.length := by simp [zFq]
theorem zIW (T : Tab) (k c : Nat) (d : Int) {L : Nat} (hk : k < T.length) (hT : ∀ x ∈ T, x.length = L) : ∀ x ∈ zGh T k c d, x.length = L := by
 intro x hx
 obtain ⟨i, hi, rfl⟩ := List.mem_map.1 hx
 have hi : i < T.length := by simpa using hi
 split
 ·exact hT _ (by simp [List.getD, hk])
 ·rw [zJk]; exact hT _ (by simp [List.getD, hi])
/-- Rows that are proportional have their pivots in the same places. -/
structure Prop2 (n w : Nat) (r r' : Red) : Prop where
 piv : r'.piv = r.piv
 rows : ∀ i, i < n → ∃ α β : Int, α ≠ 0 ∧ β ≠ 0 ∧ ∀ j, j < w → α * at2 r'.T i j = β * at2 r.T i j
theorem Prop2.zero {n w : Nat} {r r' : Red} (h : Prop2 n w r r') {i j : Nat} (hi : i < n) (hj : j < w) : at2 r'.T i j = 0 ↔ at2 r.T i j = 0 := by
 obtain ⟨α, β, ha, hb, he⟩ := h.rows i hi
 have := he j hj
 constructor
 ·intro e; rw [e, Int.mul_zero] at this
  rcases Int.mul_eq_zero.1 this.symm with q | q
  ·exact absurd q hb
  ·exact q
 ·intro e; rw [e, Int.mul_zero] at this
  rcases Int.mul_eq_zero.1 this with q | q
  ·exact absurd q ha
  ·exact q
end Go.Ax.Dt
namespace Go.Ax.Rt
open Go.Ax.Bg Go.Ax.Dt
/-- The factor that makes a row whole. -/
def facF : Nat → List Rat → Nat
 | f, [] => f
 | f, q :: r => facF (f * (q.den / Nat.gcd f q.den)) r
def wholeL (l : List Rat) : List Int := l.map (fun q => q.num * ((facF 1 l / q.den : Nat) : Int))
end Go.Ax.Rt
namespace Go.Ax.Rt
open Go.Ax.Bg
structure TNode where
 kind : Int
 player : Int
 info : Int
 next : List Int
 odds : List zCp
 pay : zCp
 deriving DecidableEq
abbrev Tree := List TNode
/-- how often a node is named -/
def named (t : Tree) (k : Nat) : Nat := ((t.flatMap TNode.next).filter (fun x => decide (x = (k : Int)))).length
/-- Is it the player's move, in an information set? -/
def own (p : Int) (n : TNode) : Bool := decide (n.kind = 2) && decide (n.player = p)
end Go.Ax.Rt
namespace Go.Ax.Idx
/-- The place of the first element with a property, or -1. -/
def zDH {α : Type} (p : α → Bool) : List α → Int
 | [] => -1
 | x :: r => if p x then 0 else if zDH p r < 0 then -1 else zDH p r + 1
theorem idxF_neg {α : Type} (p : α → Bool) (l : List α) (h : zDH p l < 0) : zDH p l = -1 := by
 cases l with
 | nil => rfl
 | cons x r =>
  simp only [zDH] at h ⊢
  by_cases h1 : p x = true
  ·simp [h1] at h
  ·by_cases h2 : zDH p r < 0
   ·simp [h1, h2]
   ·simp only [h1, h2, if_false, Bool.false_eq_true] at h
    omega
theorem zCK {α : Type} (p : α → Bool) (l : List α) (k : Nat) (h : (l.take k).any p = false) (hk : k ≤ l.length) : zDH p l = if zDH p (l.drop k) < 0 then -1 else zDH p (l.drop k) + k := by
 induction k generalizing l with
 | zero =>
  simp only [List.drop_zero]
  split
  ·exact idxF_neg p l (by assumption)
  ·omega
 | succ k ih => cases l with
  | nil => simp at hk
  | cons x r =>
   simp only [List.take_succ_cons, List.any_cons, Bool.or_eq_false_iff] at h
   have := ih r h.2 (by simpa using hk)
   simp only [zDH, h.1, List.drop_succ_cons, Bool.false_eq_true, if_false]
   rw [this]
   split <;> split <;> omega
theorem zHS {α : Type} (p : α → Bool) (l : List α) : decide (0 ≤ zDH p l) = l.any p := by
 induction l with
 | nil => rfl
 | cons x r ih =>
  simp only [zDH, List.any_cons]
  by_cases h1 : p x = true
  ·simp [h1]
  ·simp only [Bool.not_eq_true] at h1
   simp only [h1, Bool.false_eq_true, if_false, Bool.false_or]
   rw [← ih]
   by_cases h2 : zDH p r < 0
   ·rw [if_pos h2]; simp; omega
   ·rw [if_neg h2]; congr 1; simp; omega
theorem zEd {l : List Int} {i j : Nat} {v : Int} (hi : i < l.length) : (l.set i v).getD j 0 = if j = i then v else l.getD j 0 := by
 by_cases h : j = i
 ·subst h; simp [List.getD, hi]
 ·simp only [List.getD, h, if_false]
  rw [List.getElem?_set_ne (fun e => h e.symm)]
/-- One less of kind i. -/
def less (l : List Int) (i : Nat) : List Int := l.set i (l.getD i 0 - 1)
end Go.Ax.Idx
namespace Go.Ax.Cd
open Go.Ax.Idx
end Go.Ax.Cd
namespace Go.Ax.Cd
open Go.Ax.Idx
end Go.Ax.Cd
namespace Go.Ax.Cd
open Go.Ax.Idx
end Go.Ax.Cd
namespace Go.Ax.Cd
open Go.Ax.Idx
end Go.Ax.Cd
namespace Go.Ax.Cd
end Go.Ax.Cd
namespace Go.Ax.Cd
open Go.Ax.Idx
end Go.Ax.Cd
namespace Go.Ax.Cd
open Go.Ax.Idx
end Go.Ax.Cd
namespace Go.Ax.Cd
open Go.Ax.Idx
end Go.Ax.Cd
namespace Go.Ax.Sx
open Go.Ax.Dt
structure St where
 rows : Tab
 den : Int
 basis : List Nat
def zHI (T : Tab) (j : Nat) : V := fun i => at2 T i j
/-- the columns of the beginning that are in the basis, and one for the costs -/
def zGG (M : Tab) (m : Nat) (β : List Nat) : Mx := fun a => if a < m then zHI M (β.getD a 0) else fun c => if c = a then 1 else 0
/-- What each table keeps: m conditions and the costs, N unknowns and the right side. -/
structure Inv (m N : Nat) (M : Tab) (s : St) : Prop where
 n : s.rows.length = m + 1
 row : ∀ x ∈ s.rows, x.length = N + 1
 b : s.basis.length = m
 bc : ∀ i, i < m → s.basis.getD i 0 < N
 dp : 0 < s.den
 unit : ∀ i k, i < m + 1 → k < m → at2 s.rows i (s.basis.getD k 0) = if i = k then s.den else 0
 sg : ∃ σ : Int, σ * σ = 1 ∧ det (m + 1) (zGG M m s.basis) = σ * s.den
 sol : ∀ j, j < N + 1 → Sol (m + 1) (zGG M m s.basis) s.den (zHI M j) (zHI s.rows j)
def sgZ (p : Int) : Int := if p < 0 then -1 else 1
theorem sgZ_sq (p : Int) : sgZ p * sgZ p = 1 := by unfold sgZ; split <;> rfl
theorem sgZ_pos {p : Int} (h : p ≠ 0) : 0 < sgZ p * p := by
 unfold sgZ
 split
 ·omega
 ·omega
def pivT (T : Tab) (r c : Nat) (d : Int) : Tab := if at2 T r c < 0 then (zGh T r c d).map (fun l => l.map (fun x => -x)) else zGh T r c d
def piv (s : St) (r c : Nat) : St := ⟨pivT s.rows r c s.den, if at2 s.rows r c < 0 then -(at2 s.rows r c) else at2 s.rows r c, s.basis.set r c⟩
theorem zF1 (s : St) (r c : Nat) : (piv s r c).den = sgZ (at2 s.rows r c) * at2 s.rows r c := by
 show (if at2 s.rows r c < 0 then -(at2 s.rows r c) else at2 s.rows r c) = _
 unfold sgZ
 split <;> omega
theorem at2_neg (T : Tab) (i j : Nat) : at2 (T.map (fun l => l.map (fun x => -x))) i j = -(at2 T i j) := by
 unfold at2
 simp only [List.getD, List.getElem?_map]
 cases h : T[i]? with
 | none => rfl
 | some l =>
  show ((l.map (fun x => -x))[j]?).getD 0 = -((l[j]?).getD 0)
  rw [List.getElem?_map]
  cases l[j]? <;> rfl
theorem zK4 (T : Tab) (r c : Nat) (d : Int) {L : Nat} (hT : ∀ x ∈ T, x.length = L) {i j : Nat} (hi : i < T.length) (hj : j < L) :
 at2 (pivT T r c d) i j = sgZ (at2 T r c) * (if i = r then at2 T r j else zEb (at2 T i j * at2 T r c - at2 T i c * at2 T r j) d) := by
 unfold pivT sgZ
 split
 ·rw [at2_neg, zJR T r c d hT hi hj]; omega
 ·rw [zJR T r c d hT hi hj, Int.one_mul]
theorem pivT_len (T : Tab) (r c : Nat) (d : Int) : (pivT T r c d).length = T.length := by
 unfold pivT
 split
 ·rw [List.length_map, zIV]
 ·rw [zIV]
theorem pivT_row (T : Tab) (r c : Nat) (d : Int) {L : Nat} (hr : r < T.length) (hT : ∀ x ∈ T, x.length = L) : ∀ x ∈ pivT T r c d, x.length = L := by
 unfold pivT
 split
 ·intro x hx
  obtain ⟨y, hy, rfl⟩ := List.mem_map.1 hx
  rw [List.length_map]
  exact zIW T r c d hr hT y hy
 ·exact zIW T r c d hr hT
theorem basM_set {M : Tab} {m : Nat} {β : List Nat} (hb : β.length = m) {r : Nat} (hr : r < m) (c : Nat) : zGG M m (β.set r c) = put (zGG M m β) r (zHI M c) := by
 funext a
 show (if a < m then zHI M ((β.set r c).getD a 0) else _) = if a = r then zHI M c else (if a < m then zHI M (β.getD a 0) else _)
 by_cases ha : a < m
 ·rw [if_pos ha, if_pos ha, zEd]
  by_cases h : a = r
  ·rw [if_pos ⟨h.symm ▸ rfl, by omega⟩, if_pos h]
  ·rw [if_neg (fun q => h q.1), if_neg h]
 ·rw [if_neg ha, if_neg ha, if_neg (by omega)]
theorem zMC {n : Nat} {D : Mx} {d : Int} {t0 t t' : V} (h : Sol n D d t0 t) (he : ∀ i, i < n → t' i = t i) : Sol n D d t0 t' := by
 intro c hc
 rw [← h c hc]
 exact zAN (fun i hi => by rw [he i hi])
theorem sol_smul {n : Nat} {D : Mx} {d : Int} {t0 t : V} (k : Int) (h : Sol n D d t0 t) : Sol n D (k * d) t0 (fun i => k * t i) := by
 intro c hc
 rw [Int.mul_assoc, ← h c hc, ← zBi]
 exact zAN (fun i hi => Int.mul_assoc _ _ _)
/-- A pivot keeps everything. -/
theorem Inv.piv {m N : Nat} {M : Tab} {s : St} (h : Inv m N M s) {r c : Nat} (hr : r < m) (hc : c < N) (hp : at2 s.rows r c ≠ 0) : Inv m N M (piv s r c) := by
 obtain ⟨σ, hs, hD⟩ := h.sg
 have hd : s.den ≠ 0 := by have := h.dp; omega
 have hr1 : r < m + 1 := by omega
 have hrl : r < s.rows.length := by rw [h.n]; omega
 have hb := basM_set (M := M) h.b hr c
 have hpz := sgZ_pos hp
 have hat : ∀ i j, i < m + 1 → j < N + 1 → at2 (Sx.piv s r c).rows i j = sgZ (at2 s.rows r c) * (if i = r then at2 s.rows r j else zEb (at2 s.rows i j * at2 s.rows r c - at2 s.rows i c * at2 s.rows r j) s.den) := fun i j hi hj => zK4 s.rows r c s.den h.row (by rw [h.n]; exact hi) hj
 refine ⟨?_, ?_, ?_, ?_, ?_, ?_, ?_, ?_⟩
 ·show (pivT _ _ _ _).length = _
  rw [pivT_len, h.n]
 ·exact pivT_row s.rows r c s.den hrl h.row
 ·show (s.basis.set r c).length = m
  rw [List.length_set, h.b]
 ·intro i hi
  show (s.basis.set r c).getD i 0 < N
  rw [zEd]
  split
  ·exact hc
  ·exact h.bc i hi
 ·rw [zF1]; exact hpz
 ·intro i k hi hk
  have hbk : (Sx.piv s r c).basis.getD k 0 = if k = r then c else s.basis.getD k 0 := by
   show (s.basis.set r c).getD k 0 = _
   rw [zEd]
   by_cases e : k = r
   ·rw [if_pos ⟨e, by rw [h.b]; exact hr⟩, if_pos e]
   ·rw [if_neg (fun q => e q.1), if_neg e]
  rw [hbk, zF1]
  by_cases e : k = r
  ·subst e
   rw [if_pos rfl, hat i c hi (by omega)]
   by_cases e2 : i = k
   ·rw [if_pos e2, if_pos e2]
   ·rw [if_neg e2, if_neg e2]
    have : at2 s.rows i c * at2 s.rows k c - at2 s.rows i c * at2 s.rows k c = s.den * 0 := by omega
    rw [this, zEx hd, Int.mul_zero]
  ·have hrk : at2 s.rows r (s.basis.getD k 0) = 0 := by rw [h.unit r k hr1 hk, if_neg (fun q => e q.symm)]
   have hik := h.unit i k hi hk
   rw [if_neg e, hat i _ hi (by have := h.bc k hk; omega), hrk, hik]
   by_cases e2 : i = k
   ·have e5 : ¬ i = r := fun q => e (e2 ▸ q)
    rw [if_neg e5, if_pos e2, if_pos e2, Int.mul_zero, Int.sub_zero, zEx hd]
   ·rw [if_neg e2, if_neg e2]
    by_cases e3 : i = r
    ·rw [if_pos e3, Int.mul_zero]
    ·rw [if_neg e3, Int.mul_zero, Int.sub_zero]
     have : (0 : Int) * at2 s.rows r c = s.den * 0 := by omega
     rw [this, zEx hd, Int.mul_zero]
 ·refine ⟨sgZ (at2 s.rows r c) * σ, ?_, ?_⟩
  ·have := sgZ_sq (at2 s.rows r c)
   rw [Int.mul_assoc, Int.mul_left_comm σ, hs, Int.mul_one, this]
  ·show det (m + 1) (zGG M m (s.basis.set r c)) = _
   rw [hb, zIi hd hs hD (h.sol c (by omega)) hr1, zF1]
   have := sgZ_sq (at2 s.rows r c)
   show σ * at2 s.rows r c = _
   rw [Int.mul_assoc, Int.mul_left_comm σ, ← Int.mul_assoc, this, Int.one_mul]
 ·intro j hj
  show Sol (m + 1) (zGG M m (s.basis.set r c)) _ _ _
  rw [hb, zF1]
  obtain ⟨p1, p2⟩ := zIj hd hs hD (h.sol c (by omega)) (h.sol j hj) hr1 hp
  refine zMC (sol_smul (sgZ (at2 s.rows r c)) p2) (fun i hi => ?_)
  show at2 (Sx.piv s r c).rows i j = _
  rw [hat i j hi hj]
  by_cases e : i = r
  ·rw [if_pos e, if_pos e]; rfl
  ·rw [if_neg e, if_neg e]
   have := zIX hd (p1 i hi e)
   show _ * zEb (zHI s.rows j i * zHI s.rows c r - zHI s.rows c i * zHI s.rows j r) s.den = _
   rw [this]
theorem zFe (f : Nat → Nat → Int) (m : Nat) : ∀ n : Nat, zAl (fun i => zAl (fun j => f i j) m) n = zAl (fun j => zAl (fun i => f i j) n) m
 | 0 => by
  show (0 : Int) = _
  rw [zDB (f := fun j => zAl (fun i => f i j) 0) (fun i _ => rfl)]
 | n + 1 => by
  show zAl (fun i => zAl (fun j => f i j) m) n + zAl (fun j => f n j) m = _
  rw [zFe f m n, ← zCc]
  exact zAN (fun i _ => rfl)
theorem zMJ (c : Int) (f : Nat → Int) (n : Nat) : zAl (fun i => f i * c) n = zAl f n * c := by
 rw [Int.mul_comm, ← zBi]
 exact zAN (fun i _ => Int.mul_comm _ _)
theorem zE8 {f : Nat → Int} {n k : Nat} (hk : k < n) : zAl (fun j => if j = k then f j else 0) n = f k := by
 rw [zEs k hk (fun i hi hne => by rw [if_neg hne]), if_pos rfl]
theorem zKE : ∀ {n : Nat} {f : Nat → Int}, 0 < zAl f n → ∃ i, i < n ∧ 0 < f i
 | 0, f, h => absurd h (by show ¬ (0 : Int) < 0; omega)
 | n + 1, f, h => by
  have h : 0 < zAl f n + f n := h
  by_cases h1 : 0 < f n
  ·exact ⟨n, Nat.lt_succ_self n, h1⟩
  ·obtain ⟨i, hi, h2⟩ := zKE (n := n) (f := f) (by omega)
   exact ⟨i, by omega, h2⟩
/-- a row of the table times a vector -/
def zEF (T : Tab) (N : Nat) (x : Nat → Int) (i : Nat) : Int := zAl (fun j => at2 T i j * x j) (N + 1)
/-- The vectors that satisfy the rows of the beginning satisfy the rows of each table, and the other way round. -/
theorem Inv.ker {m N : Nat} {M : Tab} {s : St} (h : Inv m N M s) (x : Nat → Int) (z : Int) :
 (∀ i, i < m + 1 → zEF M N x i + (if i = m then z else 0) = 0) ↔ (∀ i, i < m + 1 → zEF s.rows N x i + (if i = m then s.den * z else 0) = 0) := by
 obtain ⟨σ, hs, hD⟩ := h.sg
 have hd : s.den ≠ 0 := by have := h.dp; omega
 let t : V := fun i => zEF s.rows N x i + (if i = m then s.den * z else 0)
 have key : ∀ c, c < m + 1 → zAl (fun i => t i * zGG M m s.basis i c) (m + 1) = s.den * (zEF M N x c + (if c = m then z else 0)) := by
  intro c hc
  have e1 : ∀ i, i < m + 1 → t i * zGG M m s.basis i c = zAl (fun j => x j * (at2 s.rows i j * zGG M m s.basis i c)) (N + 1) + (if i = m then s.den * z * (if c = m then 1 else 0) else 0) := by
   intro i hi
   show (zEF s.rows N x i + _) * _ = _
   rw [Int.add_mul]
   congr 1
   ·unfold zEF
    rw [← zMJ]
    exact zAN (fun j _ => by rw [Int.mul_comm (at2 s.rows i j), Int.mul_assoc])
   ·by_cases e : i = m
    ·subst e
     rw [if_pos rfl, if_pos rfl]
     congr 1
     unfold zGG
     rw [if_neg (by omega)]
    ·rw [if_neg e, if_neg e, Int.zero_mul]
  rw [zAN e1, zCc, zFe, zE8 (f := fun i => s.den * z * (if c = m then 1 else 0)) (Nat.lt_succ_self m)]
  have e2 : ∀ j, j < N + 1 → zAl (fun i => x j * (at2 s.rows i j * zGG M m s.basis i c)) (m + 1) = s.den * (at2 M c j * x j) := by
   intro j hj
   rw [zBi]
   have := h.sol j hj c hc
   have : zAl (fun i => at2 s.rows i j * zGG M m s.basis i c) (m + 1) = s.den * at2 M c j := this
   rw [this, Int.mul_left_comm, Int.mul_comm (x j)]
  rw [zAN e2, zBi, Int.mul_add]
  congr 1
  split
  ·rw [Int.mul_one]
  ·rw [Int.mul_zero, Int.mul_zero]
 constructor
 ·intro h0 i hi
  have h1 := zD5 (D := zGG M m s.basis) (t := t) (w := fun _ => 0) hi (fun c hc => by rw [key c hc, h0 c hc, Int.mul_zero])
  rw [zFp (m + 1) _ i hi, hD] at h1
  have hσ : σ ≠ 0 := fun e => by rw [e] at hs; exact absurd hs (by decide)
  rcases Int.mul_eq_zero.1 h1.symm with h2 | h2
  ·exact h2
  ·rcases Int.mul_eq_zero.1 h2 with h3 | h3
   ·exact absurd h3 hσ
   ·exact absurd h3 hd
 ·intro h0 c hc
  have h1 := key c hc
  rw [zDB (fun i hi => by show t i * _ = 0; rw [show t i = 0 from h0 i hi, Int.zero_mul])] at h1
  rcases Int.mul_eq_zero.1 h1.symm with h2 | h2
  ·exact absurd h2 hd
  ·exact h2
/-- One table told by another one. -/
theorem Inv.cross {m N : Nat} {M : Tab} {s s' : St} (h : Inv m N M s) (h' : Inv m N M s') {i c : Nat} (hi : i < m + 1) (hc : c < N + 1) :
 s.den * at2 s'.rows i c = zAl (fun k => at2 s'.rows i (s.basis.getD k 0) * at2 s.rows k c) m + (if i = m then s'.den * at2 s.rows m c else 0) := by
 let x : Nat → Int := fun j => (if j = c then s.den else 0) - zAl (fun k => if j = s.basis.getD k 0 then at2 s.rows k c else 0) m
 have hx : ∀ (T : Tab) (i : Nat), zEF T N x i = at2 T i c * s.den - zAl (fun k => at2 T i (s.basis.getD k 0) * at2 s.rows k c) m := by
  intro T i
  unfold zEF
  have e1 : ∀ j, j < N + 1 → at2 T i j * x j = (if j = c then at2 T i j * s.den else 0) + zAl (fun k => if j = s.basis.getD k 0 then -(at2 T i j * at2 s.rows k c) else 0) m := by
   intro j hj
   show _ * ((if j = c then s.den else 0) - _) = _
   rw [Int.mul_sub, Int.sub_eq_add_neg]
   congr 1
   ·split
    ·rfl
    ·rw [Int.mul_zero]
   ·rw [← Int.mul_neg, show -(zAl (fun k => if j = s.basis.getD k 0 then at2 s.rows k c else 0) m) = zAl (fun k => -1 * (if j = s.basis.getD k 0 then at2 s.rows k c else 0)) m from by rw [zBi]; omega, ← zBi]
    exact zAN (fun k _ => by
     split
     ·rw [Int.neg_mul, Int.one_mul, Int.mul_neg]
     ·rw [Int.mul_zero, Int.mul_zero])
  rw [zAN e1, zCc, zE8 (f := fun j => at2 T i j * s.den) hc, zFe, Int.sub_eq_add_neg]
  congr 1
  have e2 : ∀ k, k < m → zAl (fun j => if j = s.basis.getD k 0 then -(at2 T i j * at2 s.rows k c) else 0) (N + 1) = -1 * (at2 T i (s.basis.getD k 0) * at2 s.rows k c) := by
   intro k hk
   rw [zE8 (f := fun j => -(at2 T i j * at2 s.rows k c)) (by have := h.bc k hk; omega)]
   omega
  rw [zAN e2, zBi]
  omega
 have h1 : ∀ i, i < m + 1 → zEF s.rows N x i + (if i = m then s.den * (-(at2 s.rows m c)) else 0) = 0 := by
  intro i hi
  rw [hx]
  by_cases e : i = m
  ·subst e
   rw [if_pos rfl, zDB (fun k hk => by rw [h.unit i k (by omega) hk, if_neg (by omega), Int.zero_mul]), Int.mul_neg, Int.mul_comm]
   omega
  ·rw [if_neg e]
   have e3 : ∀ k, k < m → at2 s.rows i (s.basis.getD k 0) * at2 s.rows k c = if k = i then s.den * at2 s.rows k c else 0 := by
    intro k hk
    rw [h.unit i k hi hk]
    by_cases e4 : i = k
    ·rw [if_pos e4, if_pos e4.symm]
    ·rw [if_neg e4, if_neg (fun q => e4 q.symm), Int.zero_mul]
   rw [zAN e3, zE8 (f := fun k => s.den * at2 s.rows k c) (by omega), Int.mul_comm]
   omega
 have h2 := (h'.ker x (-(at2 s.rows m c))).1 ((h.ker x (-(at2 s.rows m c))).2 h1) i hi
 rw [hx, Int.mul_comm] at h2
 by_cases e : i = m
 ·rw [if_pos e] at h2 ⊢
  rw [Int.mul_neg] at h2
  omega
 ·rw [if_neg e] at h2 ⊢
  omega
/-- the first column with a negative cost, or w -/
def zCy (T : Tab) (m : Nat) : Nat → Nat → Nat
 | 0, c => c
 | f + 1, c => if at2 T m c < 0 then c else zCy T m f (c + 1)
theorem zHM (T : Tab) (m : Nat) : ∀ f c, c ≤ zCy T m f c ∧ zCy T m f c ≤ c + f ∧ (∀ a, c ≤ a → a < zCy T m f c → 0 ≤ at2 T m a) ∧ (zCy T m f c < c + f → at2 T m (zCy T m f c) < 0)
 | 0, c => ⟨Nat.le_refl _, Nat.le_refl _, fun a h1 h2 => absurd h2 (by rw [zCy]; omega), fun h => absurd h (by rw [zCy]; omega)⟩
 | f + 1, c => by
  rw [zCy]
  by_cases h : at2 T m c < 0
  ·rw [if_pos h]
   exact ⟨Nat.le_refl _, by omega, fun a h1 h2 => absurd h2 (by omega), fun _ => h⟩
  ·rw [if_neg h]
   obtain ⟨h1, h2, h3, h4⟩ := zHM T m f (c + 1)
   refine ⟨by omega, by omega, fun a ha hb => ?_, fun hb => h4 (by omega)⟩
   by_cases e : a = c
   ·subst e; omega
   ·exact h3 a (by omega) hb
/-- the row that leaves -/
def zIz (T : Tab) (β : List Nat) (c e k b : Nat) : Prop := at2 T k e * at2 T b c < at2 T b e * at2 T k c ∨ at2 T k e * at2 T b c = at2 T b e * at2 T k c ∧ β.getD k 0 < β.getD b 0
instance (T : Tab) (β : List Nat) (c e k b : Nat) : Decidable (zIz T β c e k b) := by unfold zIz; infer_instance
def zD8 (T : Tab) (β : List Nat) (c e : Nat) : Nat → Option Nat
 | 0 => none
 | k + 1 => match zD8 T β c e k with
  | none => if at2 T k c ≤ 0 then none else some k
  | some b => if at2 T k c ≤ 0 then some b else if zIz T β c e k b then some k else some b
theorem zHW (T : Tab) (β : List Nat) (c e : Nat) : ∀ n, zD8 T β c e n = none → ∀ i, i < n → at2 T i c ≤ 0
 | 0, _, i, hi => absurd hi (Nat.not_lt_zero _)
 | n + 1, h, i, hi => by
  rw [zD8] at h
  cases hl : zD8 T β c e n with
  | none =>
   rw [hl] at h
   simp only at h
   split at h
   ·rename_i h1
    by_cases e2 : i = n
    ·rw [e2]; exact h1
    ·exact zHW T β c e n hl i (by omega)
   ·cases h
  | some b =>
   rw [hl] at h
   simp only at h
   split at h
   ·cases h
   ·split at h <;> cases h
theorem zHe {a x y : Int} (ha : 0 < a) (h : a * x ≤ a * y) : x ≤ y := Int.le_of_mul_le_mul_left h ha
/-- what the chosen row is -/
structure Least (T : Tab) (β : List Nat) (c e n b : Nat) : Prop where
 lt : b < n
 pos : 0 < at2 T b c
 le : ∀ i, i < n → 0 < at2 T i c → at2 T b e * at2 T i c ≤ at2 T i e * at2 T b c ∧ (at2 T b e * at2 T i c = at2 T i e * at2 T b c → β.getD b 0 ≤ β.getD i 0)
theorem zHX (T : Tab) (β : List Nat) (c e : Nat) : ∀ n b, zD8 T β c e n = some b → Least T β c e n b
 | 0, b, h => by rw [zD8] at h; cases h
 | n + 1, b, h => by
  rw [zD8] at h
  cases hl : zD8 T β c e n with
  | none =>
   have hn := zHW T β c e n hl
   rw [hl] at h
   simp only at h
   split at h
   ·cases h
   ·rename_i h1
    obtain rfl : n = b := by simpa using h
    refine ⟨Nat.lt_succ_self _, by omega, fun i hi hp => ?_⟩
    by_cases e2 : i = n
    ·subst e2
     exact ⟨Int.le_refl _, fun _ => Nat.le_refl _⟩
    ·exact absurd (hn i (by omega)) (by omega)
  | some d =>
   have hd := zHX T β c e n d hl
   rw [hl] at h
   simp only at h
   split at h
   ·rename_i h1
    obtain rfl : d = b := by simpa using h
    refine ⟨by have := hd.lt; omega, hd.pos, fun i hi hp => ?_⟩
    by_cases e2 : i = n
    ·subst e2; omega
    ·exact hd.le i (by omega) hp
   ·rename_i h1
    have h1 : 0 < at2 T n c := by omega
    split at h
    ·rename_i h2
     obtain rfl : n = b := by simpa using h
     refine ⟨Nat.lt_succ_self _, h1, fun i hi hp => ?_⟩
     by_cases e2 : i = n
     ·subst e2; exact ⟨Int.le_refl _, fun _ => Nat.le_refl _⟩
     ·obtain ⟨g1, g2⟩ := hd.le i (by omega) hp
      have hdp := hd.pos
      -- n against d, d against i
      have a1 : at2 T n e * at2 T d c ≤ at2 T d e * at2 T n c := by
       rcases h2 with h2 | h2
       ·omega
       ·omega
      have b1 := Int.mul_le_mul_of_nonneg_right a1 (Int.le_of_lt hp)
      have b2 := Int.mul_le_mul_of_nonneg_right g1 (Int.le_of_lt h1)
      have c1 : at2 T d c * (at2 T n e * at2 T i c) = at2 T n e * at2 T d c * at2 T i c := by grind
      have c2 : at2 T d c * (at2 T i e * at2 T n c) = at2 T i e * at2 T d c * at2 T n c := by grind
      have c3 : at2 T d e * at2 T n c * at2 T i c = at2 T d e * at2 T i c * at2 T n c := by grind
      refine ⟨zHe hdp (by omega), fun he => ?_⟩
      have d1 : at2 T d c * (at2 T n e * at2 T i c) = at2 T d c * (at2 T i e * at2 T n c) := by rw [he]
      -- all equal
      have d2 : at2 T n e * at2 T d c * at2 T i c = at2 T d e * at2 T n c * at2 T i c := by omega
      have d3 : at2 T n e * at2 T d c = at2 T d e * at2 T n c := Int.eq_of_mul_eq_mul_right (by omega) d2
      have d4 : at2 T d e * at2 T i c * at2 T n c = at2 T i e * at2 T d c * at2 T n c := by omega
      have d5 : at2 T d e * at2 T i c = at2 T i e * at2 T d c := Int.eq_of_mul_eq_mul_right (by omega) d4
      rcases h2 with h2 | h2
      ·omega
      ·have := g2 d5
       omega
    ·rename_i h2
     obtain rfl : d = b := by simpa using h
     refine ⟨by have := hd.lt; omega, hd.pos, fun i hi hp => ?_⟩
     by_cases e2 : i = n
     ·subst e2
      unfold zIz at h2
      refine ⟨by omega, fun he => ?_⟩
      omega
     ·exact hd.le i (by omega) hp
/-- One step: none if nothing can be improved, or if there is no end. -/
def zHz (m N w : Nat) (s : St) : Option St :=
 if zCy s.rows m w 0 = w then none
 else match zD8 s.rows s.basis (zCy s.rows m w 0) N m with
  | none => none
  | some r => some (piv s r (zCy s.rows m w 0))
def zDJ (m N w : Nat) (s : St) : Nat → St
 | 0 => s
 | k + 1 => (zHz m N w (zDJ m N w s k)).getD (zDJ m N w s k)
def Feas (m N : Nat) (s : St) : Prop := ∀ i, i < m → 0 ≤ at2 s.rows i N
theorem zMI {m N w : Nat} {s s' : St} (h : zHz m N w s = some s') : ∃ c r, c < w ∧ at2 s.rows m c < 0 ∧ (∀ a, a < c → 0 ≤ at2 s.rows m a) ∧ Least s.rows s.basis c N m r ∧ s' = piv s r c := by
 unfold zHz at h
 obtain ⟨e1, e2, e3, e4⟩ := zHM s.rows m w 0
 split at h
 ·cases h
 ·rename_i h1
  split at h
  ·cases h
  ·rename_i r hr
   refine ⟨_, r, by omega, e4 (by omega), fun a ha => e3 a (Nat.zero_le _) ha, zHX _ _ _ _ _ _ hr, ?_⟩
   exact (Option.some.inj h).symm
/-- the elements after a pivot, without quotients -/
theorem Inv.entry {m N : Nat} {M : Tab} {s : St} (h : Inv m N M s) {r c : Nat} (hr : r < m) (hc : c < N) (hp : at2 s.rows r c ≠ 0) {i j : Nat} (hi : i < m + 1) (hj : j < N + 1) :
 s.den * at2 (Sx.piv s r c).rows i j = sgZ (at2 s.rows r c) * (if i = r then s.den * at2 s.rows r j else at2 s.rows i j * at2 s.rows r c - at2 s.rows i c * at2 s.rows r j) := by
 obtain ⟨σ, hs, hD⟩ := h.sg
 have hd : s.den ≠ 0 := by have := h.dp; omega
 obtain ⟨p1, _⟩ := zIj hd hs hD (h.sol c (by omega)) (h.sol j hj) (show r < m + 1 by omega) hp
 have := zK4 s.rows r c s.den h.row (i := i) (j := j) (by rw [h.n]; exact hi) hj
 have e : at2 (Sx.piv s r c).rows i j = at2 (pivT s.rows r c s.den) i j := rfl
 rw [e, this, Int.mul_left_comm]
 congr 1
 by_cases e : i = r
 ·rw [if_pos e, if_pos e]
 ·have e3 := zIX hd (p1 i hi e)
  have e4 := Int.mul_ediv_cancel' (p1 i hi e)
  rw [← e3] at e4
  rw [if_neg e, if_neg e]
  exact e4
theorem Inv.feas_step {m N : Nat} {M : Tab} {s : St} (h : Inv m N M s) (hf : Feas m N s) {r c : Nat} (hc : c < N) (hl : Least s.rows s.basis c N m r) : Feas m N (Sx.piv s r c) := by
 intro i hi
 have hp := hl.pos
 have h1 := h.entry hl.lt hc (by omega) (i := i) (j := N) (by omega) (by omega)
 have hd := h.dp
 have hsg : sgZ (at2 s.rows r c) = 1 := by unfold sgZ; rw [if_neg (by omega)]
 rw [hsg, Int.one_mul] at h1
 have : 0 ≤ s.den * at2 (Sx.piv s r c).rows i N := by
  rw [h1]
  split
  ·exact Int.mul_nonneg (Int.le_of_lt hd) (hf r hl.lt)
  ·by_cases hpi : 0 < at2 s.rows i c
   ·have := (hl.le i hi hpi).1
    rw [Int.mul_comm (at2 s.rows i c)]
    omega
   ·have h2 := Int.mul_nonneg (hf i hi) (Int.le_of_lt hp)
    have h3 := Int.mul_nonneg (show 0 ≤ -(at2 s.rows i c) by omega) (hf r hl.lt)
    rw [Int.neg_mul] at h3
    omega
 exact Int.le_of_mul_le_mul_left (by rw [Int.mul_zero]; exact this) hd
/-- Pigeons. -/
theorem pig : ∀ (K : Nat) (f : Nat → Nat), (∀ i, i ≤ K → f i < K) → ∃ a b, a < b ∧ b ≤ K ∧ f a = f b
 | 0, f, h => absurd (h 0 (Nat.le_refl _)) (Nat.not_lt_zero _)
 | K + 1, f, h => by
  by_cases hx : ∃ a, a ≤ K ∧ f a = f (K + 1)
  ·obtain ⟨a, h1, h2⟩ := hx
   exact ⟨a, K + 1, by omega, Nat.le_refl _, h2⟩
  ·have hne : ∀ a, a ≤ K → f a ≠ f (K + 1) := fun a ha e => hx ⟨a, ha, e⟩
   obtain ⟨a, b, h1, h2, h3⟩ := pig K (fun i => if f i < f (K + 1) then f i else f i - 1) (fun i hi => by
    have e1 := h i (by omega)
    have e2 := h (K + 1) (Nat.le_refl _)
    have e3 := hne i hi
    show (if f i < f (K + 1) then f i else f i - 1) < K
    split <;> omega)
   refine ⟨a, b, h1, by omega, ?_⟩
   have e1 := hne a (by omega)
   have e2 := hne b h2
   have h3 : (if f a < f (K + 1) then f a else f a - 1) = (if f b < f (K + 1) then f b else f b - 1) := h3
   split at h3 <;> split at h3 <;> omega
def zDW (N : Nat) : List Nat → Nat
 | [] => 0
 | x :: r => x + N * zDW N r
theorem zK6 {N : Nat} : ∀ (l : List Nat), (∀ x ∈ l, x < N) → zDW N l < N ^ l.length
 | [], _ => by rw [zDW, List.length_nil, Nat.pow_zero]; exact Nat.one_pos
 | x :: r, h => by
  have h1 := zK6 r (fun y hy => h y (by simp [hy]))
  have h2 := h x (by simp)
  rw [zDW, List.length_cons, Nat.pow_succ]
  have h3 : N * (zDW N r + 1) ≤ N * N ^ r.length := Nat.mul_le_mul_left _ h1
  rw [Nat.mul_add, Nat.mul_one] at h3
  rw [Nat.mul_comm (N ^ r.length)]
  omega
theorem zJe {N : Nat} : ∀ (l l' : List Nat), l.length = l'.length → (∀ x ∈ l, x < N) → (∀ x ∈ l', x < N) → zDW N l = zDW N l' → l = l'
 | [], [], _, _, _, _ => rfl
 | [], _ :: _, h, _, _, _ => by simp at h
 | _ :: _, [], h, _, _, _ => by simp at h
 | x :: r, y :: q, hl, h, h', e => by
  have h1 := h x (by simp)
  have h2 := h' y (by simp)
  rw [zDW, zDW] at e
  have e1 := congrArg (fun n => n % N) e
  simp only [Nat.add_mul_mod_self_left, Nat.mod_eq_of_lt h1, Nat.mod_eq_of_lt h2] at e1
  subst e1
  have e2 : zDW N r = zDW N q := Nat.eq_of_mul_eq_mul_left (by omega) (show N * zDW N r = N * zDW N q by omega)
  rw [zJe r q (by simpa using hl) (fun z hz => h z (by simp [hz])) (fun z hz => h' z (by simp [hz])) e2]
/-- An endless row of tables. -/
structure Endless (m N : Nat) (M : Tab) (s : Nat → St) (c r : Nat → Nat) : Prop where
 inv : ∀ k, Inv m N M (s k)
 feas : ∀ k, Feas m N (s k)
 cN : ∀ k, c k < N
 neg : ∀ k, at2 (s k).rows m (c k) < 0
 low : ∀ k a, a < c k → 0 ≤ at2 (s k).rows m a
 lea : ∀ k, Least (s k).rows (s k).basis (c k) N m (r k)
 nx : ∀ k, s (k + 1) = piv (s k) (r k) (c k)
def zCQ (m : Nat) (s : St) (v : Nat) : Prop := ∃ i, i < m ∧ s.basis.getD i 0 = v
theorem Inv.nodup {m N : Nat} {M : Tab} {s : St} (h : Inv m N M s) {i k : Nat} (hi : i < m) (hk : k < m) (he : s.basis.getD i 0 = s.basis.getD k 0) : i = k := by
 by_cases e : i = k
 ·exact e
 ·have h1 := h.unit i k (by omega) hk
  have h2 := h.unit i i (by omega) hi
  rw [if_neg e] at h1
  rw [if_pos rfl, he] at h2
  have := h.dp
  omega
theorem Inv.cost_basic {m N : Nat} {M : Tab} {s : St} (h : Inv m N M s) {v : Nat} (hb : zCQ m s v) : at2 s.rows m v = 0 := by
 obtain ⟨i, hi, rfl⟩ := hb
 rw [h.unit m i (by omega) hi, if_neg (by omega)]
theorem zE6 {m N : Nat} {M : Tab} {s : St} (h : Inv m N M s) {r c : Nat} (hr : r < m) (i : Nat) : (Sx.piv s r c).basis.getD i 0 = if i = r then c else s.basis.getD i 0 := by
 show (s.basis.set r c).getD i 0 = _
 rw [zEd]
 by_cases e : i = r
 ·rw [if_pos ⟨e, by rw [h.b]; exact hr⟩, if_pos e]
 ·rw [if_neg (fun q => e q.1), if_neg e]
section
variable {m N : Nat} {M : Tab} {s : Nat → St} {c r : Nat → Nat}
theorem Endless.den (h : Endless m N M s c r) (k : Nat) : (s (k + 1)).den = at2 (s k).rows (r k) (c k) := by
 rw [h.nx, zF1]
 have := (h.lea k).pos
 unfold sgZ
 rw [if_neg (by omega)]; omega
theorem Endless.entry (h : Endless m N M s c r) (k : Nat) {i j : Nat} (hi : i < m + 1) (hj : j < N + 1) :
 (s k).den * at2 (s (k + 1)).rows i j = if i = r k then (s k).den * at2 (s k).rows (r k) j else at2 (s k).rows i j * at2 (s k).rows (r k) (c k) - at2 (s k).rows i (c k) * at2 (s k).rows (r k) j := by
 have hp := (h.lea k).pos
 rw [h.nx, (h.inv k).entry (h.lea k).lt (h.cN k) (by omega) hi hj]
 have hsg : sgZ (at2 (s k).rows (r k) (c k)) = 1 := by unfold sgZ; rw [if_neg (by omega)]
 rw [hsg, Int.one_mul]
/-- the value -/
def zF8 (N m : Nat) (s : St) : Rat := (at2 s.rows m N : Rat) * (s.den : Rat)⁻¹
theorem zF5 {x : Int} (h : 0 < x) : (0 : Rat) < (x : Rat) := by
 have := (Rat.intCast_lt_intCast (a := 0) (b := x)).2 h
 exact this
theorem zF9 {m N : Nat} {s : St} (hd : 0 < s.den) : zF8 N m s * (s.den : Rat) = (at2 s.rows m N : Rat) := by
 unfold zF8
 have : (s.den : Rat) ≠ 0 := fun e => by
  have := zF5 hd
  rw [e] at this
  exact absurd this (by decide +kernel)
 rw [Rat.mul_assoc, Rat.inv_mul_cancel _ this, Rat.mul_one]
theorem Endless.value (h : Endless m N M s c r) (k : Nat) : zF8 N m (s k) ≤ zF8 N m (s (k + 1)) ∧ (zF8 N m (s k) = zF8 N m (s (k + 1)) → at2 (s k).rows (r k) N = 0) := by
 have hd := (h.inv k).dp
 have hd' := (h.inv (k + 1)).dp
 have hp := (h.lea k).pos
 have h1 := h.entry k (i := m) (j := N) (by omega) (by omega)
 have hrm := (h.lea k).lt
 rw [if_neg (by omega), ← h.den] at h1
 have h2 := zF9 (m := m) (N := N) hd
 have h3 := zF9 (m := m) (N := N) hd'
 have h4 := congrArg (fun x : Int => (x : Rat)) h1
 simp only [Rat.intCast_mul, Rat.intCast_sub] at h4
 rw [← h2, ← h3] at h4
 have hX : at2 (s k).rows m (c k) * at2 (s k).rows (r k) N ≤ 0 := by
  have := Int.mul_nonneg (show 0 ≤ -(at2 (s k).rows m (c k)) by have := h.neg k; omega) (h.feas k (r k) hrm)
  rw [Int.neg_mul] at this; omega
 have hXr : ((at2 (s k).rows m (c k) : Int) : Rat) * ((at2 (s k).rows (r k) N : Int) : Rat) ≤ 0 := by
  rw [← Rat.intCast_mul]
  exact (Rat.intCast_le_intCast (a := _) (b := 0)).2 hX
 have hpd : (0 : Rat) < ((s k).den : Rat) * ((s (k + 1)).den : Rat) := Rat.mul_pos (zF5 hd) (zF5 hd')
 constructor
 ·refine Rat.le_of_mul_le_mul_right ?_ hpd
  grind
 ·intro e
  rw [← e] at h4
  have h5 : ((at2 (s k).rows m (c k) : Int) : Rat) * ((at2 (s k).rows (r k) N : Int) : Rat) = 0 := by grind
  rw [← Rat.intCast_mul] at h5
  have h6 : at2 (s k).rows m (c k) * at2 (s k).rows (r k) N = 0 := Rat.intCast_inj.1 h5
  rcases Int.mul_eq_zero.1 h6 with h7 | h7
  ·have := h.neg k; omega
  ·exact h7
theorem Endless.mono (h : Endless m N M s c r) (a : Nat) : ∀ d, zF8 N m (s a) ≤ zF8 N m (s (a + d))
 | 0 => Rat.le_refl
 | d + 1 => Rat.le_trans (h.mono a d) (h.value (a + d)).1
/-- with the same basis the value is the same -/
theorem Endless.same (h : Endless m N M s c r) {a b : Nat} (he : (s a).basis = (s b).basis) : zF8 N m (s a) = zF8 N m (s b) := by
 have h1 := (h.inv a).cross (h.inv b) (i := m) (c := N) (by omega) (by omega)
 rw [if_pos rfl, zDB (fun k hk => by rw [he, (h.inv b).unit m k (by omega) hk, if_neg (by omega), Int.zero_mul])] at h1
 have da := (h.inv a).dp
 have db := (h.inv b).dp
 have h2 := zF9 (m := m) (N := N) da
 have h3 := zF9 (m := m) (N := N) db
 have h4 := congrArg (fun x : Int => (x : Rat)) h1
 simp only [Rat.intCast_mul, Rat.intCast_add, Rat.intCast_zero] at h4
 rw [← h2, ← h3] at h4
 have hpd : (0 : Rat) < ((s a).den : Rat) * ((s b).den : Rat) := Rat.mul_pos (zF5 da) (zF5 db)
 have le1 : zF8 N m (s a) ≤ zF8 N m (s b) := Rat.le_of_mul_le_mul_right (by grind) hpd
 have le2 : zF8 N m (s b) ≤ zF8 N m (s a) := Rat.le_of_mul_le_mul_right (by grind) hpd
 exact Rat.le_antisymm le1 le2
theorem Endless.still (h : Endless m N M s c r) {a b : Nat} (he : (s a).basis = (s b).basis) {k : Nat} (h1 : a ≤ k) (h2 : k < b) : at2 (s k).rows (r k) N = 0 := by
 refine (h.value k).2 (Rat.le_antisymm (h.value k).1 ?_)
 have g1 := h.mono (k + 1) (b - (k + 1))
 rw [show k + 1 + (b - (k + 1)) = b by omega] at g1
 have g2 := h.mono a (k - a)
 rw [show a + (k - a) = k by omega] at g2
 rw [← h.same he] at g1
 exact Rat.le_trans g1 g2
/-- a variable has the value 0 -/
def Zero (m N : Nat) (s : St) (v : Nat) : Prop := ∀ i, i < m → s.basis.getD i 0 = v → at2 s.rows i N = 0
theorem Endless.zero (h : Endless m N M s c r) {k : Nat} (h0 : at2 (s k).rows (r k) N = 0) (v : Nat) : Zero m N (s k) v ↔ Zero m N (s (k + 1)) v := by
 have hp := (h.lea k).pos
 have hr := (h.lea k).lt
 have hd := (h.inv k).dp
 have hbas : ∀ i, (s (k + 1)).basis.getD i 0 = if i = r k then c k else (s k).basis.getD i 0 := fun i => by rw [h.nx]; exact zE6 (h.inv k) hr i
 have hent : ∀ i, i < m → i ≠ r k → (at2 (s (k + 1)).rows i N = 0 ↔ at2 (s k).rows i N = 0) := by
  intro i hi hne
  have h1 := h.entry k (i := i) (j := N) (by omega) (by omega)
  rw [if_neg hne, h0, Int.mul_zero, Int.sub_zero] at h1
  constructor
  ·intro e
   rw [e, Int.mul_zero] at h1
   rcases Int.mul_eq_zero.1 h1.symm with h2 | h2
   ·exact h2
   ·omega
  ·intro e
   rw [e, Int.zero_mul] at h1
   rcases Int.mul_eq_zero.1 h1 with h2 | h2
   ·omega
   ·exact h2
 constructor
 ·intro hz i hi he
  rw [hbas] at he
  by_cases e : i = r k
  ·have h1 := h.entry k (i := i) (j := N) (by omega) (by omega)
   rw [if_pos e, h0, Int.mul_zero] at h1
   rcases Int.mul_eq_zero.1 h1 with h2 | h2
   ·omega
   ·exact h2
  ·rw [if_neg e] at he
   exact (hent i hi e).2 (hz i hi he)
 ·intro hz i hi he
  by_cases e : i = r k
  ·rw [e]; exact h0
  ·exact (hent i hi e).1 (hz i hi (by rw [hbas, if_neg e]; exact he))
theorem Endless.zeros (h : Endless m N M s c r) {a b : Nat} (he : (s a).basis = (s b).basis) (v : Nat) : ∀ d, a + d ≤ b → (Zero m N (s a) v ↔ Zero m N (s (a + d)) v)
 | 0, _ => Iff.rfl
 | d + 1, hd => (h.zeros he v d (by omega)).trans (h.zero (h.still he (by omega) (by omega)) v)
/-- who is in the basis -/
theorem Endless.stays (h : Endless m N M s c r) {k v : Nat} (hb : zCQ m (s k) v) (hv : v ≠ (s k).basis.getD (r k) 0) : zCQ m (s (k + 1)) v := by
 obtain ⟨i, hi, rfl⟩ := hb
 refine ⟨i, hi, ?_⟩
 rw [h.nx, zE6 (h.inv k) (h.lea k).lt, if_neg]
 intro e; rw [e] at hv; exact hv rfl
theorem Endless.was (h : Endless m N M s c r) {k v : Nat} (hb : zCQ m (s (k + 1)) v) (hv : v ≠ c k) : zCQ m (s k) v := by
 obtain ⟨i, hi, rfl⟩ := hb
 have h1 := zE6 (c := c k) (h.inv k) (h.lea k).lt i
 rw [← h.nx] at h1
 rw [h1] at hv ⊢
 by_cases e : i = r k
 ·rw [if_pos e] at hv; exact absurd rfl hv
 ·rw [if_neg e]; exact ⟨i, hi, rfl⟩
theorem Endless.enters (h : Endless m N M s c r) (k : Nat) : ¬ zCQ m (s k) (c k) ∧ zCQ m (s (k + 1)) (c k) := by
 constructor
 ·intro hb
  have := (h.inv k).cost_basic hb
  have := h.neg k
  omega
 ·refine ⟨r k, (h.lea k).lt, ?_⟩
  rw [h.nx, zE6 (h.inv k) (h.lea k).lt, if_pos rfl]
theorem Endless.false (h : Endless m N M s c r) : False := by
 -- a basis comes twice
 obtain ⟨a, b, hab, he⟩ : ∃ a b, a < b ∧ (s a).basis = (s b).basis := by
  have hlt : ∀ k, ∀ x ∈ (s k).basis, x < N := by
   intro k x hx
   obtain ⟨i, hi, rfl⟩ := List.getElem_of_mem hx
   have := (h.inv k).bc i (by rw [← (h.inv k).b]; exact hi)
   simpa [List.getD, hi] using this
  obtain ⟨a, b, h1, h2, h3⟩ := pig (N ^ m) (fun k => zDW N (s k).basis) (fun k _ => by
   have := zK6 (s k).basis (hlt k)
   rwa [(h.inv k).b] at this)
  exact ⟨a, b, h1, zJe _ _ (by rw [(h.inv a).b, (h.inv b).b]) (hlt a) (hlt b) h3⟩
 -- who is in some basis between, and not in another one, enters
 have fick : ∀ v, (∃ k, a ≤ k ∧ k ≤ b ∧ zCQ m (s k) v) → (∃ k, a ≤ k ∧ k ≤ b ∧ ¬ zCQ m (s k) v) → ∃ k, a ≤ k ∧ k < b ∧ c k = v := by
  rintro v ⟨k1, l1, l2, hb⟩ ⟨k2, l3, l4, hn⟩
  apply Classical.byContradiction
  intro hno
  have hno : ∀ k, a ≤ k → k < b → v ≠ c k := fun k q1 q2 e => hno ⟨k, q1, q2, e.symm⟩
  have back : ∀ d k, a ≤ k → k + d ≤ b → zCQ m (s (k + d)) v → zCQ m (s k) v := by
   intro d
   induction d with
   | zero => intro k _ _ hb; exact hb
   | succ d ih => intro k q1 q2 hb; exact ih k q1 (by omega) (h.was hb (hno (k + d) (by omega) (by omega)))
  have ha : zCQ m (s a) v := back (k1 - a) a (Nat.le_refl _) (by omega) (by rw [show a + (k1 - a) = k1 by omega]; exact hb)
  have hbb : zCQ m (s b) v := by unfold zCQ at ha ⊢; rw [← he]; exact ha
  exact hn (back (b - k2) k2 l3 (by omega) (by rw [show k2 + (b - k2) = b by omega]; exact hbb))
 -- the greatest one that enters
 obtain ⟨k', q1, q2, hmax⟩ : ∃ k', a ≤ k' ∧ k' < b ∧ ∀ k, a ≤ k → k < b → c k ≤ c k' := by
  have : ∀ d, a + d < b + 0 → ∃ k', a ≤ k' ∧ k' ≤ a + d ∧ ∀ k, a ≤ k → k ≤ a + d → c k ≤ c k' := by
   intro d
   induction d with
   | zero => intro _; exact ⟨a, Nat.le_refl _, Nat.le_refl _, fun k h1 h2 => by rw [show k = a by omega]; exact Nat.le_refl _⟩
   | succ d ih =>
    intro hd
    obtain ⟨k', g1, g2, g3⟩ := ih (by omega)
    by_cases hc : c k' ≤ c (a + (d + 1))
    ·refine ⟨a + (d + 1), by omega, Nat.le_refl _, fun k h1 h2 => ?_⟩
     by_cases e : k = a + (d + 1)
     ·rw [e]; exact Nat.le_refl _
     ·exact Nat.le_trans (g3 k h1 (by omega)) hc
    ·refine ⟨k', g1, by omega, fun k h1 h2 => ?_⟩
     by_cases e : k = a + (d + 1)
     ·rw [e]; omega
     ·exact g3 k h1 (by omega)
  obtain ⟨k', g1, g2, g3⟩ := this (b - 1 - a) (by omega)
  exact ⟨k', g1, by omega, fun k h1 h2 => g3 k h1 (by omega)⟩
 obtain ⟨t1, t2⟩ := h.enters k'
 -- it leaves, too
 obtain ⟨k, l1, l2, l3⟩ : ∃ k, a ≤ k ∧ k < b ∧ (s k).basis.getD (r k) 0 = c k' := by
  apply Classical.byContradiction
  intro hno
  have hno : ∀ k, a ≤ k → k < b → c k' ≠ (s k).basis.getD (r k) 0 := fun k q1 q2 e => hno ⟨k, q1, q2, e.symm⟩
  have fwd : ∀ d k, a ≤ k → k + d ≤ b → zCQ m (s k) (c k') → zCQ m (s (k + d)) (c k') := by
   intro d
   induction d with
   | zero => intro k _ _ hb; exact hb
   | succ d ih => intro k q1 q2 hb; exact h.stays (ih k q1 (by omega) hb) (hno (k + d) (by omega) (by omega))
  have hb := fwd (b - (k' + 1)) (k' + 1) (by omega) (by omega) t2
  rw [show k' + 1 + (b - (k' + 1)) = b by omega] at hb
  have ha : zCQ m (s a) (c k') := by unfold zCQ at hb ⊢; rw [he]; exact hb
  have := fwd (k' - a) a (Nat.le_refl _) (by omega) ha
  rw [show a + (k' - a) = k' by omega] at this
  exact t1 this
 have hc1 := hmax k l1 l2
 have hlea := h.lea k
 have hc2 : c k ≠ c k' := by
  intro e
  exact (h.enters k).1 ⟨r k, hlea.lt, by rw [l3, e]⟩
 have hlow := h.low k' (c k) (by omega)
 have hX := (h.inv k).cross (h.inv k') (i := m) (c := c k) (by omega) (by have := h.cN k; omega)
 rw [if_pos rfl] at hX
 have d1 := (h.inv k).dp
 have d2 := (h.inv k').dp
 have n1 := h.neg k
 have p1 := Int.mul_nonneg (Int.le_of_lt d1) hlow
 have p2 := Int.mul_pos d2 (show 0 < -(at2 (s k).rows m (c k)) by omega)
 rw [Int.mul_neg] at p2
 obtain ⟨i, hi, hpos⟩ := zKE (n := m) (f := fun i => at2 (s k').rows m ((s k).basis.getD i 0) * at2 (s k).rows i (c k)) (by omega)
 have hpos : 0 < at2 (s k').rows m ((s k).basis.getD i 0) * at2 (s k).rows i (c k) := hpos
 have hnb : ¬ zCQ m (s k') ((s k).basis.getD i 0) := by
  intro hb
  rw [(h.inv k').cost_basic hb, Int.zero_mul] at hpos
  omega
 obtain ⟨k2, g1, g2, g3⟩ := fick ((s k).basis.getD i 0) ⟨k, l1, by omega, i, hi, rfl⟩ ⟨k', q1, by omega, hnb⟩
 have hle := hmax k2 g1 g2
 rw [g3] at hle
 have hmp : ∀ x y : Int, 0 < x * y → 0 ≤ x → 0 < x ∧ 0 < y := by
  intro x y hxy hx
  by_cases hx0 : x = 0
  ·rw [hx0, Int.zero_mul] at hxy; omega
  ·refine ⟨by omega, ?_⟩
   apply Classical.byContradiction
   intro hy
   have := Int.mul_nonneg hx (show 0 ≤ -y by omega)
   rw [Int.mul_neg] at this
   omega
 by_cases ht : (s k).basis.getD i 0 = c k'
 ·have hir : i = r k := (h.inv k).nodup hi hlea.lt (by rw [ht, l3])
  rw [ht, hir] at hpos
  have h1 := h.neg k'
  have h2 := Int.mul_pos (show 0 < -(at2 (s k').rows m (c k')) by omega) hlea.pos
  rw [Int.neg_mul] at h2
  omega
 ·have hlow2 := h.low k' ((s k).basis.getD i 0) (by omega)
  obtain ⟨w1, w2⟩ := hmp _ _ hpos hlow2
  have z' : Zero m N (s k') ((s k).basis.getD i 0) := fun j hj e => absurd ⟨j, hj, e⟩ hnb
  have za := (h.zeros he ((s k).basis.getD i 0) (k' - a) (by omega)).2 (by rw [show a + (k' - a) = k' by omega]; exact z')
  have zk := (h.zeros he ((s k).basis.getD i 0) (k - a) (by omega)).1 za
  rw [show a + (k - a) = k by omega] at zk
  have h0 := zk i hi rfl
  have hst := h.still he l1 l2
  have := (hlea.le i hi w2).2 (by rw [h0, hst, Int.zero_mul, Int.zero_mul])
  rw [l3] at this
  omega
end
/-- The algorithm ends. -/
theorem ends {m N w : Nat} {M : Tab} {s : St} (hi : Inv m N M s) (hf : Feas m N s) (hw : w ≤ N) : ∃ K, zHz m N w (zDJ m N w s K) = none := by
 apply Classical.byContradiction
 intro hno
 have hno : ∀ k, zHz m N w (zDJ m N w s k) ≠ none := fun k e => hno ⟨k, e⟩
 have hex : ∀ k, ∃ c r, c < w ∧ at2 (zDJ m N w s k).rows m c < 0 ∧ (∀ a, a < c → 0 ≤ at2 (zDJ m N w s k).rows m a) ∧ Least (zDJ m N w s k).rows (zDJ m N w s k).basis c N m r ∧ zDJ m N w s (k + 1) = piv (zDJ m N w s k) r c := by
  intro k
  cases hs : zHz m N w (zDJ m N w s k) with
  | none => exact absurd hs (hno k)
  | some s' =>
   obtain ⟨c, r, h1, h2, h3, h4, h5⟩ := zMI hs
   refine ⟨c, r, h1, h2, h3, h4, ?_⟩
   show (zHz m N w (zDJ m N w s k)).getD _ = _
   rw [hs, ← h5]; rfl
 have both : ∀ k, Inv m N M (zDJ m N w s k) ∧ Feas m N (zDJ m N w s k) := by
  intro k
  induction k with
  | zero => exact ⟨hi, hf⟩
  | succ k ih =>
   obtain ⟨c, r, h1, h2, h3, h4, h5⟩ := hex k
   rw [h5]
   have := h4.pos
   exact ⟨ih.1.piv h4.lt (by omega) (by omega), ih.1.feas_step ih.2 (by omega) h4⟩
 exact Endless.false (m := m) (N := N) (M := M) (s := zDJ m N w s) (c := fun k => Classical.choose (hex k)) (r := fun k => Classical.choose (Classical.choose_spec (hex k)))
  { inv := fun k => (both k).1
    feas := fun k => (both k).2
    cN := fun k => by have := (Classical.choose_spec (Classical.choose_spec (hex k))).1; omega
    neg := fun k => (Classical.choose_spec (Classical.choose_spec (hex k))).2.1
    low := fun k => (Classical.choose_spec (Classical.choose_spec (hex k))).2.2.1
    lea := fun k => (Classical.choose_spec (Classical.choose_spec (hex k))).2.2.2.1
    nx := fun k => (Classical.choose_spec (Classical.choose_spec (hex k))).2.2.2.2 }
end Go.Ax.Sx
namespace Go.Ax.Sx
open Go.Ax.Dt
end Go.Ax.Sx
namespace Go.Ax.Sx
open Go.Ax.Dt Go.Ax.Rt Go.Ax.Bg
/-- the first conditions that need an artificial unknown -/
def needN (B : List Rat) : Nat → List Nat
 | 0 => []
 | k + 1 => if (B.getD k 0).num < 0 then needN B k ++ [k] else needN B k
abbrev artI (B : List Rat) (i : Nat) : Nat := (needN B i).length
abbrev artN (B : List Rat) : Nat := artI B B.length
/-- a row before its sign is considered -/
def baseE (n m a : Nat) (l : List Int) (i j : Nat) : Int := if j < n then l.getD j 0 else if j = n + i then 1 else if j = n + m + a then l.getD n 0 else 0
def zAE (n m a : Nat) (l : List Int) (i : Nat) (neg : Bool) (k j : Nat) : Int := if neg then (if j = n + m + k then 1 else -(baseE n m a l i j)) else baseE n m a l i j
/-- a linear program: the conditions, the right sides, and the costs -/
structure Prog where
 A : List (List Rat)
 B : List Rat
 C : List Rat
abbrev Prog.n (p : Prog) : Nat := p.C.length
abbrev Prog.m (p : Prog) : Nat := p.B.length
abbrev Prog.a (p : Prog) : Nat := artN p.B
abbrev Prog.N (p : Prog) : Nat := p.C.length + p.B.length + artN p.B
def Prog.full (p : Prog) (i : Nat) : List Rat := p.A.getD i [] ++ [p.B.getD i 0]
def Prog.whole (p : Prog) (i : Nat) : List Int := wholeL (p.full i)
section
variable {m N w : Nat} {M : Tab} {s : St}
end
section
variable {m N w : Nat} {M : Tab} {s : St}
end
end Go.Ax.Sx
namespace Go.Ax.Sx
open Go.Ax.Dt Go.Ax.Rt Go.Ax.Bg
section
variable {p : Prog} {k : Nat → Int} {s : St}
theorem zLL (n j : Nat) : (List.replicate n (0 : Rat)).getD j 0 = 0 := by
 simp only [List.getD, List.getElem?_replicate]
 split <;> rfl
end
end Go.Ax.Sx
namespace Go.Ax.Sx
open Go.Ax.Dt Go.Ax.Rt Go.Ax.Bg
def Prog.E (p : Prog) (k : Nat) : Nat := k + k * (p.n + 1)
def Prog.T (p : Prog) (k : Nat) : Nat := (p.E k + 2) * (p.m + 1)
def Prog.W (p : Prog) (k : Nat) : Nat := p.T k + 2 + 2 * (k * (p.n + 1))
section
variable {p : Prog} {k : Nat}
end
end Go.Ax.Sx
namespace Go.Ax.Sx
open Go.Ax.Dt Go.Ax.Rt Go.Ax.Bg
section
variable {p : Prog}
end
section
variable {p : Prog}
end
end Go.Ax.Sx
namespace Go.Ax.Sx
open Go.Ax.Dt Go.Ax.Rt Go.Ax.Bg
structure Prob where
 A : List (List zCp)
 B : List zCp
 C : List zCp
def Prob.prog (P : Prob) : Prog := ⟨inM P.A, P.B.map ratV, P.C.map ratV⟩
/-- the form of a result -/
def lensP (P : Prob) (k x y r : Nat) : Prop := x = (if k = 1 then 0 else P.C.length) ∧ y = (if k = 2 then 0 else P.B.length) ∧ r = (if k = 2 then P.C.length else 0)
instance (P : Prob) (k x y r : Nat) : Decidable (lensP P k x y r) := inferInstanceAs (Decidable (_ ∧ _))
section
variable {P : Prob}
end
end Go.Ax.Sx
namespace Go.Ax.Tt
open Go.Ax.Rt Go.Ax.Bg Go.Ax.Cd Go.Ax.Idx Go.Ax.Tb
/-- a number's text: tree.number -/
def numO (s : zCp) : Option Int := match Lib.atoiAll s with
 | .ok n => if Lib.itoa n = s then some n else none
 | _ => none
theorem zIh (u : Nat) (h : u < 9223372036854775808) : numO (Lib.itoa (u : Int)) = some (u : Int) := by
 unfold numO
 have e := zJS u h
 rw [itoa_nat, e]
 show (if Lib.itoa (u : Int) = _ then _ else _) = _
 rw [if_pos (itoa_nat u)]
structure OkW (w : zCp) : Prop where
 ne : w ≠ []
 sp : (32 : UInt8) ∉ w
 nl : (10 : UInt8) ∉ w
theorem zKe (u : Nat) : OkW (Lib.decDigits u) := ⟨zCi u, zEB u 32 (.inl (by decide)), zEB u 10 (.inl (by decide))⟩
theorem okW_itoa (u : Nat) : OkW (Lib.itoa (u : Int)) := by rw [itoa_nat]; exact zKe u
end Go.Ax.Tt
namespace Go.Ax.Gm
open Go.Ax.Tt Go.Ax.Bg
def byteOf (c : Int) : UInt8 := UInt8.ofNat c.toNat
def zBg (l : List Int) : zCp := (l.map (fun n => Lib.itoa n ++ [32])).flatten
def keyT (p : Pos) : zCp := byteOf p.turn :: (p.cells.map byteOf ++ zBg (p.h0 ++ p.h1))
theorem zJY {a b : Int} (ha : 0 ≤ a ∧ a < 256) (hb : 0 ≤ b ∧ b < 256) (h : byteOf a = byteOf b) : a = b := by
 unfold byteOf at h
 have := congrArg UInt8.toNat h
 rw [UInt8.toNat_ofNat', UInt8.toNat_ofNat', Nat.mod_eq_of_lt (by omega), Nat.mod_eq_of_lt (by omega)] at this
 omega
theorem zHc {f : Int → UInt8} {P : Int → Prop} (hf : ∀ a b, P a → P b → f a = f b → a = b) : ∀ {l m : List Int}, (∀ x ∈ l, P x) → (∀ x ∈ m, P x) → l.map f = m.map f → l = m
 | [], [], _, _, _ => rfl
 | [], b :: m, _, _, h => by cases h
 | a :: l, [], _, _, h => by cases h
 | a :: l, b :: m, hl, hm, h => by
  rw [List.map_cons, List.map_cons] at h
  obtain ⟨h1, h2⟩ := List.cons.inj h
  rw [hf a b (hl a (List.mem_cons_self ..)) (hm b (List.mem_cons_self ..)) h1, zHc hf (fun x hx => hl x (List.mem_cons_of_mem _ hx)) (fun x hx => hm x (List.mem_cons_of_mem _ hx)) h2]
theorem cut_eq {c : UInt8} : ∀ {a b r s : zCp}, c ∉ a → c ∉ b → a ++ c :: r = b ++ c :: s → a = b ∧ r = s
 | [], [], r, s, _, _, h => ⟨rfl, (List.cons.inj h).2⟩
 | [], y :: b, r, s, _, hb, h => absurd (by rw [show c = y from (List.cons.inj h).1]; exact List.mem_cons_self ..) hb
 | x :: a, [], r, s, ha, _, h => absurd (by rw [show c = x from (List.cons.inj h).1.symm]; exact List.mem_cons_self ..) ha
 | x :: a, y :: b, r, s, ha, hb, h => by
  obtain ⟨h1, h2⟩ := List.cons.inj h
  obtain ⟨h3, h4⟩ := cut_eq (fun q => ha (List.mem_cons_of_mem _ q)) (fun q => hb (List.mem_cons_of_mem _ q)) h2
  exact ⟨by rw [h1, h3], h4⟩
theorem itoa_inj {a b : Int} (ha : 0 ≤ a ∧ a ≤ 1000) (hb : 0 ≤ b ∧ b ≤ 1000) (h : Lib.itoa a = Lib.itoa b) : a = b := by
 obtain ⟨u, rfl⟩ := Int.eq_ofNat_of_zero_le ha.1
 obtain ⟨v, rfl⟩ := Int.eq_ofNat_of_zero_le hb.1
 have h1 := zIh u (by omega)
 have h2 := zIh v (by omega)
 rw [h, h2] at h1
 exact (Option.some.inj h1).symm
theorem zJ0 : ∀ {l m : List Int}, (∀ x ∈ l, 0 ≤ x ∧ x ≤ 1000) → (∀ x ∈ m, 0 ≤ x ∧ x ≤ 1000) → l.length = m.length → zBg l = zBg m → l = m
 | [], [], _, _, _, _ => rfl
 | [], b :: m, _, _, h, _ => by cases h
 | a :: l, [], _, _, h, _ => by cases h
 | a :: l, b :: m, hl, hm, hlen, h => by
  have ha := hl a (List.mem_cons_self ..)
  have hb := hm b (List.mem_cons_self ..)
  have ea : zBg (a :: l) = Lib.itoa a ++ 32 :: zBg l := by unfold zBg; rw [List.map_cons, List.flatten_cons, List.append_assoc]; rfl
  have eb : zBg (b :: m) = Lib.itoa b ++ 32 :: zBg m := by unfold zBg; rw [List.map_cons, List.flatten_cons, List.append_assoc]; rfl
  rw [ea, eb] at h
  have n1 : ∀ {x : Int}, 0 ≤ x → (32 : UInt8) ∉ Lib.itoa x := fun {x} hx => by
   obtain ⟨u, rfl⟩ := Int.eq_ofNat_of_zero_le hx
   exact (okW_itoa u).sp
  obtain ⟨h1, h2⟩ := cut_eq (n1 ha.1) (n1 hb.1) h
  rw [itoa_inj ha hb h1, zJ0 (fun x hx => hl x (List.mem_cons_of_mem _ hx)) (fun x hx => hm x (List.mem_cons_of_mem _ hx)) (by simpa using hlen) h2]
/-- keys of good positions of one game tell them apart -/
theorem key_inj {r : Rules} {p q : Pos} (hv : ValidR r) (hp : Sound r p) (hq : Sound r q) (h : keyT p = keyT q) : zBz p = zBz q := by
 obtain ⟨h1, h2⟩ := List.cons.inj h
 have hlen : (p.cells.map byteOf).length = (q.cells.map byteOf).length := by
  rw [List.length_map, List.length_map]
  have e1 := hp.cl
  have e2 := hq.cl
  omega
 obtain ⟨h3, h4⟩ := List.append_inj h2 hlen
 have t1 := hp.tn
 have t2 := hq.tn
 have e1 : p.turn = q.turn := zJY (by omega) (by omega) h1
 have n6 := hv.n6
 have e2 : p.cells = q.cells := zHc (P := fun c => 0 ≤ c ∧ c < 256) (fun a b ha hb => zJY ha hb) (fun c hc => by have := hp.cs c hc; omega) (fun c hc => by have := hq.cs c hc; omega) h3
 have e3 : p.h0 ++ p.h1 = q.h0 ++ q.h1 := zJ0 (fun x hx => by
  rcases List.mem_append.1 hx with s | s
  ·exact hp.c0 x s
  ·exact hp.c1 x s) (fun x hx => by
  rcases List.mem_append.1 hx with s | s
  ·exact hq.c0 x s
  ·exact hq.c1 x s) (by rw [List.length_append, List.length_append, hp.l0, hp.l1, hq.l0, hq.l1]) h4
 obtain ⟨e4, e5⟩ := List.append_inj e3 (by rw [hp.l0, hq.l0])
 unfold zBz
 rw [e1, e2, e4, e5]
end Go.Ax.Gm
namespace Go.Ax.Gm
open Go.Ax
def zEu (w : Way) : List AV := [.int .i64 w.dx, .int .i64 w.dy, .int .i64 w.most, .int .i64 w.take]
abbrev zDx (l : List Way) : Cells := zCP way0 4 zEu l
def pcC (p : Pc) : List AV := [.int .u8 p.letter, .int .i64 p.hand, .int .i64 p.promote, .ro (zDx p.ways) 0 p.ways.length]
abbrev zAV (l : List Pc) : Cells := zCP pc0 4 pcC l
def enC (x : En) : List AV := [.int .i64 x.kind, .int .i64 x.piece, .int .i64 x.count, .bool x.loses]
abbrev zEa (l : List En) : Cells := zCP en0 4 enC l
abbrev zq (l : List Int) : AV := .ro (.ints .i64 l) 0 l.length
def ruC (r : Rules) : List AV := [.str r.name, .int .i64 r.w, .int .i64 r.h, .ro (zAV r.pcs) 0 r.pcs.length, zq r.start, .bool r.falls, .bool r.keeps, .ro (zEa r.ends) 0 r.ends.length, .int .i64 r.blocked, .int .i64 r.quiet, .int .i64 r.rep]
abbrev ruA (r : Rules) : AV := .agg (ruC r)
def poC (p : Pos) : List AV := [zq p.cells, zq p.h0, zq p.h1, .int .i64 p.turn, .int .i64 p.quiet]
abbrev poA (p : Pos) : AV := .agg (poC p)
abbrev zCk (l : List Pos) : Cells := zCP zz 5 poC l
def mvC (m : Mv) : List AV := [.int .i64 m.fr, .int .i64 m.to, .int .i64 m.pc]
abbrev mvA (m : Mv) : AV := .agg (mvC m)
abbrev zBH (l : List Mv) : Cells := zCP mv0 3 mvC l
abbrev zCz (l : List Mv) : AV := .ro (zBH l) 0 l.length
def zB4 (x : Ent) : List AV := [.int .i64 x.1, .int .i64 x.2]
abbrev entA (x : Ent) : AV := .agg (zB4 x)
/-- sizes within which numbers are machine words -/
structure Lens (r : Rules) : Prop where
 name : r.name.length ≤ 9223372036854775807
 pcs : r.pcs.length ≤ 9223372036854775807
 ways : ∀ p ∈ r.pcs, p.ways.length ≤ 9223372036854775807
 start : r.start.length ≤ 9223372036854775807
 ends : r.ends.length ≤ 9223372036854775807
end Go.Ax.Gm
namespace Go.Ax.Gm
open Go.Ax Go.Proofs Go.Sort Go.Shelf Go.RowKit
theorem ltOf_cmp : ltOf zGu = ltM := rfl
theorem swoM : SWO (ltOf zGu) := ⟨zKa, zLs, zKb⟩
def zDp (m : Mv) : List Value := [.int .i64 m.fr, .int .i64 m.to, .int .i64 m.pc]
instance : Inhabited Mv := ⟨mv0⟩
variable [Pins]
theorem zJp {w w' : World} {S : Nat → Prop} {σ : Nat → Option Blk} {H : zM} (h : HR w S σ H) (hb : ∀ b, b < w.heap.size → w'.heap[b]? = w.heap[b]?) (hs : w.heap.size ≤ w'.heap.size) : HR w' S σ H := by
 have _p := ‹Pins›
 have hv : ∀ {σ1 : Nat → Option Blk} {x v}, VR w S σ1 x v → VR w' S σ1 x v := fun q => q.mono (fun _ q => q) (fun b q => hb b (h.small b q)) _ (fun _ _ q => q)
 refine ⟨fun k o ho => ?_, h.dist, fun b q => Nat.lt_of_lt_of_le (h.small b q) hs, h.dom⟩
 rcases h.live k o ho with q | ⟨b, C, cur, g1, g2, g3, g4, g5, g6, g7⟩
 ·exact .inl q
 ·refine .inr ⟨b, C, cur, g1, g2.mono (hb b g2.lt) hv, g3, g4, g5, g6, fun i j hi hj => ?_⟩
  obtain ⟨v, e1, e2, e3⟩ := g7 i j hi hj
  exact ⟨v, e1, hv e2, e3⟩
theorem zJu {c : Ctx} {w w' : World} {S : Nat → Prop} {σ : Nat → Option Blk} {H : zM} (h : Kp c w S σ H) (hb : ∀ b, b < w.heap.size → w'.heap[b]? = w.heap[b]?) (hs : w.heap.size ≤ w'.heap.size) (ho : w'.os = w.os) (hp : w'.output = w.output) (ht : w'.tape = w.tape) : Kp c w' S σ H :=
 ⟨ho.trans h.os, hp.trans h.output, ht.trans h.tape, Nat.le_trans h.size hs, fun b h1 h2 => (hb b (Nat.lt_of_lt_of_le h1 h.size)).trans (h.block b h1 h2), h.S1, h.S2, h.fixed, h.fixlt, h.own⟩
theorem put_set {w : World} {b : Nat} {cur : Array Value} {ty : TypeId} {mk : Nat × Nat} (hb : w.heap[b]? = some (.cells cur ty mk)) (F : Array Value) (k : Nat) : (putRow id w b 0 F).heap[k]? = (w.setRow b (putCells id 0 F cur)).heap[k]? := by
 have _p := ‹Pins›
 by_cases hk : k = b
 ·subst hk
  rw [setRow_heap w k cur _ ty mk hb]
  simp [putRow, mapBlock, Array.getElem?_modify, hb, onCells]
 ·rw [setRow_other w b k _ hk]
  simp [putRow, mapBlock, Array.getElem?_modify, Ne.symm hk]
theorem at_mvs {w : World} {S : Nat → Prop} {σ : Nat → Option Blk} {l : List Mv} {i j : Nat} {v : Value} (hj : j < 3) (h : VR w S σ ((zBH l).at i j) v) : v = (zDp (l.getD i mv0))[j]! := by
 have _p := ‹Pins›
 match j, hj with
 | 0, _ => cases h; rfl
 | 1, _ => cases h; rfl
 | 2, _ => cases h; rfl
theorem vr_mvs {w : World} {S : Nat → Prop} {σ : Nat → Option Blk} {l : List Mv} {i j : Nat} (hj : j < 3) : VR w S σ ((zBH l).at i j) (zDp (l.getD i mv0))[j]! ∧ ((zDp (l.getD i mv0))[j]!).oneCell' = true := by
 have _p := ‹Pins›
 match j, hj with
 | 0, _ => exact ⟨.int _ _ _, rfl⟩
 | 1, _ => exact ⟨.int _ _ _, rfl⟩
 | 2, _ => exact ⟨.int _ _ _, rfl⟩
theorem zLC (l : List Mv) (i : Nat) : l.toArray[i]! = l.getD i mv0 := by
 have _p := ‹Pins›
 simp [List.getD, Array.getElem!_eq_getD, Array.getD]
 rcases Nat.lt_or_ge i l.length with h | h
 ·simp [h]
 ·simp [Nat.not_lt.2 h, h]; rfl
/-- slices.SortFunc of own moves -/
theorem zME {P : Program} {ρ : Ren} (L : SlLaysF0.n6 P ρ) (aE : ∀ w, (isAgg (ρ.t 24)).run P w = .ok true w) (zE : ∀ w, (Go.sizeOf (ρ.t 24)).run P w = .ok 3 w) {g : FuncId} (eg : ∀ args w, (callFunc g args).run P w = .ok (.enter g args) w)
 (hf : ∃ fn, P.funcs[ρ.f 6]? = some fn ∧ (fn.name == "runtime.NumGoroutine") = false ∧ fn.body.isNone = false)
 (hc : ∀ (x y : Mv) (W : World), Calls P g #[.agg (zDp x).toArray, .agg (zDp y).toArray] W (fun e w' => e = .returned (.int .i64 (zGu x y)) ∧ ∃ q os', w' = Go.Sort.grow (W.drewN q) os'))
 {H : zM} {h : Nat} {ty : TypeId} {l : List Mv} (hl : l.length < 4611686018427387904) (hh : H[h]? = some (some ⟨ty, zBH l⟩)) :
 ze P (ρ.f 6) [.sl h 0 l.length, .fn g []] H (fun x => x < H.length) (fun r H' => r = .tup [] ∧ H' = H.set h (some ⟨ty, zBH (l.mergeSort leM)⟩)) := by
 refine ⟨hf, fun w σ S vals hp hr hfx hv => ?_⟩
 obtain ⟨hv1, hv2⟩ := hv
 have a0 := hv2 0 (by show 0 < 2; decide)
 have a1 := hv2 1 (by show 1 < 2; decide)
 have hvs : vals = #[vals.getD 0 undef, vals.getD 1 undef] := by
  apply Array.ext
  ·simpa using hv1
  ·intro i h1 h2
   have : vals.size = 2 := hv1
   match i, h1, h2 with
   | 0, h1, _ => simp [Array.getD, h1]
   | 1, h1, _ => simp [Array.getD, h1]
   | i + 2, h1, _ => omega
 rw [hvs]
 generalize vals.getD 0 undef = v0 at a0
 generalize vals.getD 1 undef = v1 at a1
 have a0 : VR w S σ (.sl h 0 l.length) v0 := a0
 have a1 : VR w S σ (.fn g []) v1 := a1
 have hfun : v1 = .func (.func g) #[] #[] := by
  cases a1 with
  | fn _ _ _ vs hl hv =>
   have : vs = #[] := Array.eq_empty_of_size_eq_zero hl
   rw [this]
 subst hfun
 have hset : H.length = (H.set h (some ⟨ty, zBH (l.mergeSort leM)⟩)).length := by rw [List.length_set]
 have kp0 : ∀ (K : AV → zM → Prop), Kp (zBU w S σ H (fun x => x < H.length) K hp) w S σ H := fun K => ⟨rfl, rfl, rfl, Nat.le_refl _, fun _ _ _ => rfl, fun _ h => h, fun _ h => .inl h, fun _ _ => rfl, fun _ h => h, fun h o b s C h1 h2 => .inl ⟨h, o, s, C, h1, h2⟩⟩
 rcases hr.live h _ hh with ⟨hn, hlen⟩ | ⟨b, C, cur, g1, g2, g3, g4, g5, g6, g7⟩
 ·have hlen : l.length = 0 := hlen
  obtain rfl : l = [] := List.length_eq_zero_iff.1 hlen
  have hv0 : ∃ p cap, v0 = .slice p 0 cap := by
   have a0 : VR w S σ (.sl h 0 0) v0 := a0
   cases a0 with
   | sl _ _ _ _ b s C cap hσ => exact ⟨_, _, rfl⟩
   | sl0 => exact ⟨_, _, rfl⟩
  obtain ⟨p, cap, rfl⟩ := hv0
  refine (AnyF.slices_SortFunc_none { L with } p cap (.func (.func g) #[] #[]) w).mono ?_
  rintro e w' ⟨rfl, rfl⟩
  have hsame : H.set h (some ⟨ty, zBH (([] : List Mv).mergeSort leM)⟩) = H := by
   rw [List.mergeSort_nil]
   apply List.ext_getElem?
   intro i
   rw [List.getElem?_set]
   split
   ·rename_i e; subst e; split
    ·rw [hh]
    ·rename_i hlt; rw [List.getElem?_eq_none (by omega)]
   ·rfl
  refine ⟨_, .tup [], σ, S, H, J, hr, .tup _ _ _ J (fun i hi => absurd hi (Nat.not_lt_zero _)), kp0 _, J, hsame.symm⟩
 ·have hlC : l.length ≤ C := g5
  have g3 : cur.size = C * 3 := g3
  have g1 : σ h = some (.at b 3 C) := g1
  have hv0 : ∃ cap, v0 = .slice (some ⟨b, 0, none⟩) l.length cap := by
   generalize l.length = n at a0
   cases a0 with
   | sl _ _ _ _ b' s C' cap hσ hle hcap =>
    rw [g1] at hσ
    injection hσ with hσ
    injection hσ with e1 e2 e3
    subst e1 e2
    exact ⟨cap, by simp⟩
   | sl0 _ _ hσ => rw [g1] at hσ; cases hσ
  obtain ⟨cap, rfl⟩ := hv0
  obtain ⟨mk, q1, q2, q3⟩ := g2.cells (by show 3 ≠ 0; decide)
  have q2 : mk.2 ≤ mk.1 ∨ cur.size ≤ mk.1 := q2
  have hcell : ∀ i j, i < l.length → j < 3 → cur[i * 3 + j]? = some (zDp (l.getD i mv0))[j]! := fun i j hi hj => by
   obtain ⟨v, e1, e2, _⟩ := g7 i j hi hj
   rw [at_mvs hj e2] at e1
   exact e1
  have hin : ∀ t, t < l.length * 3 → t / 3 < l.length ∧ t / 3 * 3 + t % 3 = t := fun t ht => by omega
  have hH : HoldsK zDp 3 w b 0 l.toArray := by
   intro t ht
   have ht' : t < l.length * 3 := by simpa using ht
   obtain ⟨h1, h2⟩ := hin t ht'
   have e := hcell (t / 3) (t % 3) h1 (Nat.mod_lt _ (by decide))
   rw [h2] at e
   have e2 : (flatK zDp 3 l.toArray)[t]! = (zDp (l.getD (t / 3) mv0))[t % 3]! := by
    rw [get_flatK _ _ _ _ (by simpa using ht'), zLC]
   have hlt : t < cur.size := by
    rw [g3]
    exact Nat.lt_of_lt_of_le ht' (Nat.mul_le_mul_right 3 hlC)
   constructor
   ·rw [Nat.zero_add, e2]
    show World.cell? w ⟨b, t, none⟩ = some _
    simp [World.cell?, q1, e]
   ·simp only [World.frozen?, q1, Nat.zero_add]
    rw [Bool.and_eq_false_iff, decide_eq_false_iff_not, decide_eq_false_iff_not]
    omega
  have hcmp : CmpLays P g #[] zDp 3 zGu b 0 l.toArray.size w := fun m os dk _ x y => by
   have := hc x y (sortWorldK zDp 3 w b 0 m dk os)
   simpa using this
  have hblk : b < w.heap.size := g2.lt
  have hsz : l.toArray.size = l.length := by simp
  have key := AnyQ.slices_SortFunc_total L 3 aE zE zDp (fun _ => rfl) (fun x v hv => by
   simp only [zDp, List.mem_cons, List.mem_nil_iff, or_false] at hv
   rcases hv with rfl | rfl | rfl <;> rfl) zGu swoM g #[] b 0 cap l.toArray w eg hcmp hH hblk (by rw [hsz]; exact hl) zLr
  rw [hsz] at key
  refine key.mono ?_
  rintro e w' ⟨rfl, n, os, rfl⟩
  rw [ltOf_cmp, show (l.toArray.toList.mergeSort fun x y => !(ltM y x)) = l.mergeSort leM by rw [List.toList_toArray]; exact sort_le l]
  generalize hm : l.mergeSort leM = m
  have hml : m.length = l.length := by rw [← hm, List.length_mergeSort]
  let cur' := putCells id 0 (flatK zDp 3 m.toArray) cur
  have hcs : cur'.size = C * 3 := by show (Array.mapIdx _ _).size = _; rw [Array.size_mapIdx]; exact g3
  let a : Act := { tmps := #[], defers := [] }
  have hrep : Rep (zBU w S σ H (fun x => x < H.length) (fun r H' => r = .tup [] ∧ H' = H.set h (some ⟨ty, zBH m⟩)) hp) w a σ S 0 [] H := ⟨hr, kp0 _, rfl, rfl, fun t v hl => by cases hl⟩
  have h2 := hrep.setRow hh g1 (c' := zBH m) (cur' := cur') q3 rfl (by show m.length ≤ C; omega) hcs (fun i j hi hj => by
   have hi : i < m.length := hi
   have hj : j < 3 := hj
   have hlt : i * 3 + j < cur.size := by omega
   refine ⟨(zDp (m.getD i mv0))[j]!, ?_, vr_mvs hj⟩
   have e1 : (i * 3 + j) / 3 = i := by omega
   have e2 : (i * 3 + j) % 3 = j := by omega
   show (putCells id 0 (flatK zDp 3 m.toArray) cur)[i * 3 + j]? = _
   simp only [putCells, Array.getElem?_mapIdx, Array.getElem?_eq_getElem hlt, Option.map_some]
   rw [if_pos ⟨Nat.zero_le _, by simp; omega⟩, Nat.sub_zero, get_flatK _ _ _ _ (by simp; omega), e1, e2, zLC]
   rfl)
  have hsame : ∀ k, k < (w.setRow b cur').heap.size → (sortWorldK zDp 3 w b 0 n m.toArray os).heap[k]? = (w.setRow b cur').heap[k]? := by
   intro k hk
   rw [setRow_size] at hk
   show (Go.Sort.grow (putRowK zDp 3 (Sort.ahead w n) b 0 m.toArray) os).heap[k]? = _
   rw [heap_grow_old _ _ (by show k < (putRow id _ b 0 _).heap.size; rw [Go.Sort.size_putRow]; exact hk)]
   exact put_set (w := w) q1 _ k
  have hle : (w.setRow b cur').heap.size ≤ (sortWorldK zDp 3 w b 0 n m.toArray os).heap.size := by
   rw [setRow_size]; exact size_sortWorldK_c zDp 3 w b 0 n m.toArray os
  exact ⟨_, .tup [], σ, S, _, J, zJp h2.hr hsame hle, .tup _ _ _ J (fun i hi => absurd hi (Nat.not_lt_zero _)), zJu h2.kp hsame hle J J J, J, J⟩
end Go.Ax.Gm
namespace Go.Ax
variable [Pins]
open Go.RowKit
theorem zt {L : List AV} (h : noRef.noRefs L = true) : zAC (.box L) := by
 have _p := ‹Pins›
 have key : ∀ (L : List AV) (j : Nat), noRef.noRefs L = true → j < L.length → noRef (L.getD j .any) = true := by
  intro L
  induction L with
  | nil => intro j _ hj; simp at hj
  | cons a L ih =>
   intro j h hj
   simp only [noRef.noRefs, Bool.and_eq_true] at h
   cases j with
   | zero => exact h.1
   | succ j => exact ih j h.2 (by simpa using hj)
 intro i j _ hj
 exact key L j h hj
theorem zCG {P : Program} {fn : Func} {c : Ctx} {fr : Fr} {k : List It} {x : Code} {ty : TypeId} {l : List AV} (t : Nat) (L : Fr) (hn : noRef.noRefs l = true) (hk1 : zAx fr ((t, .ptr 0 0 0) :: L)) (hk2 : zAx ((t, .ptr 0 0 0) :: L) L) (hb : zBZ 0 L = true) (hfx : c.fix = fun _ => False)
 (h : Ax P fn c (.code x k) ((t, .rp (.box l) 0 0) :: L) []) : Ax P fn c (.code x k) fr [some ⟨ty, .box l⟩] :=
 ax_fzOne (o := ⟨ty, .box l⟩) (v := .ptr 0 0 0) t L (.rp (.box l) 0 0) (zt hn) rfl rfl (fun o ho => by simp at ho; subst ho; exact Nat.zero_lt_one) rfl hk1 hk2 hb (fun h hh => by rw [hfx] at hh; exact hh) h
/-- A whole box is written. -/
theorem zW {P : Program} {fn : Func} {c : Ctx} {fr : Fr} {H : zM} {k : List It} {all : Array Oper} {t : TypeId} {x y : Operand} {ty : TypeId} {pos : String} {after : Array Edge} {rest : List Oper} {h : Nat} {ty' : TypeId} {l0 L : List AV} (L' : List AV)
 (hx : ev fr x = some (.ptr h 0 0)) (hy : ev fr y = some (.agg L)) (hs : (P.info? t).map (·.size) = some l0.length) (hh : H[h]? = some (some ⟨ty', .box l0⟩)) (hl : L.length = l0.length) (hL : L = L') (hz : Nat.blt 0 l0.length = true)
 (hk : Ax P fn c (.ops false all rest k) fr (H.set h (some ⟨ty', .box L'⟩))) : Ax P fn c (.ops false all (⟨none, .store t x y, ty, pos, after, none⟩ :: rest) k) fr H := by
 subst hL
 have hz := Nat.le_of_ble_eq_true hz
 refine zEV (c' := .box L) (ob := ⟨ty', .box l0⟩) hx hy hs hh hl Nat.zero_lt_one J hl (fun i' j' hi hj => ?_) hk (by show l0.length ≠ 0; omega)
 obtain rfl : i' = 0 := Nat.lt_one_iff.1 hi
 rw [if_pos rfl]; rfl
/-- All objects are only read from now on. -/
theorem zG6 {P : Program} {fn : Func} {c : Ctx} {fr : Fr} {k : List It} {x : Code} {H : zM} (L : Fr) (hrl : ∀ (h : Nat) (o : AObj), H[h]? = some (some o) → zAC o.c) (hL : fzk H fr L) (hk2 : zAx L L) (hb : zBZ 0 L = true) (hfx : c.fix = fun _ => False)
 (hk : Ax P fn c (.code x k) L []) : Ax P fn c (.code x k) fr H := by
 refine zAt H (List.replicate H.length none) L (fun _ _ h => h) hrl List.length_replicate ?_ hL ?_
 ·intro h o' ho'
  rw [List.getElem?_replicate] at ho'
  split at ho' <;> cases ho'
 exact ax_cut [] (List.replicate H.length none) L J hk2 (fun h hh => by rw [hfx] at hh; exact hh.elim) J hb hk
/-- Two boxes are only read from now on. -/
theorem zFh {P : Program} {fn : Func} {c : Ctx} {fr : Fr} {k : List It} {x : Code} {ty ty' : TypeId} {l l' : List AV} (t t' : Nat) (L : Fr) (hn : noRef.noRefs l = true) (hn' : noRef.noRefs l' = true) (hl : zAT t fr = some (.ptr 0 0 0)) (hl' : zAT t' fr = some (.ptr 1 0 0)) (hk1 : zAx fr L)
 (hk2 : zAx ((t, .rp (.box l) 0 0) :: (t', .rp (.box l') 0 0) :: L) ((t, .rp (.box l) 0 0) :: (t', .rp (.box l') 0 0) :: L)) (hb : zBZ 0 L = true) (hfx : c.fix = fun _ => False)
 (hk : Ax P fn c (.code x k) ((t, .rp (.box l) 0 0) :: (t', .rp (.box l') 0 0) :: L) []) : Ax P fn c (.code x k) fr [some ⟨ty, .box l⟩, some ⟨ty', .box l'⟩] := by
 refine zG6 ((t, .rp (.box l) 0 0) :: (t', .rp (.box l') 0 0) :: L) (refl2 (zt hn) (zt hn')) ⟨⟨_, hl, .inr (.inr ⟨rfl, fun o ho => by cases ho; exact Nat.zero_lt_one⟩)⟩, ⟨_, hl', .inr (.inr ⟨rfl, fun o ho => by cases ho; exact Nat.zero_lt_one⟩)⟩, zBr hk1⟩ hk2 ?_ hfx hk
 simp only [zBZ, Bool.and_eq_true]
 exact ⟨J, J, hb⟩
theorem zBp {n : Nat} : ∀ (h : Nat) (o : AObj), ([] : zM)[h]? = some (some o) → zAq n o.c := fun h o ho => by have _p := ‹Pins›; simp at ho
theorem zCA {n : Nat} {x : AObj} {H : zM} (h1 : zAq n x.c) (h2 : ∀ (h : Nat) (o : AObj), H[h]? = some (some o) → zAq n o.c) : ∀ (h : Nat) (o : AObj), (some x :: H)[h]? = some (some o) → zAq n o.c := fun h o ho => by
 have _p := ‹Pins›
 cases h with
 | zero => cases ho; exact h1
 | succ h => exact h2 h o (by simpa using ho)
theorem bl_n {n : Nat} {H : zM} (h2 : ∀ (h : Nat) (o : AObj), H[h]? = some (some o) → zAq n o.c) : ∀ (h : Nat) (o : AObj), (none :: H)[h]? = some (some o) → zAq n o.c := fun h o ho => by
 have _p := ‹Pins›
 cases h with
 | zero => cases ho
 | succ h => exact h2 h o (by simpa using ho)
theorem zCZ : ∀ (h : Nat) (o : AObj), ([] : zM)[h]? = some (some o) → zAC o.c := fun h o ho => by have _p := ‹Pins›; simp at ho
theorem zB6 {x : AObj} {H : zM} (h1 : zAC x.c) (h2 : ∀ (h : Nat) (o : AObj), H[h]? = some (some o) → zAC o.c) : ∀ (h : Nat) (o : AObj), (some x :: H)[h]? = some (some o) → zAC o.c := fun h o ho => by
 have _p := ‹Pins›
 cases h with
 | zero => cases ho; exact h1
 | succ h => exact h2 h o (by simpa using ho)
theorem zB7 {H : zM} (h2 : ∀ (h : Nat) (o : AObj), H[h]? = some (some o) → zAC o.c) : ∀ (h : Nat) (o : AObj), (none :: H)[h]? = some (some o) → zAC o.c := fun h o ho => by
 have _p := ‹Pins›
 cases h with
 | zero => cases ho
 | succ h => exact h2 h o (by simpa using ho)
/-- The last object, a box, is only read from now on. -/
theorem ax_fzL {P : Program} {fn : Func} {c : Ctx} {fr : Fr} {k : List It} {x : Code} {ty : TypeId} {l : List AV} (H0 : zM) (t : Nat) (L : Fr) (hn : noRef.noRefs l = true) (ht : zAT t fr = some (.ptr H0.length 0 0)) (hk1 : zAx fr L) (hk2 : zAx ((t, .rp (.box l) 0 0) :: L) ((t, .rp (.box l) 0 0) :: L))
 (hH : ∀ (h : Nat) (o : AObj), H0[h]? = some (some o) → zAq H0.length o.c) (hb : zBZ H0.length L = true) (hfx : c.fix = fun _ => False)
 (hk : Ax P fn c (.code x k) ((t, .rp (.box l) 0 0) :: L) H0) : Ax P fn c (.code x k) fr (H0 ++ [some ⟨ty, .box l⟩]) := by
 have hat : ∀ (h : Nat) (o : AObj), (List.replicate H0.length none ++ [some (⟨ty, .box l⟩ : AObj)] : zM)[h]? = some (some o) → h = H0.length ∧ o = ⟨ty, .box l⟩ := fun h o ho => by
  rcases Nat.lt_or_ge h H0.length with q | q
  ·rw [List.getElem?_append_left (by rw [List.length_replicate]; exact q), List.getElem?_replicate, if_pos q] at ho; cases ho
  ·rw [List.getElem?_append_right (by rw [List.length_replicate]; exact q), List.length_replicate] at ho
   cases e : h - H0.length with
   | zero => rw [e] at ho; cases ho; exact ⟨by omega, rfl⟩
   | succ n => rw [e] at ho; simp at ho
 refine zAt (List.replicate H0.length none ++ [some ⟨ty, .box l⟩]) (H0 ++ [none]) ((t, .rp (.box l) 0 0) :: L) (fun h o ho => ?_) (fun h o ho => ?_) (by simp) (fun h o' ho' => ?_) ⟨⟨.ptr H0.length 0 0, ht, .inr (.inr ⟨?_, ?_⟩)⟩, zBr hk1⟩ ?_
 ·obtain ⟨rfl, rfl⟩ := hat h o ho
  rw [List.getElem?_append_right (Nat.le_refl _), Nat.sub_self]; rfl
 ·obtain ⟨rfl, rfl⟩ := hat h o ho
  exact zt hn
 ·rcases Nat.lt_or_ge h H0.length with q | q
  ·rw [List.getElem?_append_left q] at ho'
   refine ⟨fun o ho => ?_, o', by rw [List.getElem?_append_left q]; exact ho', J, J, J, fun _ _ _ _ => .inl J⟩
   have := (hat h o ho).1; omega
  ·rw [List.getElem?_append_right q] at ho'
   cases e : h - H0.length with
   | zero => rw [e] at ho'; cases ho'
   | succ n => rw [e] at ho'; simp at ho'
 ·have e : (List.replicate H0.length none ++ [some (⟨ty, .box l⟩ : AObj)] : zM)[H0.length]? = some (some ⟨ty, .box l⟩) := by
   rw [List.getElem?_append_right (by rw [List.length_replicate]; exact Nat.le_refl _), List.length_replicate, Nat.sub_self]; rfl
  show AV.rp (.box l) 0 0 = AV.frz _ (.ptr H0.length 0 0)
  simp only [AV.frz, e]
 ·intro o ho
  obtain ⟨_, rfl⟩ := hat _ o ho
  exact Nat.zero_lt_one
 exact zCS H0 [none] ((t, .rp (.box l) 0 0) :: L) J hk2 (fun h hh => by rw [hfx] at hh; exact hh.elim) hH (by simp only [zBZ, Bool.and_eq_true]; exact ⟨J, hb⟩) hk
theorem zBs {α : Type} (a b : List α) (d : α) (i : Nat) : (a ++ b).getD i d = if i < a.length then a.getD i d else b.getD (i - a.length) d := by
 have _p := ‹Pins›
 simp only [List.getD]
 split
 ·rename_i h; rw [List.getElem?_append_left h]
 ·rename_i h; rw [List.getElem?_append_right (by omega)]
theorem rowG_cat {α : Type} (d : α) (n : Nat) (e : α → List AV) (a b : List α) (cx : Cells) (o m : Nat) (hm : m = b.length) (h0 : ∀ k j, k < m → j < n → cx.at (o + k) j = (e (b.getD k d)).getD j .any) :
 CEq (.fn (a.length + m) n (fun i j => bif Nat.blt i a.length then (zCP d n e a).at i j else cx.at (o + (i - a.length)) j)) (zCP d n e (a ++ b)) := by
 have _p := ‹Pins›
 subst hm
 refine ⟨by simp [zCP, Cells.len], J, fun i j hi hj => ?_⟩
 show (e ((a ++ b).getD i d)).getD j .any = bif Nat.blt i a.length then (e (a.getD i d)).getD j .any else cx.at (o + (i - a.length)) j
 have hi : i < a.length + b.length := hi
 rw [zBs]
 by_cases h : i < a.length
 ·rw [if_pos h, show Nat.blt i a.length = true from Nat.ble_eq_true_of_le h]; rfl
 ·have h2 : Nat.blt i a.length = false := by
   cases e : Nat.blt i a.length with
   | false => rfl
   | true => have : i + 1 ≤ a.length := Nat.le_of_ble_eq_true e
             omega
  rw [h2, if_neg h, cond_false, h0 _ _ (by omega) hj]
theorem zAs.set1 {t : TypeId} {a b : Cells} (H : zM) (h : Nat) (hc : CEq a b) : zAs (H.set h (some ⟨t, a⟩)) (H.set h (some ⟨t, b⟩)) := by
 have _p := ‹Pins›
 refine ⟨by rw [List.length_set, List.length_set], fun i o' ho => ?_⟩
 by_cases he : h = i
 ·subst he
  have hlt : h < H.length := by
   rcases Nat.lt_or_ge h H.length with q | q
   ·exact q
   ·rw [List.getElem?_eq_none (by rw [List.length_set]; exact q)] at ho; cases ho
  rw [List.getElem?_set_self hlt] at ho
  cases ho
  exact ⟨⟨t, a⟩, by rw [List.getElem?_set_self hlt], J, hc⟩
 ·rw [List.getElem?_set_ne he] at ho
  exact ⟨o', by rw [List.getElem?_set_ne he]; exact ho, J, CEq.refl _⟩
/-- Rows of structs behind rows of structs. -/
theorem zBY {P : Program} {fn : Func} {c : Ctx} {fr : Fr} {H : zM} {kk : List It} {α : Type} {d0 : α} {n0 : Nat} {e0 : α → List AV} {ls : List α} (b : List α) {all : Array Oper} {d : Nat} {t e : TypeId} {x y : Operand} {ty : TypeId} {pos : String} {after : Array Edge} {rest : List Oper} {inf : TypeInfo} {z : Value} {h n : Nat} {v : AV} {cx : Cells} {i m : Nat}
 (ht : P.underlying t = some (.slice e)) (hi : P.info? e = some inf) (hz : inf.zero = some z) (hszz : inf.size = n0) (hzs : z.cells.size = n0) (hpos : Nat.blt 0 n0 = true)
 (hx : ev fr x = some (.sl h 0 n)) (hh : H[h]? = some (some ⟨e, zCP d0 n0 e0 ls⟩)) (hn : ls.length = n) (hy : ev fr y = some v) (hs : zKB H v = some (cx, i, m)) (hsz : cx.sz = n0) (hm : m = b.length) (hin : i + m ≤ cx.len) (hcx : ∀ k j, k < m → j < n0 → cx.at (i + k) j = (e0 (b.getD k d0)).getD j .any)
 (hb : (n + m) * inf.bytes ≤ 140737488355328 ∧ n + m ≤ 9223372036854775807) (hne : ∀ a j k, j < n0 → ((e0 a).getD j .any).forget k = (e0 a).getD j .any) (hfix : ¬ c.fix h)
 (hk : Ax P fn c (.ops false all rest kk) ((d, .sl h 0 (n + m)) :: zCE h fr) ((zBN h H).set h (some ⟨e, zCP d0 n0 e0 (ls ++ b)⟩))) :
 Ax P fn c (.ops false all (⟨some d, .call { callee := .builtin .append, args := #[x, y], argTypes := #[t, t] }, ty, pos, after, none⟩ :: rest) kk) fr H := by
 have happ : (zCP d0 n0 e0 ls).app cx i m = some (.fn (ls.length + m) n0 (fun i' j => bif Nat.blt i' ls.length then (zCP d0 n0 e0 ls).at i' j else cx.at (i + (i' - ls.length)) j)) := by
  show (bif Nat.beq n0 cx.sz then some (Cells.fn (ls.length + m) n0 _) else none) = _
  rw [hsz, Nat.beq_refl]; rfl
 have hc := rowG_cat d0 n0 e0 ls b cx i m hm hcx
 refine zAY (o := ⟨e, zCP d0 n0 e0 ls⟩) ht hi hz hszz hzs hpos hx hh J hn hy hs hin happ hb (fun i' j' hi' hj' => ?_) hfix ?_
 ·rw [← hc.2.2 i' j' hi' hj']
  exact hne _ _ _ hj'
 ·exact zA0 _ (zAs.set1 _ _ hc) hk
/-- What is made is only read. -/
theorem zn.of_fcall {P : Program} {f : FuncId} {args : List AV} {o : AObj} {n : Nat} (h : zG4 P f args (fun N => .sl N 0 n) o) (hrl : zAC o.c) (hn : o.c.len = n) (ha : noRef.noRefs args = true) : zn P f args (.ro o.c 0 n) := by
 refine ze.value (h []) (fun x hx => Nat.not_lt_zero _ hx) ha ?_
 rintro r0 H0 ⟨rfl, rfl⟩
 refine ⟨J, fun o' ho => ?_, fun k o' ho => ?_⟩
 ·have : o = o' := by simpa using ho
  subst this; show 0 + n ≤ o.c.len; omega
 ·exact zFJ hrl k o' ho
end Go.Ax
namespace Go.Ax
variable [Pins]
open Go.RowKit
theorem ze.cutR {P : Program} {f : FuncId} {args : List AV} {H : zM} {fix : Nat → Prop} {K K' : AV → zM → Prop} (hc : ze P f args H fix K)
 (hK : ∀ r H', K r H' → ∃ H0 H1, H' = H0 ++ H1 ∧ (∀ h, fix h → h < H0.length) ∧ (∀ (h : Nat) (o : AObj), H0[h]? = some (some o) → zAq H0.length o.c) ∧ zB2 H0.length r = true ∧ K' r H0) : ze P f args H fix K' := by
 refine ⟨hc.1, fun w σ S vals h0 h1 h2 h3 => Calls.mono (hc.2 w σ S vals h0 h1 h2 h3) fun e w' he => ?_⟩
 obtain ⟨v, r, σ', S', H', g1, g2, g3, g4, g5⟩ := he
 obtain ⟨H0, H1, rfl, hf, hbH, hbr, hk⟩ := hK _ _ g5
 have hs : ∀ h, h < H0.length → cutσ H0.length σ' h = σ' h := fun h hl => if_pos hl
 have hget : ∀ {h : Nat} {o : AObj}, H0[h]? = some (some o) → h < H0.length ∧ (H0 ++ H1)[h]? = some (some o) := by
  intro h o ho
  have hl : h < H0.length := (List.getElem?_eq_some_iff.1 ho).1
  exact ⟨hl, by rw [List.getElem?_append_left hl]; exact ho⟩
 refine ⟨v, r, cutσ H0.length σ', S', H0, g1, ⟨fun h o ho => ?_, fun h h' o o' b s C s' C' q1 q2 e1 e2 => ?_, g2.small, fun h hl => if_neg (by omega)⟩, g3.cutv hbr _ hs, ⟨g4.os, g4.output, g4.tape, g4.size, g4.block, g4.S1, g4.S2, fun h hh => by rw [hs h (hf h hh)]; exact g4.fixed h hh, hf, fun h o b s C q e => ?_⟩, hk⟩
 ·obtain ⟨hl, ho'⟩ := hget ho
  rw [hs h hl]
  rcases g2.live h o ho' with g | ⟨b, C, cur, k1, k2, k3, k4, k5, k6, k7⟩
  ·exact .inl g
  ·refine .inr ⟨b, C, cur, k1, k2.cutv (fun ks vs hc => (hbH h o ho).mp hc) hs, k3, k4, k5, k6, fun i j hi hj => ?_⟩
   obtain ⟨v, m1, m2, m3⟩ := k7 i j hi hj
   exact ⟨v, m1, m2.cutv ((hbH h o ho).row i j hi hj) _ hs, m3⟩
 ·obtain ⟨hl, ho⟩ := hget q1
  obtain ⟨hl', ho'⟩ := hget q2
  rw [hs h hl] at e1
  rw [hs h' hl'] at e2
  exact g2.dist h h' o o' b s C s' C' ho ho' e1 e2
 ·obtain ⟨hl, ho⟩ := hget q
  rw [hs h hl] at e
  exact g4.own h o b s C ho e
/-- A call that reads the own memory and leaves it as it is. -/
theorem px_c {P : Program} {fn : Func} {c : Ctx} {H : zM} {all : Array Oper} {K0 : Fr} {i : Nat} {r : List Nat} {st : Steps} {G : Steps → Prop} {d : Nat} {g : Operand} {args : List Operand} {ats : Array TypeId} {ty : TypeId} {pos : String} {after : Array Edge} {f : FuncId} {caps ags ags' : List AV} {v : AV} {K : Fr} (hi : all[i]? = some ⟨some d, .call { callee := .value g, args := args.toArray, argTypes := ats }, ty, pos, after, none⟩)
 (hK : zEK st K0 ⟨some d, .call { callee := .value g, args := args.toArray, argTypes := ats }, ty, pos, after, none⟩ = K) (hg : ev K g = some (.fn f caps)) (ha : evs K args = some ags) (has : ags ++ caps = ags') (hcall : ze P f ags' H (fun h => h < H.length) (fun r' H' => r' = v ∧ H' = H))
 (h : zDC P fn c H all K0 r ((i, d, v) :: st) G) : zDC P fn c H all K0 (i :: r) st G :=
 zG1 hi (hK ▸ fun k fr hk h2 => zCq (zFs hk hg) (zGM hk ha) has hcall (fun _ h => h) (fun _ h => h) (fun r H' e => by obtain ⟨rfl, rfl⟩ := e; exact h2)) h
end Go.Ax
namespace Go.Ax.Gm
open Go.Ax Go.Proofs Go.Sort Go.Shelf Go.RowKit Go.Lib
variable [Pins]
theorem put_setE {α : Type} [Inhabited α] (enc : α → Value) {w : World} {b : Nat} {cur : Array Value} {ty : TypeId} {mk : Nat × Nat} (hb : w.heap[b]? = some (.cells cur ty mk)) (F : Array α) (k : Nat) : (putRow enc w b 0 F).heap[k]? = (w.setRow b (putCells enc 0 F cur)).heap[k]? := by
 have _p := ‹Pins›
 by_cases hk : k = b
 ·subst hk
  rw [setRow_heap w k cur _ ty mk hb]
  simp [putRow, mapBlock, Array.getElem?_modify, hb, onCells]
 ·rw [setRow_other w b k _ hk]
  simp [putRow, mapBlock, Array.getElem?_modify, Ne.symm hk]
/-- formatBase10 into the first cells of an own row of bytes -/
theorem fmt_call {P : Program} {ρ : Ren} (L : Lays.n285 P ρ) (hf : ∃ fn, P.funcs[ρ.f 285]? = some fn ∧ (fn.name == "runtime.NumGoroutine") = false ∧ fn.body.isNone = false)
 {H : zM} {h : Nat} {ty : TypeId} {s : List UInt8} {u : Nat} (hu64 : u < 18446744073709551616) (hn : nDigits u ≤ s.length) (hh : H[h]? = some (some ⟨ty, .ints .u8 (zr s)⟩)) :
 ze P (ρ.f 285) [.sl h 0 (nDigits u), .int .u64 u] H (fun x => x < H.length) (fun r H' => r = .tup [] ∧ H' = H.set h (some ⟨ty, .ints .u8 (zr (decDigits u ++ s.drop (nDigits u)))⟩)) := by
 refine ⟨hf, fun w σ S vals hp hr hfx hv => ?_⟩
 obtain ⟨hv1, hv2⟩ := hv
 have a0 := hv2 0 (by show 0 < 2; decide)
 have a1 := hv2 1 (by show 1 < 2; decide)
 have hvs : vals = #[vals.getD 0 undef, vals.getD 1 undef] := by
  apply Array.ext
  ·simpa using hv1
  ·intro i h1 h2
   have : vals.size = 2 := hv1
   match i, h1, h2 with
   | 0, h1, _ => simp [Array.getD, h1]
   | 1, h1, _ => simp [Array.getD, h1]
   | i + 2, h1, _ => omega
 rw [hvs]
 generalize vals.getD 0 undef = v0 at a0
 generalize vals.getD 1 undef = v1 at a1
 have a0 : VR w S σ (.sl h 0 (nDigits u)) v0 := a0
 have a1 : VR w S σ (.int .u64 u) v1 := a1
 have hint : v1 = .int .u64 u := by cases a1; rfl
 subst hint
 have hpos := nDigits_pos u
 have hdl : (decDigits u).length = nDigits u := decDigits_length u
 have hbl : (zr s).length = s.length := List.length_map _
 have kp0 : ∀ (K : AV → zM → Prop), Kp (zBU w S σ H (fun x => x < H.length) K hp) w S σ H := fun K => ⟨rfl, rfl, rfl, Nat.le_refl _, fun _ _ _ => rfl, fun _ h => h, fun _ h => .inl h, fun _ _ => rfl, fun _ h => h, fun h o b s C h1 h2 => .inl ⟨h, o, s, C, h1, h2⟩⟩
 rcases hr.live h _ hh with ⟨hn0, hlen⟩ | ⟨b, C, cur, g1, g2, g3, g4, g5, g6, g7⟩
 ·have hlen : (zr s).length = 0 := hlen
  omega
 ·have hlC : (zr s).length ≤ C := g5
  have g3 : cur.size = C * 1 := g3
  have g1 : σ h = some (.at b 1 C) := g1
  have hv0 : ∃ cap, v0 = .slice (some ⟨b, 0, none⟩) (nDigits u) cap := by
   generalize nDigits u = n at a0 hpos
   cases a0 with
   | sl _ _ _ _ b' s C' cap hσ hle hcap =>
    rw [g1] at hσ
    injection hσ with hσ
    injection hσ with e1 e2 e3
    subst e1 e2
    exact ⟨cap, by simp⟩
   | sl0 _ _ hσ => rw [g1] at hσ; cases hσ
  obtain ⟨cap, rfl⟩ := hv0
  obtain ⟨mk, q1, q2, q3⟩ := g2.cells (by show 1 ≠ 0; decide)
  have q2 : mk.2 ≤ mk.1 ∨ cur.size ≤ mk.1 := q2
  have hcell : ∀ i, i < s.length → cur[i]? = some (.int .u8 ((s.getD i 0).toNat : Nat)) := fun i hi => by
   obtain ⟨v, e1, e2, _⟩ := g7 i 0 (by show i < (zr s).length; omega) (by show 0 < 1; decide)
   have e2 : VR w S σ (.int .u8 ((zr s).getD i 0)) v := e2
   rw [zDF] at e2
   have e1 : cur[i * 1 + 0]? = some v := e1
   rw [Nat.mul_one, Nat.add_zero] at e1
   rw [e1]
   cases e2; rfl
  let d : Array UInt8 := (s.take (nDigits u)).toArray
  have hds : d.size = nDigits u := by show (s.take (nDigits u)).toArray.size = _; rw [List.size_toArray, List.length_take]; omega
  have hdg : ∀ i, i < nDigits u → d[i]! = s.getD i 0 := fun i hi => by
   rw [getElem!_pos d i (by omega)]
   show (s.take (nDigits u)).toArray[i] = _
   simp [List.getD, List.getElem?_eq_getElem (show i < s.length by omega)]
  have hH : Holds (fun (b : UInt8) => Value.int .u8 (b.toNat : Int)) w b 0 d := by
   intro i hi
   rw [hds] at hi
   have hlt : i < cur.size := by omega
   constructor
   ·rw [Nat.zero_add, hdg i hi]
    show World.cell? w ⟨b, i, none⟩ = some _
    simp [World.cell?, q1, hcell i (by omega)]
   ·simp only [World.frozen?, q1, Nat.zero_add]
    rw [Bool.and_eq_false_iff, decide_eq_false_iff_not, decide_eq_false_iff_not]
    omega
  have key := Any.internal_strconv_formatBase10 L b 0 cap u d w hH (by rw [hds]; exact lt_pow_nDigits u) hu64 (by have := nDigits_le20 u hu64; omega)
  rw [hds] at key
  refine key.mono ?_
  rintro e w' ⟨rfl, n, v', dk, rfl, hF⟩
  have hks : dk.size = nDigits u := hF.size
  let cur' := putCells (fun (b : UInt8) => Value.int .u8 (b.toNat : Int)) 0 dk cur
  have hcs : cur'.size = C * 1 := by show (Array.mapIdx _ _).size = _; rw [Array.size_mapIdx]; exact g3
  have hnl : (zr (decDigits u ++ s.drop (nDigits u))).length = s.length := by
   show ((decDigits u ++ s.drop (nDigits u)).map _).length = _
   rw [List.length_map, List.length_append, List.length_drop, hdl]; omega
  let a : Act := { tmps := #[], defers := [] }
  have hrep : Rep (zBU w S σ H (fun x => x < H.length) (fun r H' => r = .tup [] ∧ H' = H.set h (some ⟨ty, .ints .u8 (zr (decDigits u ++ s.drop (nDigits u)))⟩)) hp) w a σ S 0 [] H := ⟨hr, kp0 _, rfl, rfl, fun t v hl => by cases hl⟩
  have h2 := hrep.setRow hh g1 (c' := .ints .u8 (zr (decDigits u ++ s.drop (nDigits u)))) (cur' := cur') q3 rfl (by show (zr (decDigits u ++ s.drop (nDigits u))).length ≤ C; omega) hcs (fun i j hi hj => by
   have hi : i < (zr (decDigits u ++ s.drop (nDigits u))).length := hi
   have hj : j < 1 := hj
   have hj0 : j = 0 := by omega
   subst hj0
   have hi3 : i < s.length := by omega
   refine ⟨.int .u8 ((zr (decDigits u ++ s.drop (nDigits u))).getD i 0), ?_, .int _ _ _, J⟩
   show (putCells (fun (b : UInt8) => Value.int .u8 (b.toNat : Int)) 0 dk cur)[i * 1 + 0]? = _
   rw [Nat.mul_one, Nat.add_zero]
   simp only [putCells, Array.getElem?_mapIdx, hcell i hi3, Option.map_some, Nat.sub_zero, Nat.zero_add, Nat.zero_le, true_and, hks]
   rw [zDF, zBs, hdl]
   by_cases hi2 : i < nDigits u
   ·rw [if_pos hi2, if_pos hi2, ← row_is_numeral hF i (by omega)]
    simp [List.getD, List.getElem?_eq_getElem (show i < (decDigits u).length by omega)]
   ·rw [if_neg hi2, if_neg hi2]
    congr 3
    simp only [List.getD, List.getElem?_drop]
    congr 3; omega)
  have hsame : ∀ k, k < (w.setRow b cur').heap.size → ((putRow (fun (b : UInt8) => Value.int .u8 (b.toNat : Int)) w b 0 dk).drewN n).heap[k]? = (w.setRow b cur').heap[k]? := by
   intro k hk
   show (putRow _ w b 0 dk).heap[k]? = _
   exact put_setE _ q1 _ k
  have hle : (w.setRow b cur').heap.size ≤ ((putRow (fun (b : UInt8) => Value.int .u8 (b.toNat : Int)) w b 0 dk).drewN n).heap.size := by
   rw [setRow_size]
   show w.heap.size ≤ (putRow _ w b 0 dk).heap.size
   rw [Go.Sort.size_putRow]; exact Nat.le_refl _
  exact ⟨_, .tup [], σ, S, _, J, zJp h2.hr hsame hle, .tup _ _ _ J (fun i hi => absurd hi (Nat.not_lt_zero _)), zJu h2.kp hsame hle J J J, J, J⟩
theorem Kp.back {c : Ctx} {w w' : World} {S S' : Nat → Prop} {σ σ' : Nat → Option Blk} {H H' : zM} {fix : Nat → Prop} {K : AV → zM → Prop} {hp : zCo w S σ H} (k1 : Kp c w S σ H) (k2 : Kp (zBU w S σ H fix K hp) w' S' σ' H') (hfx : ∀ h, ¬ c.fix h) : Kp c w' S' σ' H' := by
 have hs1 := k1.size
 refine ⟨k2.os.trans k1.os, k2.output.trans k1.output, k2.tape.trans k1.tape, Nat.le_trans k1.size k2.size, fun b hb ho => ?_, fun b hb => k2.S1 b (k1.S1 b hb), fun b hb => ?_, fun h hf => absurd hf (hfx h), fun h hf => absurd hf (hfx h), fun h o b s C h1 h2 => ?_⟩
 ·rw [← k1.block b hb ho]
  refine k2.block b (by simp only [zBU]; omega) ?_
  rintro ⟨h, o, s, C, h1, h2⟩
  rcases k1.own h o b s C h1 h2 with h3 | h3
  ·exact ho h3
  ·omega
 ·rcases k2.S2 b hb with h1 | h1 | h1
  ·exact k1.S2 b h1
  ·obtain ⟨h, o, s, C, g1, g2⟩ := h1
   rcases k1.own h o b s C g1 g2 with g3 | g3
   ·exact .inr (.inl g3)
   ·exact .inr (.inr g3)
  ·right; right; simp only [zBU] at h1; omega
 ·rcases k2.own h o b s C h1 h2 with ⟨h', o', s', C', g1, g2⟩ | h3
  ·exact k1.own h' o' b s' C' g1 g2
  ·right; simp only [zBU] at h3; omega
section
variable {ind : Bool} {P : Program} {fn : Func} {c : Ctx} {fr : Fr} {H : zM} {k : List It}
/-- A new array of bytes, as a row whose room is known from now on; what follows ends with a return. -/
theorem zKN {id d n : Nat} {t : TypeId} {ty : TypeId} {pos : String} {after : Array Edge} {x y : Code} {inf : TypeInfo} {z : Value} (hd : Nat.blt d fn.ntmps = true)
 (hi : P.info? t = some inf) (hz : inf.zero = some z) (hzs : z.cells = Array.replicate n (.int .u8 0)) (hn : n ≤ maxLen) (hfx : ∀ h, ¬ c.fix h)
 (hk : ∀ c' b, c'.σ0 H.length = some (.at b 1 n) → c'.R = c.R → c'.fix = (fun h => h = H.length) → Ax P fn c' (.code x [.inv (fun _ _ => False)]) ((d, .ptr H.length 0 0) :: fr) (H ++ [some ⟨t, .ints .u8 (zr (List.replicate n 0))⟩]))
 : Ax P fn c (.code (.seq (.region id #[⟨some d, .alloc t, ty, pos, after, none⟩] false) x) [.code y]) fr H := by
 intro w a σ S hr
 refine wp_seq (wp_region_list ?_)
 have hl : (zr (List.replicate n 0)).length = n := by unfold zr; rw [List.length_map, List.length_replicate]
 have hrun : (execOp a.eval ⟨some d, .alloc t, ty, pos, after, none⟩).run P w = .ok (.value (.pointer (some ⟨w.heap.size, 0, none⟩))) (w.alloc (.cells z.cells t (0, 0))) := by
  simp [execOp, Instr.alloc, newVar, newRow, zeroValue, typeInfo, hi, hz]
 have h1 := hr.alloc (o := ⟨t, .ints .u8 (zr (List.replicate n 0))⟩) (C := n) (cur := z.cells) (by show (zr (List.replicate n 0)).length ≤ n; omega) hn (by rw [hzs, Array.size_replicate]; exact (Nat.mul_one _).symm) (fun i j hi hj => by
  have hi : i < (zr (List.replicate n 0)).length := hi
  have hj : j < 1 := hj
  refine ⟨.int .u8 0, ?_, ?_, J⟩
  ·show z.cells[i * 1 + j]? = _
   rw [hzs, Array.getElem?_replicate, if_pos (by omega)]
  ·show VR w S σ (.int .u8 ((zr (List.replicate n 0)).getD i 0)) _
   rw [zDF, show (List.replicate n (0 : UInt8)).getD i 0 = 0 by simp [List.getD, List.getElem?_replicate]; split <;> rfl]
   exact .int _ _ _)
 have hp : VR (w.alloc (.cells z.cells t (0, 0))) S (upσ σ H.length (.at w.heap.size 1 n)) (.ptr H.length 0 0) (.pointer (some ⟨w.heap.size, 0, none⟩)) := by
  have := VR.ptr (w := w.alloc (.cells z.cells t (0, 0))) (S := S) (upσ σ H.length (.at w.heap.size 1 n)) H.length 0 0 w.heap.size 1 n (by simp [upσ])
  simpa using this
 have hr1 := h1.put hp (Nat.le_of_ble_eq_true hd)
 refine wpList_step (fun K hK => ?_)
 simp only [Region.wanted, if_true]
 unfold Oper.wp
 rw [hrun]
 refine hK _ _ (wpList_nil ?_)
 have hup : zCo (w.alloc (.cells z.cells t (0, 0))) S (upσ σ H.length (.at w.heap.size 1 n)) (H ++ [some (AObj.mk t (.ints .u8 (zr (List.replicate n 0))))]) := hr1.pinUp
 generalize hW : w.alloc (.cells z.cells t (0, 0)) = W1 at hr1 hup ⊢
 have hgo := hk (zBU W1 S (upσ σ H.length (.at w.heap.size 1 n)) (H ++ [some (AObj.mk t (.ints .u8 (zr (List.replicate n 0))))]) (fun h => h = H.length) c.R hup) w.heap.size (by simp [zBU, upσ]) rfl rfl W1 _ _ S
  ⟨hr1.hr, ⟨rfl, rfl, rfl, Nat.le_refl _, fun _ _ _ => rfl, fun _ h => h, fun _ h => .inl h, fun _ _ => rfl, fun h e => by rw [List.length_append]; show h < H.length + 1; have : h = H.length := e; omega, fun h o b s C h1 h2 => .inl ⟨h, o, s, C, h1, h2⟩⟩, hr1.defers, hr1.size, hr1.slots⟩
 refine wp_mono hgo ?_
 rintro e a' w' ⟨σ', S', fr', H', hr', hpo⟩
 have hback : Rep c w' a' σ' S' fn.ntmps fr' H' := ⟨hr'.hr, Kp.back hr1.kp hr'.kp hfx, hr'.defers, hr'.size, hr'.slots⟩
 cases e with
 | normal => exact absurd hpo (fun h => h)
 | ret => exact ⟨σ', S', fr', H', hback, hpo⟩
 | exit id => exact absurd hpo.1 (by rintro (h | h) <;> cases h)
 | goto l => exact absurd hpo.1 (by rintro (h | h) <;> cases h)
 | panic l => exact absurd hpo.1 (by rintro (h | h) <;> cases h)
 | outgrown => exact absurd hpo.1 (by rintro (h | h) <;> cases h)
/-- a[:m] of such an array -/
theorem zGn {d : Option Nat} {ty : TypeId} {pos : String} {after : Array Edge} {g : Option (Nat × Bool)} {x x2 : Operand} {t e : TypeId} {h' n m b : Nat} {k2 : IntKind} (ht : P.underlying t = some (.array n e)) (hx : ev fr x = some (.ptr h' 0 0)) (hs : (P.info? e).map (·.size) = some 1) (h2 : ev fr x2 = some (.int k2 (m : Nat))) (hm : m ≤ n) (hcap : c.σ0 h' = some (.at b 1 n)) (hfx : c.fix h') :
 QOp ind P fn c fr H ⟨d, .slice t x none (some x2) none, ty, pos, after, g⟩ (.sl h' 0 m) := by
 intro w a σ S hr
 have hxv := hr.evAt hx
 have h2v := hr.evAt h2
 have hσ0 : σ h' = some (.at b 1 n) := by rw [hr.kp.fixed h' hfx]; exact hcap
 generalize hz : a.eval x = z at hxv
 generalize hz2 : a.eval x2 = z2 at h2v
 cases hxv with
 | ptr _ _ _ _ b' s C hσ =>
  rw [hσ0] at hσ
  injection hσ with hσ
  injection hσ with e1 e2 e3
  subst e1 e2 e3
  cases h2v
  refine ⟨.slice (some ⟨b, 0, none⟩) m n, by simpa using VR.sl (w := w) (S := S) σ h' 0 m b 1 n n hσ0 hm (by omega), fun w' _ => ?_⟩
  have hal : P.arrayLen t = n := by simp [Program.arrayLen, ht]
  have hel : P.elem t = e := by simp [Program.elem, ht]
  have := run_sliceAt_array_h (P := P) w' t ⟨b, 0, none⟩ (by rw [hal, hel]; exact ht) k2 (m : Int) (by omega) (by rw [hal]; omega)
  simp [execOp, hz, hz2, this, hal, hel, zDf hs, slicedAt, Addr.add_lit]
end
end Go.Ax.Gm
namespace Go.Ax
variable [Pins]
open Go.RowKit
section
variable {ind : Bool} {P : Program} {fn : Func} {c : Ctx} {fr : Fr} {H : zM} {k : List It}
variable {d : Option Nat} {ty : TypeId} {pos : String} {after : Array Edge} {g : Option (Nat × Bool)}
end
end Go.Ax
namespace Go.Ax
variable [Pins]
open Go.RowKit
section
variable {P : Program} {fn : Func} {c : Ctx} {fr : Fr} {H : zM} {k : List It}
end
end Go.Ax
namespace Go.Ax
variable [Pins]
open Go.RowKit
section
variable {ind : Bool} {P : Program} {fn : Func} {c : Ctx} {fr : Fr} {H : zM} {k : List It}
variable {d : Option Nat} {ty : TypeId} {pos : String} {after : Array Edge} {g : Option (Nat × Bool)}
/-- One operation whose value nobody takes. -/
theorem ax_w0v {all : Array Oper} {op : Op} {ty : TypeId} {pos : String} {after : Array Edge} {rest : List Oper} {fr' : Fr} {H' : zM}
 (hop : ∀ w a σ S, Rep c w a σ S fn.ntmps fr H → ∃ x w' σ' S', (execOp a.eval ⟨none, op, ty, pos, after, none⟩).run P w = .ok (.value x) w' ∧ Rep c w' a σ' S' fn.ntmps fr' H')
 (h : Ax P fn c (.ops false all rest k) fr' H') : Ax P fn c (.ops false all (⟨none, op, ty, pos, after, none⟩ :: rest) k) fr H := by
 intro hd w a σ S hr
 obtain ⟨_, hd2⟩ := zBM hd
 obtain ⟨x, w', σ', S', hrun, hr'⟩ := hop w a σ S hr
 refine wpList_step (fun K hK => ?_)
 simp only [Region.wanted, if_true]
 unfold Oper.wp
 rw [hrun]
 exact hK _ _ (h hd2 w' _ σ' S' hr')
end
end Go.Ax
namespace Go.Ax
variable [Pins]
open Go.RowKit
theorem zII {zc : Array Value} {m t : Nat} (h : t < m * zc.size) : (Builtin.zeroCells zc m).toList[t]? = some zc[t % zc.size]! := by
 have _p := ‹Pins›
 unfold Builtin.zeroCells
 simp [h]
theorem zLV {P : Program} {fn : Func} {c : Ctx} {fr : Fr} {H : zM} {k : List It} {all : Array Oper} {t e : TypeId} {x : Operand} {ty : TypeId} {pos : String} {after : Array Edge} {rest : List Oper} {h i m s : Nat} {ob : AObj} {inf : TypeInfo} {z : Value} {zs : List AV} {c' : Cells}
 (ht : P.underlying t = some (.slice e)) (hi : P.info? e = some inf) (hz : inf.zero = some z) (hzs : z.cells.size = s) (hos : ob.c.sz = s) (hs0 : Nat.blt 0 s = true) (hzo : (z.cells.toList.all fun v => v.oneCell') = true) (hzv : ∀ j, j < s → ∀ (w : World) (S : Nat → Prop) (σ : Nat → Option Blk), VR w S σ (zs.getD j .any) z.cells[j]!)
 (hx : ev fr x = some (.sl h i m)) (hm : 0 < m) (hh : H[h]? = some (some ob)) (him : i + m ≤ ob.c.len) (l1 : c'.len = ob.c.len) (l2 : c'.sz = ob.c.sz) (hat : ∀ i' j', i' < ob.c.len → j' < ob.c.sz → c'.at i' j' = if i ≤ i' ∧ i' < i + m then zs.getD j' .any else ob.c.at i' j')
 (hk : Ax P fn c (.ops false all rest k) fr (H.set h (some ⟨ob.ty, c'⟩))) : Ax P fn c (.ops false all (⟨none, .call { callee := .builtin .clear, args := #[x], argTypes := #[t] }, ty, pos, after, none⟩ :: rest) k) fr H := by
 refine ax_w0v (fun w a σ S hr => ?_) hk
 have hs0 := Nat.le_of_ble_eq_true hs0
 have h1 := hr.evAt hx
 generalize hzx : a.eval x = vx at h1
 cases h1 with
 | sl0 => exact absurd hm (Nat.lt_irrefl 0)
 | sl _ _ _ _ b s' C cap hσ hlen hcap =>
  obtain ⟨hs', cur, g1, g2, g3, g4, g5, g6⟩ := hr.obj hh hσ
  rw [hos] at hs'
  subst hs'
  obtain ⟨mk, g1, hmk, hrow⟩ := g1.cells (by omega)
  rw [hos] at g2 g6
  have hfit : i * s' + m * s' ≤ cur.size := by
   rw [g2, ← Nat.add_mul]
   exact Nat.mul_le_mul_right _ (by omega)
  have hvl : (Builtin.zeroCells z.cells m).toList.length = m * s' := by unfold Builtin.zeroCells; simp [hzs]
  generalize hvs : (Builtin.zeroCells z.cells m).toList = vs at hvl
  have hvg : ∀ q, q < m * s' → vs[q]? = some z.cells[q % s']! := fun q hq => by
   rw [← hvs, zII (by rw [hzs]; exact hq), hzs]
  have hone : ∀ v ∈ vs, v.oneCell' = true := fun v hv => by
   obtain ⟨q, hq, rfl⟩ := List.mem_iff_getElem.1 hv
   have e := hvg q (by rw [← hvl]; exact hq)
   rw [List.getElem?_eq_getElem hq] at e
   rw [Option.some.inj e]
   have hlt : q % s' < z.cells.size := by rw [hzs]; exact Nat.mod_lt _ hs0
   rw [getElem!_pos z.cells _ hlt]
   exact List.all_eq_true.1 hzo _ (Array.getElem_mem_toList hlt)
  have hst := zA4 P b (i * s') ob.ty mk vs 0 cur w g1 hmk (by rw [hvl, Nat.add_zero]; exact hfit) hone
  simp only [Nat.add_zero] at hst
  generalize hcur : (cur.toList.take (i * s') ++ vs ++ cur.toList.drop (i * s' + vs.length)).toArray = cur' at hst
  have hsz' : cur'.size = cur.size := by rw [← hcur]; simp [hvl]; omega
  refine ⟨.tuple #[], w.setRow b cur', σ, S, ?_, hr.setRow hh hσ hrow l2 (by omega) (by rw [hsz', g2, hos]) (fun i' j' hi' hj' => ?_)⟩
  ·have hzz : (zeroValue e).run P w = .ok z w := by simp [zeroValue, typeInfo, hi, hz]
   obtain ⟨m', rfl⟩ : ∃ m', m = m' + 1 := ⟨m - 1, by omega⟩
   have hclear : (Builtin.clear_ #[t] ty #[.slice (some ⟨b, i * s', none⟩) (m' + 1) cap]).run P w = .ok (.tuple #[]) (w.setRow b cur') := by
    simp [Builtin.clear_, run_underlying ht, hzz, hvs, hst]
    try rfl
   simp [execOp, resolve, invoke, builtin, hzx, hclear]
  ·rw [l1] at hi'
   rw [l2] at hj' ⊢
   rw [hat i' j' hi' hj']
   rw [hos] at hj' ⊢
   have hpos : i' * s' + j' < cur.size := by
    rw [g2]
    have : (i' + 1) * s' ≤ C * s' := Nat.mul_le_mul_right _ (by omega)
    rw [Nat.add_mul] at this; omega
   have hcg : cur'[i' * s' + j']? = if i * s' ≤ i' * s' + j' ∧ i' * s' + j' < i * s' + m * s' then vs[i' * s' + j' - i * s']? else cur[i' * s' + j']? := by
    rw [← hcur]
    simp only [List.getElem?_toArray, List.append_assoc]
    have htl : (cur.toList.take (i * s')).length = i * s' := by rw [List.length_take]; simp; omega
    split
    ·rename_i q
     rw [List.getElem?_append_right (by omega), htl, List.getElem?_append_left (by omega)]
    ·rename_i q
     rcases Nat.lt_or_ge (i' * s' + j') (i * s') with q1 | q1
     ·rw [List.getElem?_append_left (by omega), List.getElem?_take, if_pos q1]; simp
     ·rw [List.getElem?_append_right (by omega), htl, List.getElem?_append_right (by omega), List.getElem?_drop, hvl]
      rw [show i * s' + m * s' + (i' * s' + j' - i * s' - m * s') = i' * s' + j' by omega]; simp
   have hiff : (i * s' ≤ i' * s' + j' ∧ i' * s' + j' < i * s' + m * s') ↔ (i ≤ i' ∧ i' < i + m) := by
    rw [← Nat.add_mul]
    constructor
    ·rintro ⟨q1, q2⟩
     constructor
     ·rcases Nat.lt_or_ge i' i with q | q
      ·have := Nat.mul_le_mul_right s' (show i' + 1 ≤ i from q); rw [Nat.add_mul] at this; omega
      ·exact q
     ·rcases Nat.lt_or_ge i' (i + m) with q | q
      ·exact q
      ·have := Nat.mul_le_mul_right s' q; omega
    ·rintro ⟨q1, q2⟩
     have a1 := Nat.mul_le_mul_right s' q1
     have a2 := Nat.mul_le_mul_right s' (show i' + 1 ≤ i + m from q2)
     rw [Nat.add_mul i' 1] at a2
     omega
   rw [hcg]
   by_cases q : i ≤ i' ∧ i' < i + m
   ·rw [if_pos (hiff.2 q), if_pos q]
    have e1 : i' * s' + j' - i * s' = j' + (i' - i) * s' := by rw [Nat.sub_mul]; have := Nat.mul_le_mul_right s' q.1; omega
    have a2 := (hiff.2 q).2
    rw [hvg _ (by have := Nat.mul_le_mul_right s' q.1; omega), e1, Nat.add_mul_mod_self_right, Nat.mod_eq_of_lt hj']
    have hlt : j' < z.cells.size := by omega
    exact ⟨_, J, hzv j' hj' _ _ _, by rw [getElem!_pos z.cells _ hlt]; exact List.all_eq_true.1 hzo _ (Array.getElem_mem_toList hlt)⟩
   ·rw [if_neg (fun q2 => q (hiff.1 q2)), if_neg q]
    exact g6 i' j' hi' hj'
end Go.Ax
namespace Go.Ax
variable [Pins]
open Go.RowKit
section
variable {ind : Bool} {P : Program} {fn : Func} {c : Ctx} {fr : Fr} {H : zM} {k : List It}
variable {d : Option Nat} {ty : TypeId} {pos : String} {after : Array Edge} {g : Option (Nat × Bool)}
theorem zCv {x : Operand} {t : TypeId} {u : TypeDesc} {h i j : Nat} {oty : TypeId} {n s : Nat} {f : Nat → Nat → AV} (ht : P.underlying t = some u) (hu : zA6 u = false) (hx : ev fr x = some (.ptr h i j)) (hh : H[h]? = some (some ⟨oty, .fn n s f⟩)) (hj : Nat.blt j s = true) (hi : i < n) :
 QOp false P fn c fr H ⟨d, .load t x, ty, pos, after, g⟩ (f i j) := zCu ht hu hx hh hj hi
end
end Go.Ax
namespace Go.Ax.Tb
open Go.Ax.Bg (zH9)
end Go.Ax.Tb
namespace Go.Ax
variable [Pins]
section
variable {P : Program} {fn : Func} {c : Ctx} {fr : Fr} {H : zM} {k : List It}
theorem zDD {x : Code} (h : Nat) (o : AObj) {ob : AObj} (c' : Cells) (hh : H[h]? = some (some ob)) (ho : o.c.len = 0) (h1 : c'.len = ob.c.len) (h2 : c'.kd = ob.c.kd)
 (h3 : ∀ i j, i < ob.c.len → j < ob.c.sz → c'.at i j = ob.c.at i j ∨ (ob.c.at i j = .nil ∧ c'.at i j = .sl H.length 0 0)) (hk : Ax P fn c (.code x k) fr ((H ++ [some o]).set h (some ⟨ob.ty, c'⟩))) : Ax P fn c (.code x k) fr H := by
 intro w a σ S hr
 have g1 := hr.nowhere1 ho
 have hlt : h < H.length := (List.getElem?_eq_some_iff.1 hh).1
 have hh' : (H ++ [some o])[h]? = some (some ob) := by rw [List.getElem?_append_left hlt]; exact hh
 refine hk w a _ S (g1.recell hh' h1 h2 (fun i j v hi hj hv => ?_))
 rcases h3 i j hi hj with e | ⟨e1, e2⟩
 ·rw [e]; exact hv
 ·rw [e1] at hv
  rw [e2]
  cases hv
  exact .sl0 _ _ (by simp [upσ])
end
end Go.Ax
namespace Go.Ax
variable [Pins]
open Go.RowKit
/-- Does operation j wait, at last, for operation i? -/
def needs (all : Array Oper) (idx : List Nat) : Nat → Nat → Nat → Bool
 | 0, _, _ => false
 | n + 1, j, i => match all[j]? with
  | some o => o.after.toList.any (fun e => Region.binds .any e && Nat.beq e.on i) || o.after.toList.any (fun e => Region.binds .any e && (idx.contains e.on && needs all idx n e.on i))
  | none => false
theorem zIb {cur : Array Bool} {i : Nat} (h : cur.getD i false = true) : cur.getD i true = true := by
 have _p := ‹Pins›
 unfold Array.getD at h ⊢
 split at h
 ·rename_i q
  rw [dif_pos q]; exact h
 ·cases h
theorem zHg {all : Array Oper} {idx : List Nat} {cur : Array Bool} (hcl : ∀ m' ∈ idx, cur.getD m' true = true → ∀ o, all[m']? = some o → ∀ e ∈ o.after, Region.binds .any e = true → cur.getD e.on false = true) :
 ∀ (n j i : Nat), needs all idx n j i = true → (∀ o, all[j]? = some o → ∀ e ∈ o.after, Region.binds .any e = true → cur.getD e.on false = true) → cur.getD i true = true
 | 0, _, _, h, _ => by cases h
 | n + 1, j, i, h, hd => by
  have _p := ‹Pins›
  rw [needs] at h
  split at h
  ·rename_i o ho
   rw [Bool.or_eq_true] at h
   rcases h with h | h
   ·obtain ⟨e, he1, he2⟩ := List.any_eq_true.1 h
    rw [Bool.and_eq_true] at he2
    have h3 := hd o ho e (Array.mem_toList_iff.1 he1) he2.1
    rw [Nat.eq_of_beq_eq_true he2.2] at h3
    exact zIb h3
   ·obtain ⟨e, he1, he2⟩ := List.any_eq_true.1 h
    simp only [Bool.and_eq_true] at he2
    have h3 := zIb (hd o ho e (Array.mem_toList_iff.1 he1) he2.1)
    have hm : e.on ∈ idx := by simpa using he2.2.1
    exact zHg hcl n e.on i he2.2.2 (hcl e.on hm h3)
  ·cases h
theorem zJ8 {cur : Array Bool} {i j : Nat} (h : cur.getD j false = true) : (cur.setIfInBounds i true).getD j false = true := by
 have _p := ‹Pins›
 simp only [Array.getD_eq_getD_getElem?, Array.getElem?_setIfInBounds] at h ⊢
 split
 ·split
  ·rfl
  ·rename_i h1 h2
   subst h1
   rw [Array.getElem?_eq_none (by omega)] at h
   cases h
 ·exact h
theorem zLX {all : Array Oper} {idx : List Nat} {cur : Array Bool} {i : Nat} (_hi : i ∈ idx) (hcl : ∀ m' ∈ idx, cur.getD m' true = true → ∀ o, all[m']? = some o → ∀ e ∈ o.after, Region.binds .any e = true → cur.getD e.on false = true)
 (hd : ∀ o, all[i]? = some o → ∀ e ∈ o.after, Region.binds .any e = true → cur.getD e.on false = true) :
 ∀ m' ∈ idx, (cur.setIfInBounds i true).getD m' true = true → ∀ o, all[m']? = some o → ∀ e ∈ o.after, Region.binds .any e = true → (cur.setIfInBounds i true).getD e.on false = true := by
 have _p := ‹Pins›
 intro m' hm' hu o ho e he hb
 by_cases h : m' = i
 ·subst h
  exact zJ8 (hd o ho e he hb)
 ·refine zJ8 (hcl m' hm' ?_ o ho e he hb)
  have h' : ¬ i = m' := fun q => h q.symm
  simpa [Array.getD_eq_getD_getElem?, Array.getElem?_setIfInBounds, h'] using hu
section
variable {P : Program} {fn : Func} {c : Ctx} {fr : Fr} {H : zM} {k : List It}
end
end Go.Ax
namespace Go.Ax
variable [Pins]
open Go.RowKit
theorem zCe {P : Program} {fn : Func} {c : Ctx} {H : zM} {all : Array Oper} {K0 : Fr} {i : Nat} {r : List Nat} {st : Steps} {G : Steps → Prop} {d : Nat} {g : Operand} {args : List Operand} {ats : Array TypeId} {ty : TypeId} {pos : String} {after : Array Edge} {f : FuncId} {caps ags ags' : List AV} {v : AV} {K : Fr} {j t : Nat} {p : Bool}
 (hi : all[i]? = some ⟨some d, .call { callee := .value g, args := args.toArray, argTypes := ats }, ty, pos, after, some (j, p)⟩)
 (hK : zEK st K0 ⟨some d, .call { callee := .value g, args := args.toArray, argTypes := ats }, ty, pos, after, some (j, p)⟩ = K) (hy : zC6 all j = some t) (hb : zAT t K = some (.bool p)) (hg : ev K g = some (.fn f caps)) (ha : evs K args = some ags) (has : ags ++ caps = ags') (hcall : zn P f ags' v)
 (h : zDC P fn c H all K0 r ((i, d, v) :: st) G) : zDC P fn c H all K0 (i :: r) st G :=
 ⟨_, _, _, hi, rfl, hK ▸ zIl hy hb (pure_v hg ha has hcall), h⟩
end Go.Ax
namespace Go.Ax
variable [Pins]
open Go.RowKit
/-- Does operation j wait, at last, for operation i? -/
def waitsU (all : Array Oper) (listed : Array Bool) (idx : List Nat) (j : Nat) : Bool := match all[j]? with
 | some o => o.after.toList.any (fun e => Region.binds .any e && (!idx.contains e.on && !listed.getD e.on true))
 | none => false
/-- May these operations run in any order, ahead of all others? -/
def okRunU (all : Array Oper) (listed : Array Bool) (idx : List Nat) (k0 : List Nat) : Bool :=
 (idx.all fun i => !listed.getD i true && (match all[i]? with
  | some o => (match o.dst with | some d => !k0.contains d | none => false) && o.after.toList.all (fun e => !Region.binds .any e || (Nat.blt e.on i && (idx.contains e.on || listed.getD e.on false)))
  | none => false)) &&
 ((List.range all.size).all fun j => idx.contains j || listed.getD j true || idx.all (fun i => needs all idx (idx.length + 1) j i) || waitsU all listed idx j) &&
 (idx.all fun i => idx.all fun j => Nat.beq i j || !(match all[i]?, all[j]? with | some o, some o' => o.dst == o'.dst | _, _ => false))
section
variable {P : Program} {fn : Func} {c : Ctx} {fr : Fr} {H : zM} {k : List It}
theorem zi {all : Array Oper} {fuel : Nat} {listed listed' : Array Bool} (idx : List Nat) (K0 : Fr) (hK : zAx fr K0) (hok : okRunU all listed idx (K0.map (·.1)) = true) (hnd : idx.Nodup) (hd : zCV fn.ntmps all.toList = true) (hl : zEp listed idx = listed')
 (h : zDC P fn c H all K0 idx [] (fun st => Ax P fn c (.any all fuel listed' k) (st.map (·.2) ++ K0) H)) : Ax P fn c (.any all (fuel + idx.length) listed k) fr H := by
 obtain ⟨st, hG, hidx, hst⟩ := zFT h (fun s hs => by simp at hs)
 rw [List.map_nil, List.append_nil] at hidx
 clear h
 unfold okRunU at hok
 simp only [Bool.and_eq_true] at hok
 obtain ⟨⟨ok1, ok2⟩, ok3⟩ := hok
 rw [List.all_eq_true] at ok1 ok2 ok3
 have hmem : ∀ i, i ∈ idx ↔ ∃ s ∈ st, s.1 = i := fun i => by
  have : i ∈ idx.reverse ↔ ∃ s ∈ st, s.1 = i := by rw [← hidx]; simp
  rw [← this, List.mem_reverse]
 have hlen : st.length = idx.length := by
  have := congrArg List.length hidx
  simpa using this
 have hnd' : (st.map (·.1)).Nodup := by rw [hidx]; exact (List.reverse_perm idx).nodup_iff.2 hnd
 have hlt : ∀ i ∈ idx, i < listed.size := fun i hi => by
  have := ok1 i hi
  simp only [Bool.and_eq_true, Bool.not_eq_true'] at this
  rcases Nat.lt_or_ge i listed.size with q | q
  ·exact q
  ·have h1 := this.1
   simp only [Array.getD, show ¬ i < listed.size by omega, dite_false] at h1
   cases h1
 -- the induction
 have key : ∀ (m : Nat) (cur : Array Bool) (fr : Fr), cur.size = listed.size → (∀ j, j ∉ idx → cur[j]? = listed[j]?) → unl cur st = m → (∀ s ∈ st, cur.getD s.1 true = true → zAT s.2.1 fr = some s.2.2) → zAx fr K0 → (∀ m' ∈ idx, cur.getD m' true = true → ∀ o, all[m']? = some o → ∀ e ∈ o.after, Region.binds .any e = true → cur.getD e.on false = true) → Ax P fn c (.any all (fuel + m) cur k) fr H := by
  intro m
  induction m with
  | zero =>
   intro cur fr hcs hco hcm hck hk0 hcl
   have hall : ∀ s ∈ st, cur.getD s.1 true = true := fun s hs => by
    cases hq : cur.getD s.1 true with
    | true => rfl
    | false =>
     exfalso
     have h0 : st.filter (fun s => !cur.getD s.1 true) = [] := List.length_eq_zero_iff.1 hcm
     have : s ∈ st.filter (fun s => !cur.getD s.1 true) := List.mem_filter.2 ⟨hs, by rw [hq]; rfl⟩
     rw [h0] at this; simp at this
   have hcur : cur = listed' := by
    rw [← hl]
    apply Array.ext_getElem?
    intro j
    rcases Nat.lt_or_ge j listed.size with q | q
    ·rw [zFa idx listed j q]
     by_cases hj : j ∈ idx
     ·rw [if_pos hj]
      obtain ⟨s, hs1, hs2⟩ := (hmem j).1 hj
      have := hall s hs1
      rw [hs2] at this
      simp only [Array.getD, show j < cur.size by omega, dite_true] at this
      rw [Array.getElem?_eq_getElem (by omega)]
      exact congrArg some this
     ·rw [if_neg hj]; exact hco j hj
    ·rw [Array.getElem?_eq_none (by omega), Array.getElem?_eq_none (by rw [zEq]; omega)]
   subst hcur
   intro w a σ S hr
   refine hG w a σ S (hr.weaken (zDK fun p hp => ?_))
   rcases List.mem_append.1 hp with q | q
   ·obtain ⟨s, q1, q2⟩ := List.mem_map.1 q
    rw [← q2]; exact hck s q1 (hall s q1)
   ·exact zDN hk0 p q
  | succ m ih =>
   intro cur fr hcs hco hcm hck hk0 hcl
   -- some step is left
   obtain ⟨s0, hs0, hs0u⟩ : ∃ s ∈ st, cur.getD s.1 true = false := by
    rcases hq : st.filter (fun s => !cur.getD s.1 true) with _ | ⟨s, r⟩
    ·unfold unl at hcm; rw [hq] at hcm; simp at hcm
    ·have : s ∈ st.filter (fun s => !cur.getD s.1 true) := by rw [hq]; simp
     obtain ⟨h1, h2⟩ := List.mem_filter.1 this
     exact ⟨s, h1, by simpa using h2⟩
   have hsub : ∀ i ∈ Region.ready .any all cur, i ∈ idx ∧ cur.getD i true = false := by
    intro i hi
    obtain ⟨h1, o, ho, hdeps⟩ := mem_ready.1 hi
    refine ⟨?_, h1⟩
    apply Classical.byContradiction
    intro hni
    have hjs : i < all.size := (Array.getElem?_eq_some_iff.1 ho).1
    have := ok2 i (List.mem_range.2 hjs)
    simp only [Bool.or_eq_true, ho] at this
    rcases this with ((q | q) | q) | q
    ·exact hni (by simpa using q)
    ·have hco' := hco i hni
     have h2 : listed.getD i true = cur.getD i true := by
      simp only [Array.getD_eq_getD_getElem?, hco']
     rw [h2, h1] at q; cases q
    ·rw [List.all_eq_true] at q
     have h3 := zHg hcl _ i s0.1 (q s0.1 ((hmem s0.1).2 ⟨s0, hs0, rfl⟩)) (fun o' ho' e he hb => by
      rw [ho] at ho'
      obtain rfl := Option.some.inj ho'
      exact hdeps e he hb)
     rw [h3] at hs0u; cases hs0u
    ·unfold waitsU at q
     rw [ho] at q
     obtain ⟨e, he1, he2⟩ := List.any_eq_true.1 q
     simp only [Bool.and_eq_true, Bool.not_eq_true'] at he2
     obtain ⟨hb, hne, hnl⟩ := he2
     have hni' : e.on ∉ idx := fun q => by
      have : idx.contains e.on = true := by simpa using q
      rw [this] at hne; cases hne
     have hd1 := hdeps e (Array.mem_toList_iff.1 he1) hb
     have hco' := hco e.on hni'
     rw [Array.getD_eq_getD_getElem?] at hd1 hnl
     rw [hco'] at hd1
     cases hx : listed[e.on]? with
     | none => rw [hx] at hd1; cases hd1
     | some b =>
      rw [hx] at hd1 hnl
      have e1 : b = true := hd1
      have e2 : b = false := hnl
      rw [e1] at e2; cases e2
   have hne : Region.ready .any all cur ≠ [] := by
    intro h0
    -- the least one that is left
    have hex : ∃ i, i ∈ idx ∧ cur.getD i true = false := ⟨s0.1, (hmem s0.1).2 ⟨s0, hs0, rfl⟩, hs0u⟩
    have least : ∀ n i, i ≤ n → i ∈ idx → cur.getD i true = false → False := by
     intro n
     induction n with
     | zero =>
      intro i hi him hiu
      have h1 := ok1 i him
      simp only [Bool.and_eq_true] at h1
      cases hoo : all[i]? with
      | none => rw [hoo] at h1; exact absurd h1.2 (by simp)
      | some o =>
       rw [hoo] at h1
       simp only [Bool.and_eq_true] at h1
       have h2 := List.all_eq_true.1 h1.2.2
       have : i ∈ Region.ready .any all cur := mem_ready.2 ⟨hiu, o, hoo, fun e he hb => by
        have := h2 e (Array.mem_toList_iff.2 he)
        rw [hb] at this
        simp only [Bool.not_true, Bool.false_or, Bool.and_eq_true] at this
        have := Nat.le_of_ble_eq_true this.1
        omega⟩
       rw [h0] at this; simp at this
     | succ n ihn =>
      intro i hi him hiu
      have h1 := ok1 i him
      simp only [Bool.and_eq_true] at h1
      cases hoo : all[i]? with
      | none => rw [hoo] at h1; exact absurd h1.2 (by simp)
      | some o =>
       rw [hoo] at h1
       simp only [Bool.and_eq_true] at h1
       have h2 := List.all_eq_true.1 h1.2.2
       have : i ∈ Region.ready .any all cur := mem_ready.2 ⟨hiu, o, hoo, fun e he hb => by
        have h3 := h2 e (Array.mem_toList_iff.2 he)
        rw [hb] at h3
        simp only [Bool.not_true, Bool.false_or, Bool.and_eq_true, Bool.or_eq_true] at h3
        have hlt' : e.on < i := Nat.le_of_ble_eq_true h3.1
        by_cases hei : e.on ∈ idx
        ·cases hq : cur.getD e.on true with
         | false => exact (ihn e.on (by omega) hei hq).elim
         | true =>
          have hsz := hlt e.on hei
          simp only [Array.getD, show e.on < cur.size by omega, dite_true] at hq ⊢
          exact hq
        ·rcases h3.2 with q | q
         ·exact absurd (by simpa using q) hei
         ·have h2 : cur.getD e.on false = listed.getD e.on false := by simp only [Array.getD_eq_getD_getElem?, hco e.on hei]
          rw [h2]; exact q⟩
       rw [h0] at this; simp at this
    obtain ⟨i, hi1, hi2⟩ := hex
    exact least i i (Nat.le_refl _) hi1 hi2
   refine zF J hne hd (zIu (fun i hi o ho => ?_))
   obtain ⟨him, hiu⟩ := hsub i hi
   obtain ⟨s, hs1, hs2⟩ := (hmem i).1 him
   obtain ⟨o', K, g1, g2, g3, g4⟩ := hst s hs1
   rw [hs2, ho] at g1
   obtain rfl := Option.some.inj g1
   obtain ⟨_, o2, ho2, hdeps⟩ := mem_ready.1 hi
   rw [ho] at ho2
   obtain rfl := Option.some.inj ho2
   refine g3 _ fr (zDK fun p hp => ?_) (zC (zS ?_))
   ·rcases g4 p hp with q | ⟨s', q1, ⟨e, q2, q3, q4⟩, q5⟩
    ·exact zDN hk0 p q
    ·have h1 := hdeps e q2 q3
     rw [q4] at h1
     rw [← q5]
     refine hck s' q1 ?_
     have hsz := hlt s'.1 ((hmem s'.1).2 ⟨s', q1, rfl⟩)
     simp only [Array.getD, show s'.1 < cur.size by omega, dite_true] at h1 ⊢
     exact h1
   ·have hisz := hlt i him
    refine ih (cur.setIfInBounds i true) _ (by simpa using hcs) (fun j hj => ?_) ?_ (fun s' hs' hu => ?_) ?_ (zLX him hcl (fun o' ho' e he hb => by rw [ho] at ho'; obtain rfl := Option.some.inj ho'; exact hdeps e he hb))
    ·rw [Array.getElem?_setIfInBounds_ne (show i ≠ j from fun e => hj (e ▸ him))]; exact hco j hj
    ·-- one less
     have hf : st.filter (fun s' => !(cur.setIfInBounds i true).getD s'.1 true) = (st.filter (fun s' => !cur.getD s'.1 true)).filter (fun s' => decide (s'.1 ≠ i)) := by
      rw [List.filter_filter]
      congr 1
      funext s'
      by_cases hq : s'.1 = i
      ·rw [hq]; simp [Array.getD, show i < cur.size by omega]
      ·have hq' : ¬ i = s'.1 := fun e => hq e.symm
       simp [Array.getD_eq_getD_getElem?, Array.getElem?_setIfInBounds, hq, hq']
     unfold unl at hcm ⊢
     rw [hf]
     have hmemf : s ∈ st.filter (fun s' => !cur.getD s'.1 true) := List.mem_filter.2 ⟨hs1, by rw [hs2, hiu]; rfl⟩
     have hndf : ((st.filter (fun s' => !cur.getD s'.1 true)).map (·.1)).Nodup := List.Nodup.sublist (List.Sublist.map _ List.filter_sublist) hnd'
     revert hcm hmemf hndf
     generalize st.filter (fun s' => !cur.getD s'.1 true) = L
     intro hcm hmemf hndf
     have gen : ∀ (L : Steps) (n : Nat), L.length = n + 1 → s ∈ L → (L.map (·.1)).Nodup → (L.filter (fun s' => decide (s'.1 ≠ i))).length = n := by
      intro L
      induction L with
      | nil => intro n h; simp at h
      | cons x r ihL =>
       intro n hn hm hnd
       simp only [List.map_cons, List.nodup_cons] at hnd
       rcases List.mem_cons.1 hm with rfl | hm
       ·have hno : ∀ y ∈ r, y.1 ≠ i := fun y hy e => hnd.1 (List.mem_map.2 ⟨y, hy, by rw [e, hs2]⟩)
        have : (r.filter (fun s' => decide (s'.1 ≠ i))) = r := List.filter_eq_self.2 (fun y hy => by simpa using hno y hy)
        rw [List.filter_cons_of_neg (by simp [hs2]), this]
        simpa using hn
       ·have hx : x.1 ≠ i := fun e => hnd.1 (List.mem_map.2 ⟨s, hm, by rw [hs2, e]⟩)
        have hr0 : 0 < r.length := List.length_pos_iff.2 (by rintro rfl; simp at hm)
        obtain ⟨n', rfl⟩ : ∃ n', n = n' + 1 := ⟨n - 1, by simp at hn; omega⟩
        rw [List.filter_cons_of_pos (by simpa using hx), List.length_cons, ihL n' (by simpa using hn) hm hnd.2]
     exact gen L m hcm hmemf hndf
    ·by_cases hq : s'.1 = i
     ·have : s' = s := by
       have h1 : s ∈ st := hs1
       have hinj : ∀ (L : Steps), (L.map (·.1)).Nodup → ∀ x ∈ L, ∀ y ∈ L, x.1 = y.1 → x = y := by
        intro L
        induction L with
        | nil => intro _ x hx; simp at hx
        | cons z r ihL =>
         intro hnd x hx y hy hxy
         simp only [List.map_cons, List.nodup_cons] at hnd
         rcases List.mem_cons.1 hx with hx | hx <;> rcases List.mem_cons.1 hy with hy | hy
         ·rw [hx, hy]
         ·exact absurd (List.mem_map.2 ⟨y, hy, by rw [← hxy, hx]⟩) hnd.1
         ·exact absurd (List.mem_map.2 ⟨x, hx, by rw [hxy, hy]⟩) hnd.1
         ·exact ihL hnd.2 x hx y hy hxy
       exact hinj st hnd' s' hs' s hs1 (by rw [hq, hs2])
      rw [this]
      exact zI7 _ _ _
     ·have h1 : cur.getD s'.1 true = true := by
       have hq' : ¬ i = s'.1 := fun e => hq e.symm
       simpa [Array.getD_eq_getD_getElem?, Array.getElem?_setIfInBounds, hq'] using hu
      have h2 := hck s' hs' h1
      -- another slot
      have hne2 : s'.2.1 ≠ s.2.1 := by
       intro e
       obtain ⟨o3, _, f1, f2, _, _⟩ := hst s' hs'
       have h3 := List.all_eq_true.1 (ok3 s'.1 ((hmem s'.1).2 ⟨s', hs', rfl⟩)) i him
       rw [f1, ho] at h3
       simp only [Bool.or_eq_true, Bool.not_eq_true', f2, g2] at h3
       rcases h3 with h3 | h3
       ·exact hq (Nat.eq_of_beq_eq_true h3)
       ·rw [e] at h3; simp at h3
      show (bif Nat.beq s'.2.1 s.2.1 then some s.2.2 else zAT s'.2.1 fr) = _
      rw [zBJ hne2]; exact h2
    ·refine zDK fun p hp => ?_
     have h1 := ok1 i him
     simp only [Bool.and_eq_true] at h1
     rw [ho] at h1
     simp only [g2, Bool.and_eq_true, Bool.not_eq_true'] at h1
     have hne3 : p.1 ≠ s.2.1 := by
      intro e
      have : (K0.map (·.1)).contains s.2.1 = true := by
       rw [List.contains_iff_mem]
       exact List.mem_map.2 ⟨p, hp, e⟩
      rw [h1.2.1] at this; cases this
     show (bif Nat.beq p.1 s.2.1 then some s.2.2 else zAT p.1 fr) = _
     rw [zBJ hne3]; exact zDN hk0 p hp
 have hm0 : unl listed st = idx.length := by
  unfold unl
  rw [List.filter_eq_self.2 (fun s hs => ?_), hlen]
  have := ok1 s.1 ((hmem s.1).2 ⟨s, hs, rfl⟩)
  simp only [Bool.and_eq_true] at this
  exact this.1
 have := key idx.length listed fr rfl (fun _ _ => rfl) hm0 (fun s hs hu => by
  have h1 := ok1 s.1 ((hmem s.1).2 ⟨s, hs, rfl⟩)
  simp only [Bool.and_eq_true, Bool.not_eq_true'] at h1
  rw [h1.1] at hu; cases hu) hK (fun m' hm' hu => by
  have h1 := ok1 m' hm'
  simp only [Bool.and_eq_true, Bool.not_eq_true'] at h1
  rw [h1.1] at hu; cases hu)
 exact this
end
end Go.Ax
namespace Go.Ax
variable [Pins]
open Go.RowKit
section
variable {ind : Bool} {P : Program} {fn : Func} {c : Ctx} {fr : Fr} {H : zM} {k : List It}
variable {d : Option Nat} {ty : TypeId} {pos : String} {after : Array Edge} {g : Option (Nat × Bool)}
theorem zL3 {x ix : Operand} {t e : TypeId} {u : TypeDesc} {inf : TypeInfo} {n : Nat} {L L' : List AV} {kk : IntKind} {m : Int} (ht : P.underlying t = some (.array n e)) (hi : P.info? e = some inf) (hu : P.underlying e = some u) (hua : zA6 u = true) (hx : ev fr x = some (.agg L)) (hix : ev fr ix = some (.int kk m))
 (hv : (L.drop (m.toNat * inf.size)).take inf.size = L') (hb : 0 ≤ m ∧ m < n ∧ m.toNat * inf.size + inf.size ≤ L.length) : QOp ind P fn c fr H ⟨d, .index t x ix, ty, pos, after, g⟩ (.agg L') := by
 intro w a σ S hr
 have h1 := hr.evAt hx
 have h2 := hr.evInt hix
 subst hv
 generalize hz : a.eval x = z at h1
 cases h1 with
 | agg _ _ vs hl hv h1' =>
  have hsz : (vs.extract (m.toNat * inf.size) (m.toNat * inf.size + inf.size)).size = inf.size := by simp; omega
  have hlen : ((L.drop (m.toNat * inf.size)).take inf.size).length = inf.size := by simp; omega
  have hget : ∀ i, i < inf.size → (vs.extract (m.toNat * inf.size) (m.toNat * inf.size + inf.size)).getD i undef = vs.getD (m.toNat * inf.size + i) undef := by
   intro i hi'
   have h3 : m.toNat * inf.size + i < vs.size := by omega
   have h4 : i < (vs.extract (m.toNat * inf.size) (m.toNat * inf.size + inf.size)).size := by omega
   simp only [Array.getD, h3, h4, dite_true, Array.getInternal_eq_getElem, Array.getElem_extract]
  refine ⟨.agg (vs.extract (m.toNat * inf.size) (m.toNat * inf.size + inf.size)), .agg _ _ _ (by rw [hsz, hlen]) (fun i hi' => ?_) (fun i hi' => ?_), fun w' _ => ?_⟩
  ·rw [hlen] at hi'
   rw [hget i hi']
   have e : ((L.drop (m.toNat * inf.size)).take inf.size).getD i .any = L.getD (m.toNat * inf.size + i) .any := by
    simp only [List.getD, List.getElem?_take, if_pos hi', List.getElem?_drop]
   rw [e]
   exact hv _ (by omega)
  ·rw [hlen] at hi'
   rw [hget i hi']
   exact h1' _ (by omega)
  ·simp [execOp, hz, h2, Instr.index, asIntOf, run_underlying ht, hb.1, hb.2.1, sizeOf, typeInfo, hi, part, zB0 hu, hua]
end
theorem zKz {l l' : List AV} (h : AEqs l l') : AEq (.agg l) (.agg l') := by
 intro w S σ v hv
 have hl := h.length
 cases hv with
 | agg _ _ vs h1 h2 h3 => exact .agg _ _ _ (h1.trans hl) (fun i hi => h.get i (by omega) _ _ _ _ (h2 i (by omega))) (fun i hi => h3 i (by omega))
end Go.Ax
namespace Go.Ax
variable [Pins]
open Go.RowKit
section
variable {P : Program} {fn : Func} {c : Ctx} {fr : Fr} {H : zM} {k : List It}
end
theorem zFE {fr K : Fr} (h : zAx fr K) : ∀ {xs : List (Nat × Operand)} {l : List (Nat × AV)}, zBm K xs = some l → zBm fr xs = some l
 | [], l, he => he
 | (n, x) :: r, l, he => by
  simp only [zBm] at he ⊢
  split at he
  ·rename_i v hv
   split at he
   ·rename_i q hq
    rw [zFs h hv, zFE h hq]
    exact he
   ·cases he
  ·cases he
/-- a slice of plain values is built without a zAT at the memory -/
theorem px_b {P : Program} {fn : Func} {c : Ctx} {H : zM} {all : Array Oper} {K0 : Fr} {i : Nat} {r : List Nat} {st : Go.Ax.Steps} {G : Go.Ax.Steps → Prop} {d : Nat} {t e : TypeId} {n : Nat} {parts : List (Nat × Operand)} {ty : TypeId} {pos : String} {after : Array Edge} {it : TypeInfo} {z : Value} {zs L : List AV} {l : List (Nat × AV)} {cl : Cells} {K : Fr}
 (hi : all[i]? = some ⟨some d, .buildSlice t n parts.toArray, ty, pos, after, none⟩) (hK : zEK st K0 ⟨some d, .buildSlice t n parts.toArray, ty, pos, after, none⟩ = K)
 (ht : P.underlying t = some (.slice e)) (hinf : P.info? e = some it) (hz : it.zero = some z) (hzs : zav z = some zs) (hsz : it.size = zs.length) (hpos : Nat.blt 0 zs.length = true) (hsmall : Nat.ble (n * zs.length) 16777216 = true)
 (hl : zBm K parts = some l) (hf : zDq (fun i => some (i * zs.length, zs.length)) (zCT zs n) l = some L) (hcl : zGp n zs.length L = cl) (hn : noRef.noRefs L = true)
 (h : zDC P fn c H all K0 r ((i, d, .ro cl 0 n) :: st) G) : zDC P fn c H all K0 (i :: r) st G :=
 zG1 hi (hK ▸ fun k fr hk h2 => z7 ht hinf hz hzs hsz hpos hsmall (zFE hk hl) hf hcl hn h2) h
end Go.Ax
namespace Go.Ax.Gm
open Go.Ax Go.RowKit
variable [Pins]
/-- The last object, a box, is only read from now on; some objects are fixed. -/
theorem zET {P : Program} {fn : Func} {c : Ctx} {fr : Fr} {k : List It} {x : Code} {ty : TypeId} {l : List AV} (H0 : zM) (t : Nat) (L : Fr) (hn : noRef.noRefs l = true) (ht : zAT t fr = some (.ptr H0.length 0 0)) (hk1 : zAx fr L) (hk2 : zAx ((t, .rp (.box l) 0 0) :: L) ((t, .rp (.box l) 0 0) :: L))
 (hH : ∀ (h : Nat) (o : AObj), H0[h]? = some (some o) → zAq H0.length o.c) (hb : zBZ H0.length L = true) (hfx : ∀ h, c.fix h → h < H0.length)
 (hk : Ax P fn c (.code x k) ((t, .rp (.box l) 0 0) :: L) H0) : Ax P fn c (.code x k) fr (H0 ++ [some ⟨ty, .box l⟩]) := by
 have hat : ∀ (h : Nat) (o : AObj), (List.replicate H0.length none ++ [some (⟨ty, .box l⟩ : AObj)] : zM)[h]? = some (some o) → h = H0.length ∧ o = ⟨ty, .box l⟩ := fun h o ho => by
  rcases Nat.lt_or_ge h H0.length with q | q
  ·rw [List.getElem?_append_left (by rw [List.length_replicate]; exact q), List.getElem?_replicate, if_pos q] at ho; cases ho
  ·rw [List.getElem?_append_right (by rw [List.length_replicate]; exact q), List.length_replicate] at ho
   cases e : h - H0.length with
   | zero => rw [e] at ho; cases ho; exact ⟨by omega, rfl⟩
   | succ n => rw [e] at ho; simp at ho
 refine zAt (List.replicate H0.length none ++ [some ⟨ty, .box l⟩]) (H0 ++ [none]) ((t, .rp (.box l) 0 0) :: L) (fun h o ho => ?_) (fun h o ho => ?_) (by simp) (fun h o' ho' => ?_) ⟨⟨.ptr H0.length 0 0, ht, .inr (.inr ⟨?_, ?_⟩)⟩, zBr hk1⟩ ?_
 ·obtain ⟨rfl, rfl⟩ := hat h o ho
  rw [List.getElem?_append_right (Nat.le_refl _), Nat.sub_self]; rfl
 ·obtain ⟨rfl, rfl⟩ := hat h o ho
  exact zt hn
 ·rcases Nat.lt_or_ge h H0.length with q | q
  ·rw [List.getElem?_append_left q] at ho'
   refine ⟨fun o ho => ?_, o', by rw [List.getElem?_append_left q]; exact ho', J, J, J, fun _ _ _ _ => .inl J⟩
   have := (hat h o ho).1; omega
  ·rw [List.getElem?_append_right q] at ho'
   cases e : h - H0.length with
   | zero => rw [e] at ho'; cases ho'
   | succ n => rw [e] at ho'; simp at ho'
 ·have e : (List.replicate H0.length none ++ [some (⟨ty, .box l⟩ : AObj)] : zM)[H0.length]? = some (some ⟨ty, .box l⟩) := by
   rw [List.getElem?_append_right (by rw [List.length_replicate]; exact Nat.le_refl _), List.length_replicate, Nat.sub_self]; rfl
  show AV.rp (.box l) 0 0 = AV.frz _ (.ptr H0.length 0 0)
  simp only [AV.frz, e]
 ·intro o ho
  obtain ⟨_, rfl⟩ := hat _ o ho
  exact Nat.zero_lt_one
 exact zCS H0 [none] ((t, .rp (.box l) 0 0) :: L) J hk2 hfx hH (by simp only [zBZ, Bool.and_eq_true]; exact ⟨J, hb⟩) hk
/-- .. its place stays. -/
theorem ax_fzN {P : Program} {fn : Func} {c : Ctx} {fr : Fr} {k : List It} {x : Code} {ty : TypeId} {l : List AV} (H0 : zM) (t : Nat) (L : Fr) (hn : noRef.noRefs l = true) (ht : zAT t fr = some (.ptr H0.length 0 0)) (hk1 : zAx fr L)
 (hk : Ax P fn c (.code x k) ((t, .rp (.box l) 0 0) :: L) (H0 ++ [none])) : Ax P fn c (.code x k) fr (H0 ++ [some ⟨ty, .box l⟩]) := by
 have hat : ∀ (h : Nat) (o : AObj), (List.replicate H0.length none ++ [some (⟨ty, .box l⟩ : AObj)] : zM)[h]? = some (some o) → h = H0.length ∧ o = ⟨ty, .box l⟩ := fun h o ho => by
  rcases Nat.lt_or_ge h H0.length with q | q
  ·rw [List.getElem?_append_left (by rw [List.length_replicate]; exact q), List.getElem?_replicate, if_pos q] at ho; cases ho
  ·rw [List.getElem?_append_right (by rw [List.length_replicate]; exact q), List.length_replicate] at ho
   cases e : h - H0.length with
   | zero => rw [e] at ho; cases ho; exact ⟨by omega, rfl⟩
   | succ n => rw [e] at ho; simp at ho
 refine zAt (List.replicate H0.length none ++ [some ⟨ty, .box l⟩]) (H0 ++ [none]) ((t, .rp (.box l) 0 0) :: L) (fun h o ho => ?_) (fun h o ho => ?_) (by simp) (fun h o' ho' => ?_) ⟨⟨.ptr H0.length 0 0, ht, .inr (.inr ⟨?_, ?_⟩)⟩, zBr hk1⟩ ?_
 ·obtain ⟨rfl, rfl⟩ := hat h o ho
  rw [List.getElem?_append_right (Nat.le_refl _), Nat.sub_self]; rfl
 ·obtain ⟨rfl, rfl⟩ := hat h o ho
  exact zt hn
 ·rcases Nat.lt_or_ge h H0.length with q | q
  ·rw [List.getElem?_append_left q] at ho'
   refine ⟨fun o ho => ?_, o', by rw [List.getElem?_append_left q]; exact ho', J, J, J, fun _ _ _ _ => .inl J⟩
   have := (hat h o ho).1; omega
  ·rw [List.getElem?_append_right q] at ho'
   cases e : h - H0.length with
   | zero => rw [e] at ho'; cases ho'
   | succ n => rw [e] at ho'; simp at ho'
 ·have e : (List.replicate H0.length none ++ [some (⟨ty, .box l⟩ : AObj)] : zM)[H0.length]? = some (some ⟨ty, .box l⟩) := by
   rw [List.getElem?_append_right (by rw [List.length_replicate]; exact Nat.le_refl _), List.length_replicate, Nat.sub_self]; rfl
  show AV.rp (.box l) 0 0 = AV.frz _ (.ptr H0.length 0 0)
  simp only [AV.frz, e]
 ·intro o ho
  obtain ⟨_, rfl⟩ := hat _ o ho
  exact Nat.zero_lt_one
 exact hk
theorem beqF {a b : Nat} (h : a ≠ b) : Nat.beq a b = false := by
 have _p := ‹Pins›
 cases e : Nat.beq a b with
 | false => rfl
 | true => exact absurd (Nat.eq_of_beq_eq_true e) h
/-- One cell of a row of structs is written. -/
theorem zIN {P : Program} {fn : Func} {c : Ctx} {fr : Fr} {H : zM} {k : List It} {α : Type} {d0 : α} {n0 : Nat} {e0 : α → List AV} {ls : List α} (b : α) {all : Array Oper} {t : TypeId} {x y : Operand} {ty : TypeId} {pos : String} {after : Array Edge} {rest : List Oper} {h i j : Nat} {ty' : TypeId} {v : AV}
 (hx : ev fr x = some (.ptr h i j)) (hy : ev fr y = some v) (hone : v.one = true) (hs : (P.info? t).map (·.size) = some 1) (hh : H[h]? = some (some ⟨ty', zCP d0 n0 e0 ls⟩)) (hj : Nat.blt j n0 = true) (hi : i < ls.length)
 (he : ∀ j', j' < n0 → (e0 b).getD j' .any = if j' = j then v else (e0 (ls.getD i d0)).getD j' .any)
 (hk : Ax P fn c (.ops false all rest k) fr (H.set h (some ⟨ty', zCP d0 n0 e0 (ls.set i b)⟩))) : Ax P fn c (.ops false all (⟨none, .store t x y, ty, pos, after, none⟩ :: rest) k) fr H := by
 refine z8 (ob := ⟨ty', zCP d0 n0 e0 ls⟩) hx hy hone hs hh hj J hi ?_
 refine zA0 _ (zAs.set1 (b := zCP d0 n0 e0 (ls.set i b)) H h ⟨by simp [zCP, Cells.len], J, fun i' j' hi' hj' => ?_⟩) hk
 have hj' : j' < n0 := hj'
 have hi' : i' < ls.length := by first | exact hi' | (have h2 : i' < (ls.set i b).length := hi'; rwa [List.length_set] at h2)
 show (e0 ((ls.set i b).getD i' d0)).getD j' .any = bif Nat.beq i' i && Nat.beq j' j then v else (e0 (ls.getD i' d0)).getD j' .any
 by_cases q : i' = i
 ·subst q
  have e1 : (ls.set i' b).getD i' d0 = b := by rw [List.getD, List.getElem?_set_self hi']; rfl
  rw [e1, he j' hj', Nat.beq_refl, Bool.true_and]
  by_cases q2 : j' = j
  ·subst q2; rw [if_pos rfl, Nat.beq_refl]; rfl
  ·rw [if_neg q2, show Nat.beq j' j = false from beqF q2]; rfl
 ·have e1 : (ls.set i b).getD i' d0 = ls.getD i' d0 := by simp [List.getD, List.getElem?_set_ne (Ne.symm q)]
  rw [e1, show Nat.beq i' i = false from beqF q, Bool.false_and]; rfl
/-- A struct of a row of structs is written. -/
theorem zKO {P : Program} {fn : Func} {c : Ctx} {fr : Fr} {H : zM} {k : List It} {α : Type} {d0 : α} {n0 : Nat} {e0 : α → List AV} {ls : List α} (b : α) {all : Array Oper} {t : TypeId} {x y : Operand} {ty : TypeId} {pos : String} {after : Array Edge} {rest : List Oper} {h i : Nat} {ty' : TypeId} {L : List AV}
 (hx : ev fr x = some (.ptr h i 0)) (hy : ev fr y = some (.agg L)) (hs : (P.info? t).map (·.size) = some n0) (hh : H[h]? = some (some ⟨ty', zCP d0 n0 e0 ls⟩)) (hl : L.length = n0) (hi : i < ls.length) (hz : n0 ≠ 0) (he : ∀ j', j' < n0 → (e0 b).getD j' .any = L.getD j' .any)
 (hk : Ax P fn c (.ops false all rest k) fr (H.set h (some ⟨ty', zCP d0 n0 e0 (ls.set i b)⟩))) : Ax P fn c (.ops false all (⟨none, .store t x y, ty, pos, after, none⟩ :: rest) k) fr H := by
 refine zEV (c' := zCP d0 n0 e0 (ls.set i b)) (ob := ⟨ty', zCP d0 n0 e0 ls⟩) hx hy hs hh hl hi (by simp [zCP, Cells.len]) J (fun i' j' hi' hj' => ?_) hk hz
 have hj' : j' < n0 := hj'
 have hi' : i' < ls.length := by first | exact hi' | (have h2 : i' < (ls.set i b).length := hi'; rwa [List.length_set] at h2)
 show (e0 ((ls.set i b).getD i' d0)).getD j' .any = _
 by_cases q : i' = i
 ·subst q
  rw [if_pos rfl, show (ls.set i' b).getD i' d0 = b by rw [List.getD, List.getElem?_set_self hi']; rfl]
  exact he j' hj'
 ·rw [if_neg q, show (ls.set i b).getD i' d0 = ls.getD i' d0 by simp [List.getD, List.getElem?_set_ne (Ne.symm q)]]
  rfl
end Go.Ax.Gm
namespace Go.Ax.Gm
def zCF (v : Nat → Ent) (f : List Nat) (E : List Ent) : List Ent := f.foldl (fun A i => A.set i (v i)) E
theorem zCw (v : Nat → Ent) : ∀ (f : List Nat) (E : List Ent), (zCF v f E).length = E.length
 | [], _ => rfl
 | i :: f, E => by
  show (zCF v f (E.set i (v i))).length = _
  rw [zCw v f, List.length_set]
theorem zJK (v : Nat → Ent) (f : List Nat) (i : Nat) (E : List Ent) : zCF v (f ++ [i]) E = (zCF v f E).set i (v i) := by
 unfold zCF; rw [List.foldl_append]; rfl
theorem zGq (v : Nat → Ent) : ∀ (f : List Nat) (E : List Ent) (j : Nat), j < E.length → (zCF v f E).getD j (0, 0) = if j ∈ f then v j else E.getD j (0, 0)
 | [], E, j, hj => by rw [if_neg (by simp)]; rfl
 | i :: f, E, j, hj => by
  show (zCF v f (E.set i (v i))).getD j (0, 0) = _
  rw [zGq v f _ j (by rw [List.length_set]; exact hj)]
  by_cases h : j ∈ f
  ·rw [if_pos h, if_pos (List.mem_cons_of_mem _ h)]
  ·rw [if_neg h]
   by_cases h2 : j = i
   ·subst h2
    rw [if_pos (List.mem_cons_self ..), List.getD, List.getElem?_set_self hj]; rfl
   ·rw [if_neg (by simp [h, h2]), List.getD, List.getElem?_set_ne (Ne.symm h2)]; rfl
theorem zLq {A B : List Ent} (hl : A.length = B.length) (h : ∀ j, j < A.length → A.getD j (0, 0) = B.getD j (0, 0)) : A = B := by
 apply List.ext_getElem hl
 intro j h1 h2
 have := h j h1
 rw [List.getD, List.getElem?_eq_getElem h1, List.getD, List.getElem?_eq_getElem h2] at this
 exact this
theorem zJL {l : List Pos} {nx : List (List Nat)} {E : List Ent} {n : Nat} (hE : E.length = l.length) : zCF (fun i => (zCm l nx E i, (n : Int))) (zAh l nx E) E = zC5 l nx n E := by
 have hs : (zC5 l nx n E).length = l.length := by unfold zC5; rw [List.length_map, List.length_range]
 refine zLq (by rw [zCw, hs, hE]) (fun j hj => ?_)
 rw [zCw, hE] at hj
 rw [zGq _ _ _ _ (by omega)]
 have e : (zC5 l nx n E).getD j (0, 0) = if zBb l nx E j = true then (zCm l nx E j, (n : Int)) else E.getD j (0, 0) := by
  unfold zC5
  rw [List.getD, List.getElem?_map, List.getElem?_range hj]; rfl
 rw [e]
 unfold zAh
 by_cases h : zBb l nx E j = true
 ·rw [if_pos h, if_pos (List.mem_filter.2 ⟨List.mem_range.2 hj, h⟩)]
 ·rw [if_neg h, if_neg (fun q => h (List.mem_filter.1 q).2)]
/-- the first entries, those up to i -/
def zCb (r : Rules) (l : List Pos) (k : Nat) : List Ent := zAE r (l.take k) ++ List.replicate (l.length - k) (0, 0)
theorem zKD (r : Rules) (l : List Pos) : zCb r l 0 = List.replicate l.length (0, 0) := by unfold zCb zAE; simp
theorem zGs (r : Rules) (l : List Pos) : zCb r l l.length = zAE r l := by unfold zCb; rw [List.take_length, Nat.sub_self]; simp
theorem zHy (r : Rules) {l : List Pos} {k : Nat} (h : k ≤ l.length) : (zCb r l k).length = l.length := by
 unfold zCb zAE; rw [List.length_append, List.length_map, List.length_take, List.length_replicate]; omega
theorem zMG (r : Rules) {l : List Pos} {k : Nat} (h : k < l.length) : (zCb r l k).getD k (0, 0) = (0, 0) := by
 unfold zCb zAE
 rw [List.getD, List.getElem?_append_right (by rw [List.length_map, List.length_take]; omega), List.getElem?_replicate]
 split <;> rfl
theorem zKC (r : Rules) {l : List Pos} {k : Nat} (h : k < l.length) : zCb r l (k + 1) = (zCb r l k).set k (zAr r (l.getD k zz), 0) := by
 have hl : (zAE r (l.take k)).length = k := by unfold zAE; rw [List.length_map, List.length_take]; omega
 unfold zCb
 rw [List.set_append_right _ _ (by omega), hl, Nat.sub_self, show l.length - k = (l.length - (k + 1)) + 1 by omega, List.replicate_succ, List.set_cons_zero]
 unfold zAE
 rw [List.take_succ_eq_append_getElem h, List.map_append, List.append_assoc]
 simp [List.getD, h]
theorem zJQ {l : List Pos} {nx : List (List Nat)} {E : List Ent} {i : Nat} : ((nx.getD i []).map Int.ofNat).any (fun x => decide ((E.getD x.toNat (0, 0)).1 = 1 + zAW l i)) = zIs l nx E i := by
 rw [List.any_map]; rfl
theorem zLU {l : List Pos} {nx : List (List Nat)} {E : List Ent} {i : Nat} : (!((nx.getD i []).map Int.ofNat).any (fun x => decide ((E.getD x.toNat (0, 0)).1 ≠ 2 - zAW l i))) = zHa l nx E i := by
 rw [List.any_map, List.not_any_eq_all_not]
 unfold zHa zCf
 congr 1
 funext k
 show (!decide ((E.getD k (0, 0)).1 ≠ 2 - zAW l i)) = decide ((E.getD k (0, 0)).1 = 1 + 1 - zAW l i)
 rw [show (2 : Int) = 1 + 1 by rfl]
 by_cases h : (E.getD k (0, 0)).1 = 1 + 1 - zAW l i
 ·rw [decide_eq_true h, decide_eq_false (fun q => q h)]; rfl
 ·rw [decide_eq_false h, decide_eq_true h]; rfl
def zAv (l : List Pos) (nx : List (List Nat)) (E : List Ent) (k : Nat) : List Nat := (List.range k).filter (zBb l nx E)
theorem zJm (l : List Pos) (nx : List (List Nat)) (E : List Ent) (k : Nat) : zAv l nx E (k + 1) = if zBb l nx E k = true then zAv l nx E k ++ [k] else zAv l nx E k := by
 unfold zAv
 rw [List.range_succ, List.filter_append]
 by_cases h : zBb l nx E k = true
 ·rw [if_pos h, List.filter_cons_of_pos h]; rfl
 ·rw [if_neg h, List.filter_cons_of_neg h]; simp
theorem zHO (l : List Pos) (nx : List (List Nat)) (E : List Ent) (k : Nat) : (zAv l nx E k).length ≤ k := by
 unfold zAv
 exact Nat.le_trans (List.length_filter_le ..) (by rw [List.length_range]; exact Nat.le_refl _)
theorem zLi {l : List Pos} {nx : List (List Nat)} {E : List Ent} {k i : Nat} (h : i ∈ zAv l nx E k) : i < k := List.mem_range.1 (List.mem_filter.1 h).1
/-- the results of those that were found -/
def zEO (l : List Pos) (nx : List (List Nat)) (E : List Ent) (f : List Nat) (k : Nat) : List Int := (f.take k).map (zCm l nx E) ++ List.replicate (f.length - k) 0
theorem resK_len {l : List Pos} {nx : List (List Nat)} {E : List Ent} {f : List Nat} {k : Nat} (h : k ≤ f.length) : (zEO l nx E f k).length = f.length := by
 unfold zEO; rw [List.length_append, List.length_map, List.length_take, List.length_replicate]; omega
theorem zL6 {l : List Pos} {nx : List (List Nat)} {E : List Ent} {f : List Nat} {k : Nat} (h : k < f.length) : zEO l nx E f (k + 1) = (zEO l nx E f k).set k (zCm l nx E (f.getD k 0)) := by
 have hl : ((f.take k).map (zCm l nx E)).length = k := by rw [List.length_map, List.length_take]; omega
 unfold zEO
 rw [List.set_append_right _ _ (by omega), hl, Nat.sub_self, show f.length - k = (f.length - (k + 1)) + 1 by omega, List.replicate_succ, List.set_cons_zero, List.take_succ_eq_append_getElem h, List.map_append, List.append_assoc]
 simp [List.getD, h]
theorem zL5 {l : List Pos} {nx : List (List Nat)} {E : List Ent} {f : List Nat} {k : Nat} (h : k < f.length) : (zEO l nx E f f.length).getD k 0 = zCm l nx E (f.getD k 0) := by
 unfold zEO
 rw [List.take_length, Nat.sub_self]
 simp [List.getD, h]
/-- the entries after closing the first k -/
def zBq (E : List Ent) (k : Nat) : List Ent := zBa (E.take k) ++ E.drop k
theorem zJd (E : List Ent) : zBq E 0 = E := by unfold zBq zBa; simp
theorem zJb (E : List Ent) : zBq E E.length = zBa E := by unfold zBq; rw [List.take_length, List.drop_length, List.append_nil]
theorem zHH (E : List Ent) (k : Nat) : (zBq E k).length = E.length := by
 unfold zBq zBa; rw [List.length_append, List.length_map, List.length_take, List.length_drop]; omega
theorem zLY {E : List Ent} {k : Nat} (h : k < E.length) : (zBq E k).getD k (0, 0) = E.getD k (0, 0) := by
 unfold zBq zBa
 rw [List.getD, List.getElem?_append_right (by rw [List.length_map, List.length_take]; omega), List.length_map, List.length_take, List.getElem?_drop, List.getD]
 congr 2; omega
theorem zJc {E : List Ent} {k : Nat} (h : k < E.length) : zBq E (k + 1) = if (E.getD k (0, 0)).1 = 0 then (zBq E k).set k (3, (E.getD k (0, 0)).2) else zBq E k := by
 have hl : (zBa (E.take k)).length = k := by unfold zBa; rw [List.length_map, List.length_take]; omega
 have hd : E.drop k = E.getD k (0, 0) :: E.drop (k + 1) := by rw [List.drop_eq_getElem_cons h]; simp [List.getD, h]
 have ht : zBa (E.take (k + 1)) = zBa (E.take k) ++ [if (E.getD k (0, 0)).1 = 0 then (3, (E.getD k (0, 0)).2) else E.getD k (0, 0)] := by
  unfold zBa
  rw [List.take_succ_eq_append_getElem h, List.map_append]; simp [List.getD, h]
 unfold zBq
 rw [ht, hd, List.append_assoc]
 split
 ·rw [List.set_append_right _ _ (by omega), hl, Nat.sub_self, List.set_cons_zero]; rfl
 ·rfl
def zEi (r : Rules) : Option (List Pos × List (List Nat)) := grow r 3001 0 [zA5 r] []
def zDT (r : Rules) : Int := if zAQ r ≠ 0 then zAQ r else if r.quiet ≠ 0 then 1 else match zEi r with | none => 2 | some _ => 0
def zH0 (r : Rules) (x : List Pos × List (List Nat)) : Tab := ⟨r, x.1, x.2, zBa (zo x.1 x.2 (zAE r x.1) x.1.length)⟩
theorem zIc {r : Rules} (hv : ValidR r) : ∀ {f i : Nat} {l : List Pos} {nx : List (List Nat)} {l' : List Pos} {nx' : List (List Nat)}, Grown r i l nx → 3001 ≤ f + i → grow r f i l nx = some (l', nx') → Grown r l'.length l' nx'
 | 0, i, l, nx, l', nx', G, hf, h => by
  have h1 := G.le
  have h2 := G.most
  omega
 | f + 1, i, l, nx, l', nx', G, hf, h => by
  rw [grow] at h
  split at h
  ·rename_i hi
   split at h
   ·cases h
   ·rename_i x hx
    obtain ⟨l1, ix⟩ := x
    refine zIc hv (f := f) (i := i + 1) (zHP G hi (fun m hm => ?_) hx) (by omega) h
    have S := (G.snd (l.getD i zz) (by
     rw [show l.getD i zz = l[i] by simp [List.getD, hi]]
     exact List.getElem_mem hi)).1
    exact zHb hv S (zHd hv S hm)
  ·rename_i hi
   obtain ⟨rfl, rfl⟩ := Prod.mk.inj (Option.some.inj h)
   have h1 := G.le
   obtain rfl : i = l.length := by omega
   exact G
theorem zKc {r : Rules} (hv : ValidR r) {l : List Pos} {nx : List (List Nat)} (h : zEi r = some (l, nx)) : Grown r l.length l nx := zIc hv (zGk hv) (Nat.le_refl _) h
theorem zMH {l : List Pos} {nx : List (List Nat)} {E : List Ent} {n : Nat} (hE : E.length = l.length) (h : zAh l nx E = []) : zC5 l nx n E = E := by
 conv => rhs; rw [zHZ hE]
 unfold zC5
 refine List.map_congr_left (fun i hi => ?_)
 rw [if_neg]
 intro c
 have : i ∈ zAh l nx E := List.mem_filter.2 ⟨hi, c⟩
 rw [h] at this
 cases this
theorem zDR {l : List Pos} {nx : List (List Nat)} {E0 : List Ent} (h0 : E0.length = l.length) {n : Nat} (h : zAh l nx (zo l nx E0 n) = []) : ∀ d, zo l nx E0 (n + d) = zo l nx E0 n
 | 0 => rfl
 | d + 1 => by
  show zC5 l nx (n + d + 1) (zo l nx E0 (n + d)) = _
  rw [zDR h0 h d]
  exact zMH (zCN h0 n) h
theorem zKu {l : List Pos} {nx : List (List Nat)} {E0 : List Ent} (h0 : E0.length = l.length) {n m : Nat} (h : zAh l nx (zo l nx E0 n) = []) (h' : zAh l nx (zo l nx E0 m) = []) : zo l nx E0 n = zo l nx E0 m := by
 rcases Nat.le_total n m with q | q
 ·obtain ⟨d, rfl⟩ : ∃ d, m = n + d := ⟨m - n, by omega⟩
  exact (zDR h0 h d).symm
 ·obtain ⟨d, rfl⟩ : ∃ d, n = m + d := ⟨n - m, by omega⟩
  exact zDR h0 h' d
theorem zHx {l : List Pos} {nx : List (List Nat)} {E0 : List Ent} (h0 : E0.length = l.length) (ht : ∀ i, zAW l i = 0 ∨ zAW l i = 1) : zAh l nx (zo l nx E0 l.length) = [] := by
 have key : ∀ n, (∃ m, m ≤ n ∧ zAh l nx (zo l nx E0 m) = []) ∨ n + 1 + zBV (zo l nx E0 (n + 1)) ≤ l.length := by
  intro n
  induction n with
  | zero =>
   by_cases h : zAh l nx (zo l nx E0 0) = []
   ·exact .inl ⟨0, Nat.le_refl _, h⟩
   ·right
    have := zEI (n := 0 + 1) h0 ht h
    have h2 : zBV E0 ≤ E0.length := List.length_filter_le ..
    show 0 + 1 + zBV (zC5 l nx (0 + 1) E0) ≤ _
    have h3 : zBV (zo l nx E0 0) = zBV E0 := rfl
    omega
  | succ n ih =>
   rcases ih with ⟨m, hm, h⟩ | ih
   ·exact .inl ⟨m, by omega, h⟩
   ·by_cases h : zAh l nx (zo l nx E0 (n + 1)) = []
    ·exact .inl ⟨n + 1, Nat.le_refl _, h⟩
    ·right
     have := zEI (n := n + 1 + 1) (zCN h0 (n + 1)) ht h
     show n + 1 + 1 + zBV (zC5 l nx (n + 1 + 1) (zo l nx E0 (n + 1))) ≤ _
     omega
 rcases key l.length with ⟨m, hm, h⟩ | h
 ·obtain ⟨d, hd⟩ : ∃ d, l.length = m + d := ⟨l.length - m, by omega⟩
  rw [hd, zDR h0 h d]
  exact h
 ·omega
theorem zKF {r : Rules} {l : List Pos} (h : ∀ p ∈ l, Sound r p ∧ p.quiet = 0) (i : Nat) : zAW l i = 0 ∨ zAW l i = 1 := by
 unfold zAW
 by_cases hi : i < l.length
 ·rw [show l.getD i zz = l[i] by simp [List.getD, hi]]
  exact (h _ (List.getElem_mem hi)).1.tn
 ·left
  simp [List.getD, List.getElem?_eq_none (Nat.le_of_not_lt hi), zz]
/-- what New makes is a table -/
theorem new_tab {r : Rules} (hz : zAQ r = 0) (hq : r.quiet = 0) {x : List Pos × List (List Nat)} (h : zEi r = some x) : TabOK (zH0 r x) := by
 obtain ⟨l, nx⟩ := x
 have G := zKc (zCM hz) h
 exact ⟨hz, hq, G, l.length, zHx (List.length_map ..) (zKF G.snd), J⟩
theorem new_ent {r : Rules} {x : List Pos × List (List Nat)} (G : Grown r x.1.length x.1 x.2) {N : Nat} (h : zAh x.1 x.2 (zo x.1 x.2 (zAE r x.1) N) = []) : zBa (zo x.1 x.2 (zAE r x.1) N) = (zH0 r x).E := by
 show _ = zBa (zo x.1 x.2 (zAE r x.1) x.1.length)
 rw [zKu (E0 := zAE r x.1) (List.length_map ..) h (zHx (List.length_map ..) (zKF G.snd))]
theorem zLj {l : List Pos} {nx : List (List Nat)} {E0 : List Ent} (h0 : E0.length = l.length) {n : Nat} (h : zAh l nx (zo l nx E0 n) ≠ []) {j : Nat} (hj : j ≤ n) : zAh l nx (zo l nx E0 j) ≠ [] := fun c => by
 obtain ⟨d, rfl⟩ : ∃ d, n = j + d := ⟨n - j, by omega⟩
 rw [zDR h0 c d] at h
 exact h c
theorem zIa {l : List Pos} {nx : List (List Nat)} {E0 : List Ent} (h0 : E0.length = l.length) (ht : ∀ i, zAW l i = 0 ∨ zAW l i = 1) : ∀ {n : Nat}, zAh l nx (zo l nx E0 n) ≠ [] → n + zBV (zo l nx E0 n) ≤ l.length
 | 0, _ => by
  have h2 : zBV E0 ≤ E0.length := List.length_filter_le ..
  show 0 + zBV E0 ≤ _
  omega
 | n + 1, h => by
  have h1 := zLj h0 h (Nat.le_succ n)
  have ih := zIa h0 ht h1
  have := zEI (n := n + 1) (zCN h0 n) ht h1
  show n + 1 + zBV (zC5 l nx (n + 1) (zo l nx E0 n)) ≤ _
  omega
theorem zJn {l : List Pos} {nx : List (List Nat)} {E0 : List Ent} (h0 : E0.length = l.length) (ht : ∀ i, zAW l i = 0 ∨ zAW l i = 1) {n : Nat} (h : zAh l nx (zo l nx E0 n) ≠ []) : n + 1 ≤ l.length := by
 have h1 := zIa h0 ht h
 obtain ⟨i, hi⟩ := List.exists_mem_of_ne_nil _ h
 obtain ⟨h2, h3⟩ := List.mem_filter.1 hi
 have h4 : 0 < zBV (zo l nx E0 n) := by
  unfold zBV
  rw [List.length_pos_iff]
  intro c
  have hl := zCN (nx := nx) h0 n
  have hil : i < (zo l nx E0 n).length := by rw [hl]; exact List.mem_range.1 h2
  have : (zo l nx E0 n)[i] ∈ (zo l nx E0 n).filter (fun x => decide (x.1 = 0)) := by
   refine List.mem_filter.2 ⟨List.getElem_mem hil, decide_eq_true ?_⟩
   have := zD6 h3
   unfold zCf at this
   rwa [show (zo l nx E0 n).getD i (0, 0) = (zo l nx E0 n)[i] by simp [List.getD, hil]] at this
  rw [c] at this
  cases this
 omega
theorem TabOK.plies_le {T : Tab} (h : TabOK T) {i : Nat} (hi : i < T.l.length) : (zAu T i).2 ≤ 3000 := by
 obtain ⟨N, h1, h2⟩ := h.S
 have S := zIp h.v h.G h1
 have hm := h.G.most
 unfold zAu
 rw [h2, zIZ i hi S.len]
 split
 ·rename_i hz
  have := zGS S N hz
  show ((zo T.l T.nx (zAE T.r T.l) N).getD i (0, 0)).2 ≤ 3000
  omega
 ·rename_i hz
  obtain ⟨m, g1, g2, g3, g4⟩ := zFo S.len S.zero N hz
  rw [g2]
  rcases g4 with rfl | ⟨q, rfl, gf⟩
  ·show ((0 : Nat) : Int) ≤ 3000; decide
  ·have : zAh T.l T.nx (zo T.l T.nx (zAE T.r T.l) q) ≠ [] := fun c => by
    have : i ∈ zAh T.l T.nx (zo T.l T.nx (zAE T.r T.l) q) := List.mem_filter.2 ⟨List.mem_range.2 hi, gf⟩
    rw [c] at this; cases this
   have := zJn S.len S.turn this
   omega
end Go.Ax.Gm
namespace Go.Ax
variable [Pins]
open Go.RowKit
def sclM (x : Value) : Option AV := match x with
 | .map none => some .any
 | v => scl v
theorem vr_sclM {w : World} {S : Nat → Prop} {σ : Nat → Option Blk} {x : Value} {v : AV} (h : sclM x = some v) : VR w S σ v x ∧ x.oneCell' = true := by
 unfold sclM at h
 split at h
 ·cases h; exact ⟨.any _ _, rfl⟩
 ·exact zJN h
def zavM (v : Value) : Option (List AV) := v.cells.toList.mapM fun x => sclM x
theorem zMN {w : World} {S : Nat → Prop} {σ : Nat → Option Blk} {z : Value} {zs : List AV} (h : zavM z = some zs) : z.cells.size = zs.length ∧ ∀ j, j < zs.length → VR w S σ (zs.getD j .any) (z.cells.getD j undef) ∧ (z.cells.getD j undef).oneCell' = true := by
 unfold zavM at h
 have key : ∀ (l : List Value) (zs : List AV), l.mapM (fun x => sclM x) = some zs → l.length = zs.length ∧ ∀ j, j < zs.length → VR w S σ (zs.getD j .any) (l.getD j undef) ∧ (l.getD j undef).oneCell' = true := by
  intro l
  induction l with
  | nil => intro zs h; simp at h; subst h; exact ⟨rfl, fun j hj => by simp at hj⟩
  | cons x r ih =>
   intro zs h
   simp only [List.mapM_cons] at h
   cases h1 : sclM x with
   | none => simp [h1] at h
   | some y =>
    cases h2 : r.mapM (fun x => sclM x) with
    | none => simp [h1, h2] at h
    | some ys =>
     simp [h1, h2] at h
     subst h
     obtain ⟨i1, i2⟩ := ih ys h2
     refine ⟨by simp [i1], fun j hj => ?_⟩
     cases j with
     | zero => exact vr_sclM h1
     | succ j => simpa using i2 j (by simpa using hj)
 obtain ⟨k1, k2⟩ := key _ _ h
 refine ⟨by simpa using k1, fun j hj => ?_⟩
 have := k2 j hj
 have e : z.cells.toList.getD j undef = z.cells.getD j undef := by
  have hlt : j < z.cells.size := by simp at k1; omega
  simp [List.getD, Array.getD, hlt]
 rwa [e] at this
section
variable {P : Program} {fn : Func} {c : Ctx} {fr : Fr} {H : zM} {k : List It}
/-- A struct's or an array's value. -/
theorem q_buildM {ind : Bool} {d : Option Nat} {ty : TypeId} {pos : String} {after : Array Edge} {g : Option (Nat × Bool)} {t : TypeId} {parts : List (Nat × Operand)} {it : TypeInfo} {z : Value} {zs L : List AV} {l : List (Nat × AV)} {pl : Nat → Option (Nat × Nat)}
 (hi : P.info? t = some it) (hz : it.zero = some z) (hzs : zavM z = some zs) (hpl : zF2 P t = some pl) (hl : zBm fr parts = some l) (hf : zDq pl zs l = some L) :
 QOp ind P fn c fr H ⟨d, .build t parts.toArray, ty, pos, after, g⟩ (.agg L) := by
 intro w a σ S hr
 obtain ⟨y1, y2⟩ := zMN (w := w) (S := S) (σ := σ) hzs
 obtain ⟨cs', g1, g2⟩ := zEy l _ z.cells zs L ⟨y1, y2⟩ (zC7 hr parts l hl) hf
 refine ⟨.agg cs', .agg _ _ _ g2.1 (fun i hi => (g2.2 i hi).1) (fun i hi => (g2.2 i hi).2), fun w' _ => ?_⟩
 have hb : P.built t ((parts.toArray.map fun (i, x) => (i, a.eval x)).toList) = some cs' := by
  have e : (parts.toArray.map fun (i, x) => (i, a.eval x)).toList = parts.map fun (i, x) => (i, a.eval x) := by simp
  rw [e]
  unfold zF2 at hpl
  unfold Program.built
  cases hu : P.underlying t with
  | none => simp [hu] at hpl
  | some u =>
   cases u with
   | array nn e' =>
    simp only [hu] at hpl
    cases he : P.info? e' with
    | none => simp [he] at hpl
    | some ie =>
     simp only [he, Option.some.injEq] at hpl
     subst hpl
     simp only [hi, hz, he]
     exact g1
   | struct fields =>
    simp only [hu] at hpl
    cases he : fields.toList.mapM (fun f => (P.info? f.type).map fun i => (f.offset, i.size)) with
    | none => simp [he] at hpl
    | some places =>
     simp only [he, Option.some.injEq] at hpl
     subst hpl
     simp only [hi, hz, he]
     exact g1
   | _ => simp [hu] at hpl
 have hrun := run_build (P := P) w' t (parts.toArray.map fun (i, x) => (i, a.eval x)) cs' hb
 simp only [execOp, Sem.run_bind, hrun, Result.andThen_ok]
 rfl
end
end Go.Ax
namespace Go.Ax
open Go.RowKit
variable [Pins]
variable {P : Program} {fn : Func} {c : Ctx} {fr : Fr} {H : zM} {d : Option Nat} {ty : TypeId} {pos : String} {after : Array Edge} {g : Option (Nat × Bool)}
theorem zFI {x : Operand} {t : TypeId} {u : TypeDesc} {i j : Nat} {cl : Cells} {inf : TypeInfo} {L : List AV} (ht : P.underlying t = some u) (hu : zA6 u = true) (hinf : P.info? t = some inf) (hsz : Nat.ble (j + inf.size) cl.sz = true) (hx : ev fr x = some (.rp cl i j))
 (hL : (List.range inf.size).map (fun e => cl.at i (j + e)) = L) : QOp false P fn c fr H ⟨d, .load t x, ty, pos, after, g⟩ (.agg L) := by
 intro w a σ S hr
 have h1 := hr.evAt hx
 subst hL
 have hsz' := Nat.le_of_ble_eq_true hsz
 generalize hz : a.eval x = z at h1
 cases h1 with
 | rp _ _ _ _ b o val hS hc hvv h1' =>
  let cs : List Value := (List.range inf.size).map (fun e => val e)
  refine ⟨.agg cs.toArray, .agg _ _ _ (by simp [cs]) (fun e he => ?_) (fun e he => ?_), fun w' hw => ?_⟩
  ·have he' : e < inf.size := by simpa using he
   have := (hvv e (by omega)).mono (w' := w) (fun _ h => h) (fun _ _ => rfl) σ (fun _ _ h => by cases h)
   simpa [cs, Array.getD, he', List.getD] using this
  ·have he' : e < inf.size := by simpa using he
   have := h1' e (by omega)
   simpa [cs, Array.getD, he'] using this
  ·have hw := hw.resolve_left (by decide)
   have hl := run_loadCells_list (P := P) w' ⟨b, o, none⟩ cs (fun e v hv => by
    have he : e < inf.size := by simpa [cs] using (List.getElem?_eq_some_iff.1 hv).1
    simp only [cs, List.getElem?_map, List.getElem?_range he, Option.map_some, Option.some.injEq] at hv
    subst hv
    rw [Addr.add_lit]
    have := World.cell?_of_block (w := w) (w' := w') (a := ⟨b, o + e, none⟩) (by rw [hw])
    rw [this]; exact hc e (by omega))
   have hcl : cs.length = inf.size := by simp [cs]
   rw [hcl] at hl
   simp [execOp, hz, Instr.loadAt, Instr.sureAddr, loadVar, zB0 ht, hu, sizeOf, typeInfo, hinf, hl]
end Go.Ax
namespace Go.Ax.Gm
section
variable {T : Tab}
end
end Go.Ax.Gm
namespace Go.Ax.Gm
section
variable {T : Tab}
end
end Go.Ax.Gm
namespace Go.Ax.Gm
def zG2 : List Mv → Bool
 | [] => true
 | a :: l => l.all (fun b => leM a b) && zG2 l
theorem zGr : ∀ {l : List Mv}, zG2 l = true → l.Pairwise (fun a b => leM a b = true)
 | [], _ => List.Pairwise.nil
 | a :: l, h => by
  rw [zG2, Bool.and_eq_true, List.all_eq_true] at h
  exact List.Pairwise.cons h.1 (zGr h.2)
theorem zCt {r : Rules} {p : Pos} (h : zG2 (rawM r p) = true) : zBB r p = zm (rawM r p) := by
 unfold zBB
 rw [List.mergeSort_of_pairwise (zGr h)]
def resultQ (r : Rules) (p : Pos) (L : List Mv) : Int :=
 if r.ends.findIdx (zCj r p (1 - p.turn)) < r.ends.length then (if (r.ends.getD (r.ends.findIdx (zCj r p (1 - p.turn))) en0).loses = true then 1 + p.turn else 1 + (1 - p.turn))
 else if r.quiet ≠ 0 ∧ r.quiet ≤ p.quiet then 3
 else if 0 < L.length then 0
 else if r.blocked = 0 then 1 + (1 - p.turn)
 else if r.blocked = 1 then 1 + p.turn else 3
theorem zEo {r : Rules} {p : Pos} {L : List Mv} {x : Int} (h : zBB r p = L) (hx : resultQ r p L = x) : zAr r p = x := by rw [← hx, ← h]; rfl
theorem zE5 {r : Rules} {p : Pos} {L M : List Mv} {x : Int} (h : zBB r p = L) (hr : zAr r p = x) (hm : (if x ≠ 0 then [] else L) = M) : zA1 r p = M := by unfold zA1; rw [hr, h]; exact hm
theorem zDs {r : Rules} {f i : Nat} {l : List Pos} {nx : List (List Nat)} {ms : List Mv} {l' : List Pos} {ix : List Nat} {res : Option (List Pos × List (List Nat))} (hi : i < l.length) (hm : zA1 r (l.getD i zz) = ms) (ha : zB1 r (l.getD i zz) ms l [] = some (l', ix)) (hk : grow r f (i + 1) l' (nx ++ [ix]) = res) : grow r (f + 1) i l nx = res := by
 rw [grow, if_pos hi, hm, ha]; exact hk
theorem zLm {r : Rules} {f i : Nat} {l : List Pos} {nx : List (List Nat)} (hi : ¬ i < l.length) : grow r (f + 1) i l nx = some (l, nx) := by rw [grow, if_neg hi]
def two : Rules := ⟨[84, 87, 79], 2, 1, [⟨65, 2, 0, []⟩], [0, 0], false, false, [⟨0, 0, 2, false⟩], 0, 0, 0⟩
def twoL : List Pos := [⟨[0, 0], [2], [2], 0, 0⟩, ⟨[1, 0], [1], [2], 1, 0⟩, ⟨[0, 1], [1], [2], 1, 0⟩, ⟨[1, 2], [1], [1], 0, 0⟩, ⟨[2, 1], [1], [1], 0, 0⟩]
def twoN : List (List Nat) := [[1, 2], [3], [4], [], []]
def twoE : List Ent := [(2, 2), (2, 1), (2, 1), (2, 0), (2, 0)]
theorem zKw : zBB two ⟨[0, 0], [2], [2], 0, 0⟩ = [⟨-1, 0, 0⟩, ⟨-1, 1, 0⟩] := (zCt (by decide +kernel)).trans (by decide +kernel)
theorem two_l1 : zBB two ⟨[1, 0], [1], [2], 1, 0⟩ = [⟨-1, 1, 0⟩] := (zCt (by decide +kernel)).trans (by decide +kernel)
theorem two_l2 : zBB two ⟨[0, 1], [1], [2], 1, 0⟩ = [⟨-1, 0, 0⟩] := (zCt (by decide +kernel)).trans (by decide +kernel)
theorem two_l3 : zBB two ⟨[1, 2], [1], [1], 0, 0⟩ = [] := (zCt (by decide +kernel)).trans (by decide +kernel)
theorem two_l4 : zBB two ⟨[2, 1], [1], [1], 0, 0⟩ = [] := (zCt (by decide +kernel)).trans (by decide +kernel)
theorem zKx : zAr two ⟨[0, 0], [2], [2], 0, 0⟩ = 0 := zEo zKw (by decide +kernel)
theorem two_r1 : zAr two ⟨[1, 0], [1], [2], 1, 0⟩ = 0 := zEo two_l1 (by decide +kernel)
theorem two_r2 : zAr two ⟨[0, 1], [1], [2], 1, 0⟩ = 0 := zEo two_l2 (by decide +kernel)
theorem two_r3 : zAr two ⟨[1, 2], [1], [1], 0, 0⟩ = 2 := zEo two_l3 (by decide +kernel)
theorem two_r4 : zAr two ⟨[2, 1], [1], [1], 0, 0⟩ = 2 := zEo two_l4 (by decide +kernel)
theorem zH4 : zEi two = some (twoL, twoN) := by
 unfold zEi
 refine zDs (ms := [⟨-1, 0, 0⟩, ⟨-1, 1, 0⟩]) (l' := twoL.take 3) (ix := [1, 2]) (by decide) (zE5 zKw zKx J) (by decide +kernel) ?_
 refine zDs (ms := [⟨-1, 1, 0⟩]) (l' := twoL.take 4) (ix := [3]) (by decide) (zE5 two_l1 two_r1 J) (by decide +kernel) ?_
 refine zDs (ms := [⟨-1, 0, 0⟩]) (l' := twoL) (ix := [4]) (by decide) (zE5 two_l2 two_r2 J) (by decide +kernel) ?_
 refine zDs (ms := []) (l' := twoL) (ix := []) (by decide) (zE5 two_l3 two_r3 J) (by decide +kernel) ?_
 refine zDs (ms := []) (l' := twoL) (ix := []) (by decide) (zE5 two_l4 two_r4 J) (by decide +kernel) ?_
 exact zLm (by decide)
theorem zGZ : zAQ two = 0 := by decide +kernel
theorem zLN : zDT two = 0 := by
 unfold zDT
 rw [zGZ, if_neg (by decide), if_neg (by decide), zH4]
theorem zMK : zAE two twoL = [(0, 0), (0, 0), (0, 0), (2, 0), (2, 0)] := by
 unfold zAE twoL
 simp only [List.map_cons, List.map_nil, zKx, two_r1, two_r2, two_r3, two_r4]
def zEP : Tab := ⟨two, twoL, twoN, twoE⟩
theorem zLO : zH0 two (twoL, twoN) = zEP := by
 unfold zH0 zEP
 congr 1
 show zBa (zo twoL twoN (zAE two twoL) twoL.length) = twoE
 rw [zMK]
 decide +kernel
theorem zKH : zCI zEP (zA5 two) = 0 := by decide +kernel
theorem two_of : ofT zEP (zA5 two) = (2, 2) := by decide +kernel
theorem zIq : zEA zEP (zA5 two) = [⟨-1, 0, 0⟩, ⟨-1, 1, 0⟩] := zE5 zKw zKx rfl
theorem zKG : zFC zEP (zA5 two) = 0 ∧ zFk zEP (zA5 two) = [⟨-1, 0, 0⟩, ⟨-1, 1, 0⟩] := by
 have h : zFC zEP (zA5 two) = 0 := by
  unfold zFC
  rw [zKH, zIq]; rfl
 refine ⟨h, ?_⟩
 unfold zFk
 rw [h, if_neg (by decide), zIq]
 decide +kernel
theorem two_long : zFF zEP = [0] := by decide +kernel
theorem two_ok : TabOK zEP := zLO ▸ new_tab zGZ rfl zH4
def q7 (r : Rules) : Rules := { r with quiet := 7 }
theorem rules_q7 {r : Rules} (h : zAQ r = 0) : zAQ (q7 r) = 0 := by
 unfold zAQ at h ⊢
 show (if zHf r.name = false then 6
 else if ¬ (within r.w 1 8 = true ∧ within r.h 1 8 = true) then 4
 else if zBn r.pcs ≠ 0 then zBn r.pcs
 else if (r.start.length : Int) ≠ r.w * r.h then 3
 else if r.start.all (zDm r.pcs.length) = false then 4
 else if zFD r.pcs.length r.ends ≠ 0 then zFD r.pcs.length r.ends
 else if ¬ (within r.blocked 0 2 = true ∧ within 7 0 200 = true ∧ (r.rep = 0 ∨ within r.rep 2 5 = true)) then 4 else 0 : Int) = 0
 split at h
 ·cases h
 rename_i h1
 rw [if_neg h1]
 split at h
 ·cases h
 rename_i h2
 rw [if_neg h2]
 split at h
 ·rename_i h3; exact absurd h h3
 rename_i h3
 rw [if_neg h3]
 split at h
 ·cases h
 rename_i h4
 rw [if_neg h4]
 split at h
 ·cases h
 rename_i h5
 rw [if_neg h5]
 split at h
 ·rename_i h6; exact absurd h h6
 rename_i h6
 rw [if_neg h6]
 split at h
 ·cases h
 rename_i h7
 have h7 := Classical.not_not.1 h7
 rw [if_neg (fun c => c ⟨h7.1, by decide, h7.2.2⟩)]
theorem new_q7 (r : Rules) : zDT (q7 r) = if zAQ (q7 r) ≠ 0 then zAQ (q7 r) else 1 := by
 unfold zDT
 split
 ·rfl
 ·rw [if_pos (by show (7 : Int) ≠ 0; decide)]
end Go.Ax.Gm
namespace Go.Ax
variable [Pins]
open Go.RowKit
section
variable {H : Type} {enc : TypeId × Value → H} {P : Program} {W : World}
theorem Rd.arr2 {α : Type} {t e : TypeId} {el : α → List AV} {ok : α → Prop} (ht : P.underlying t = some (.array 2 e)) (hc : P.cellsOf e = 1) (hc2 : P.cellsOf t = 2) (R : Rd enc P W e 1 el ok) :
 Rd enc P W t 2 (fun x : α × α => el x.1 ++ el x.2) (fun x => ok x.1 ∧ ok x.2) := by
 have _p := ‹Pins›
 intro fuel cs x hx
 obtain ⟨xs, m, _, _, hl, hxl, hf⟩ := DataW.trod_array ht hx
 rw [hc2] at hl
 rw [hc] at hf
 have each : ∀ i, i < 2 → ∃ a, ok a ∧ zCg W (el a) ((cs.drop (i * 1)).take 1) := by
  intro i hi
  have h1 := hf i hi
  have h2 : xs[i]? = some (xs[i]'(by omega)) := List.getElem?_eq_getElem _
  rw [h2] at h1
  obtain ⟨a, h3, _, hr⟩ := R _ _ _ h1
  exact ⟨a, h3, hr⟩
 obtain ⟨a, ka, ha⟩ := each 0 (by decide)
 obtain ⟨b, kb, hb⟩ := each 1 (by decide)
 refine ⟨(a, b), ⟨ka, kb⟩, hl, ?_⟩
 have e1 : cs = (cs.drop (0 * 1)).take 1 ++ (cs.drop (1 * 1)).take 1 := by
  match cs, hl with
  | [c0, c1], _ => rfl
 rw [e1]
 exact ha.append hb
end
end Go.Ax
namespace Go.Proofs
open Go.Shelf Go.RowKit Go.Lib Go.Sort
theorem rIsNaN (x : Int) (w : World) : Calls Tryd.prog 70 #[.int .i64 x] w fun e w' => e = .returned (.bool false) ∧ w' = w := by
 go_enter Tryd.func70, Tryd.ntmps70
 go_wp2
 go_ret
 exact ⟨by simp, rfl⟩
theorem zHn (x y : Int) (w : World) : Calls Tryd.prog 60 #[.int .i64 x, .int .i64 y] w fun e w' => e = .returned (.int .i64 (Go.Ax.Gm.cmpI x y)) ∧ w' = w := by
 go_enter Tryd.func60, Tryd.ntmps60
 go_wp2_with (go_at_call 70; refine (rIsNaN _ _).mono ?_; rintro e w' ⟨rfl, hw⟩; rw [hw])
 all_goals (go_ret; refine ⟨?_, rfl⟩; unfold Go.Ax.Gm.cmpI; (repeat' split) <;> first | rfl | (exfalso; omega))
theorem rOr (b : Nat) (x0 x1 x2 : Int) (w : World) (h0 : w.cell? ⟨b, 0, none⟩ = some (.int .i64 x0)) (h1 : w.cell? ⟨b, 1, none⟩ = some (.int .i64 x1)) (h2 : w.cell? ⟨b, 2, none⟩ = some (.int .i64 x2)) :
 Calls Tryd.prog 59 #[.slice (some ⟨b, 0, none⟩) 3 3] w fun e w' => e = .returned (.int .i64 (if x0 ≠ 0 then x0 else if x1 ≠ 0 then x1 else x2)) ∧ w' = w := by
 go_enter Tryd.func59, Tryd.ntmps59
 go_wp2
 go_loopg [8] 3 (fun g s8 wr => ∃ k : Nat, k ≤ 3 ∧ 3 - k ≤ g ∧ s8 = .int .i64 k ∧ wr = w ∧ (0 < k → x0 = 0) ∧ (1 < k → x1 = 0) ∧ (2 < k → x2 = 0))
 case atStart => exact ⟨0, Nat.zero_le _, by omega, rfl, rfl, fun h => absurd h (Nat.not_lt_zero _), fun h => absurd h (Nat.not_lt_zero _), fun h => absurd h (Nat.not_lt_zero _)⟩
 case round =>
  obtain ⟨k, hk, hg, rfl, rfl, z0, z1, z2⟩ := hrel
  match k, hk with
  | 0, _ =>
   by_cases q : x0 = 0
   ·go_wp2
    go_roundg 2
    case measure => omega
    case rel => exact ⟨1, by omega, by omega, by go_num, rfl, fun _ => q, fun h => absurd h (by omega), fun h => absurd h (by omega)⟩
   ·go_wp2
    go_ret
    exact ⟨by first | rfl | rw [if_pos q], rfl⟩
  | 1, _ =>
   have q0 := z0 (by omega)
   by_cases q : x1 = 0
   ·go_wp2
    go_roundg 1
    case measure => omega
    case rel => exact ⟨2, by omega, by omega, by go_num, rfl, fun _ => q0, fun _ => q, fun h => absurd h (by omega)⟩
   ·go_wp2
    go_ret
    exact ⟨by first | rfl | rw [if_neg (fun h => h q0), if_pos q], rfl⟩
  | 2, _ =>
   have q0 := z0 (by omega)
   have q1 := z1 (by omega)
   by_cases q : x2 = 0
   ·go_wp2
    go_roundg 0
    case measure => omega
    case rel => exact ⟨3, by omega, by omega, by go_num, rfl, fun _ => q0, fun _ => q1, fun _ => q⟩
   ·go_wp2
    go_ret
    exact ⟨by first | rfl | rw [if_neg (fun h => h q0), if_neg (fun h => h q1)], rfl⟩
  | 3, _ =>
   have q0 := z0 (by omega)
   have q1 := z1 (by omega)
   have q2 := z2 (by omega)
   go_wp2
   go_ret
   exact ⟨by first | rfl | rw [if_neg (fun h => h q0), if_neg (fun h => h q1), q2], rfl⟩
theorem rClosure (a0 a1 a2 b0 b1 b2 : Int) (W : World) : Calls Tryd.prog 58 #[.agg #[.int .i64 a0, .int .i64 a1, .int .i64 a2], .agg #[.int .i64 b0, .int .i64 b1, .int .i64 b2]] W fun e w' =>
 e = .returned (.int .i64 (if Go.Ax.Gm.cmpI a0 b0 ≠ 0 then Go.Ax.Gm.cmpI a0 b0 else if Go.Ax.Gm.cmpI a1 b1 ≠ 0 then Go.Ax.Gm.cmpI a1 b1 else Go.Ax.Gm.cmpI a2 b2)) ∧ ∃ q os', w' = grow (W.drewN q) os' := by
 have c0 := zHn a0 b0
 have c1 := zHn a1 b1
 have c2 := zHn a2 b2
 generalize Go.Ax.Gm.cmpI a0 b0 = x0 at c0 ⊢
 generalize Go.Ax.Gm.cmpI a1 b1 = x1 at c1 ⊢
 generalize Go.Ax.Gm.cmpI a2 b2 = x2 at c2 ⊢
 have hor := fun b W' h0 h1 h2 => rOr b x0 x1 x2 W' h0 h1 h2
 generalize (if x0 ≠ 0 then x0 else if x1 ≠ 0 then x1 else x2) = res at hor ⊢
 go_enter Tryd.func58, Tryd.ntmps58
 go_wp2_with fail
 refine wp_region_still_tail 15 (by kernel_rfl) (by kernel_rfl) ?_
 simp only [List.take_succ_cons, List.take_zero, List.drop_succ_cons, List.drop_zero]
 change wpStill _ _ (World.drew _) (fun a' => wpList _ _ _ _ a' (World.drew _)) _ _
 generalize hw2 : World.drew _ = w2
 have g0 : w2.cell? ⟨W.heap.size, 0, none⟩ = some (.int .i64 a0) := by rw [← hw2]; simp
 have g1 : w2.cell? ⟨W.heap.size, 1, none⟩ = some (.int .i64 a1) := by rw [← hw2]; simp
 have g2 : w2.cell? ⟨W.heap.size, 2, none⟩ = some (.int .i64 a2) := by rw [← hw2]; simp
 have k0 : w2.cell? ⟨W.heap.size + 1, 0, none⟩ = some (.int .i64 b0) := by rw [← hw2]; simp
 have k1 : w2.cell? ⟨W.heap.size + 1, 1, none⟩ = some (.int .i64 b1) := by rw [← hw2]; simp
 have k2 : w2.cell? ⟨W.heap.size + 1, 2, none⟩ = some (.int .i64 b2) := by rw [← hw2]; simp
 have e2 : ∃ q os', w2 = grow (W.drewN q) os' := ⟨1, _, by rw [← hw2, alloc_eq_grow, alloc_eq_grow, grow_grow]; rfl⟩
 clear hw2
 repeat still_step
 still_call (c0 _)
 repeat still_step
 still_call (c1 _)
 repeat still_step
 still_call (c2 _)
 repeat still_step
 try refine wpStill_nil ?_
 clear c0 c1 c2 g0 g1 g2 k0 k1 k2
 go_wp2_with (go_at_call 59; refine (hor _ _ (by simp) (by simp) (by simp)).mono ?_; rintro e w' ⟨rfl, rfl⟩)
 go_ret
 obtain ⟨q, os, rfl⟩ := e2
 exact ⟨rfl, q, _, by rw [alloc_eq_grow, grow_grow]⟩
end Go.Proofs
namespace Go.Proofs.YtiifcejepaeepaaDoor
open Go.Ax
/-- What the walks of this seat know of the listed variables. -/
def pinG (w : World) : Prop := True
 ∧ Lib.TabIs Tryd.prog w "internal/strconv.uint64pow10" .u64 Lib.pow10Tab
 ∧ True
instance : Pins := ⟨fun w _ => pinG w⟩
theorem zMM {n : String} {w w' : World} (h : ∀ b, b < w.heap.size → w'.heap[b]? = w.heap[b]?) {cs : Array Value} (hv : w.var? Tryd.prog n = some cs) : w'.var? Tryd.prog n = some cs := by
 unfold World.var? at hv ⊢
 cases hg : Tryd.prog.globalNamed n with
 | none => simp [hg] at hv
 | some g =>
  simp only [hg, Option.bind_some] at hv ⊢
  have hlt : g < w.heap.size := by
   rcases Nat.lt_or_ge g w.heap.size with q | q
   ·exact q
   ·have : w.heap[g]? = none := by simp [q]
    simp [this] at hv
  rw [h g hlt]; exact hv
theorem pin_up {W : World} {S : Nat → Prop} (h : pinG W) : zCo W S (fun _ => none) [] := by
 intro w' S' _ _ hb
 have hb' : ∀ b, b < W.heap.size → w'.heap[b]? = W.heap[b]? := fun b hl => hb b hl (by rintro ⟨h, o, s, C, h1, _⟩; simp at h1)
 show pinG w'
 unfold pinG at h ⊢
 obtain ⟨_, h⟩ := h
 obtain ⟨h1, h⟩ := h
 refine ⟨trivial, ?_⟩
 refine ⟨zMM hb' h1, ?_⟩
 trivial
end Go.Proofs.YtiifcejepaeepaaDoor
namespace Go.Proofs.YtiifcejepaeepaaDoor
open Go.Ax Go.Ax.Idx Go.Ax.Cd
attribute [local irreducible] Ax zB8 QOp ze
theorem equalI (a b : List Int) (hlen : a.length ≤ 9223372036854775807) (hlb : b.length ≤ 9223372036854775807) : zn Tryd.prog 15 [.ro (.ints .i64 a) 0 a.length, .ro (.ints .i64 b) 0 b.length] (.bool (decide (a = b))) := by
 refine ze.value0 (zP (P := Tryd.prog) (fn := Tryd.f15) J J (by kernel_rfl) J (fun c hR hfix => ?_)) (fix := fun _ => False) (fun _ h => h) J J
 refine rn3 ?_
 refine zI J (fun h => ?_) (fun h => ?_)
 ·refine rn2 ?_
  refine zO hR J ?_
  have : ¬ a = b := by rintro rfl; exact h rfl
  simp [zCd, this]
 have hab : a.length = b.length := by omega
 refine rn3 ?_
 refine zx (ι := Nat) (fun k => [(0, .ro (.ints .i64 a) 0 a.length), (1, .ro (.ints .i64 b) 0 b.length), (12, iN a.length), (13, iN k)]) (fun _ => [])
  (fun k => k ≤ a.length ∧ a.take k = b.take k) (fun k => a.length - k) 0 ⟨⟨rfl, rfl, rfl, rfl, trivial⟩, rfl, Nat.zero_le _, rfl⟩ ?_
 intro k ⟨hk, heq⟩
 refine rn4 ?_
 refine zI J (fun h2 => ?_) (fun h2 => ?_)
 ·have hk' : k < a.length := by omega
  have ha := zw a 0 k hk'
  have hb := zw b 0 k (by omega)
  refine rn1 ?_
  refine zG7 (by kernel_rfl) (by kernel_rfl) J ?_
  refine rn6 ?_
  refine zI J (fun h3 => ?_) (fun h3 => ?_)
  ·refine rn6 ?_
   refine zO hR J ?_
   have : ¬ a = b := by rintro rfl; exact h3 rfl
   simp [zCd, this]
  ·refine rn5 ?_
   have h4 : a.getD k 0 = b.getD k 0 := by omega
   exact zT ⟨k + 1, ⟨by omega, by rw [ha, hb, heq, h4]⟩, by omega, ⟨J, J, J, J, trivial⟩, J⟩
 ·have hk' : k = a.length := by omega
  subst hk'
  rw [List.take_length, hab, List.take_length] at heq
  refine rn5 ?_
  refine zO hR J ?_
  simp [zCd, heq]
theorem zKY (l : List Int) (g : FuncId) (caps : List AV) (p : Int → Bool) (hc : noRef.noRefs caps = true) (hlen : l.length ≤ 9223372036854775807) (hp : ∀ x ∈ l, zn Tryd.prog g ([.int .i64 x] ++ caps) (.bool (p x))) :
 zn Tryd.prog 47 [.ro (.ints .i64 l) 0 l.length, .fn g caps] (.int .i64 (zDH p l)) := by
 refine ze.value0 (zP (P := Tryd.prog) (fn := Tryd.f47) J J (by kernel_rfl) J (fun c hR hfix => ?_)) (fix := fun _ => False) (fun _ h => h) (by simp [noRef.noRefs, noRef, hc]) J
 refine rn3 ?_
 refine zx (ι := Nat) (fun k => [(0, .ro (.ints .i64 l) 0 l.length), (1, .fn g caps), (7, iN l.length), (8, iN k)]) (fun _ => [])
  (fun k => k ≤ l.length ∧ (l.take k).any p = false) (fun k => l.length - k) 0 ⟨⟨rfl, rfl, rfl, rfl, trivial⟩, rfl, Nat.zero_le _, rfl⟩ ?_
 intro k ⟨hk, hany⟩
 refine rn4 ?_
 refine zI J (fun h => ?_) (fun h => ?_)
 ·have hk' : k < l.length := by omega
  have hanys := zB9 p l 0 k hk'
  refine rn6 ?_
  refine zU J J J (hp _ (zAi 0 hk')) ?_
  refine rn0 ?_
  refine zAK J (fun h2 => ?_) (fun h2 => ?_)
  ·refine rn6 ?_
   refine zO hR J ?_
   have := zCK p l k hany hk
   rw [zEv l 0 k hk'] at this
   simp only [zDH, h2, if_true] at this
   rw [this]; simp [zCd]
  ·refine rn5 ?_
   refine zT ⟨k + 1, ⟨by omega, by rw [hanys, hany, h2]; rfl⟩, by omega, ⟨J, J, J, J, trivial⟩, J⟩
 ·have hk' : k = l.length := by omega
  subst hk'
  refine rn5 ?_
  refine zO hR J ?_
  have := zCK p l l.length hany hk
  rw [List.drop_length] at this
  rw [this]; rfl
theorem zGK (l : List Int) (g : FuncId) (caps : List AV) (p : Int → Bool) (hc : noRef.noRefs caps = true) (hlen : l.length ≤ 9223372036854775807) (hp : ∀ x ∈ l, zn Tryd.prog g ([.int .i64 x] ++ caps) (.bool (p x))) :
 zn Tryd.prog 31 [.ro (.ints .i64 l) 0 l.length, .fn g caps] (.bool (l.any p)) := by
 refine ze.value0 (zP (P := Tryd.prog) (fn := Tryd.f31) J J (by kernel_rfl) J (fun c hR hfix => ?_)) (fix := fun _ => False) (fun _ h => h) (by simp [noRef.noRefs, noRef, hc]) J
 refine rn0 ?_
 refine zU J J J (zKY l g caps p hc hlen hp) ?_
 refine rn8 ?_
 refine zO hR J ?_
 simp only [zCd, zHS]
theorem zKW (l : List Int) (g : FuncId) (caps : List AV) (p : Int → Bool) (hc : noRef.noRefs caps = true) (hlen : l.length ≤ 9223372036854775807) (hp : ∀ x ∈ l, zn Tryd.prog g ([.int .i64 x] ++ caps) (.bool (p x))) :
 zn Tryd.prog 44 [.ro (.ints .i64 l) 0 l.length, .fn g caps] (.int .i64 (zDH p l)) := by
 refine ze.value0 (zP (P := Tryd.prog) (fn := Tryd.f44) J J (by kernel_rfl) J (fun c hR hfix => ?_)) (fix := fun _ => False) (fun _ h => h) (by simp [noRef.noRefs, noRef, hc]) J
 refine rn3 ?_
 refine zx (ι := Nat) (fun k => [(0, .ro (.ints .i64 l) 0 l.length), (1, .fn g caps), (7, iN l.length), (8, iN k)]) (fun _ => [])
  (fun k => k ≤ l.length ∧ (l.take k).any p = false) (fun k => l.length - k) 0 ⟨⟨rfl, rfl, rfl, rfl, trivial⟩, rfl, Nat.zero_le _, rfl⟩ ?_
 intro k ⟨hk, hany⟩
 refine rn4 ?_
 refine zI J (fun h => ?_) (fun h => ?_)
 ·have hk' : k < l.length := by omega
  have hanys := zB9 p l 0 k hk'
  refine rn6 ?_
  refine zU J J J (hp _ (zAi 0 hk')) ?_
  refine rn0 ?_
  refine zAK J (fun h2 => ?_) (fun h2 => ?_)
  ·refine rn6 ?_
   refine zO hR J ?_
   have := zCK p l k hany hk
   rw [zEv l 0 k hk'] at this
   simp only [zDH, h2, if_true] at this
   rw [this]; simp [zCd]
  ·refine rn5 ?_
   refine zT ⟨k + 1, ⟨by omega, by rw [hanys, hany, h2]; rfl⟩, by omega, ⟨J, J, J, J, trivial⟩, J⟩
 ·have hk' : k = l.length := by omega
  subst hk'
  refine rn5 ?_
  refine zO hR J ?_
  have := zCK p l l.length hany hk
  rw [List.drop_length] at this
  rw [this]; rfl
theorem zLZ (l : List Int) (g : FuncId) (caps : List AV) (p : Int → Bool) (hc : noRef.noRefs caps = true) (hlen : l.length ≤ 9223372036854775807) (hp : ∀ x ∈ l, zn Tryd.prog g ([.int .i64 x] ++ caps) (.bool (p x))) :
 zn Tryd.prog 26 [.ro (.ints .i64 l) 0 l.length, .fn g caps] (.bool (l.any p)) := by
 refine ze.value0 (zP (P := Tryd.prog) (fn := Tryd.f26) J J (by kernel_rfl) J (fun c hR hfix => ?_)) (fix := fun _ => False) (fun _ h => h) (by simp [noRef.noRefs, noRef, hc]) J
 refine rn0 ?_
 refine zU J J J (zKW l g caps p hc hlen hp) ?_
 refine rn8 ?_
 refine zO hR J ?_
 simp only [zCd, zHS]
def notOk (e : Int) : Bool := decide (e ≠ 0)
theorem fine1 (n : Int) : zn Tryd.prog 27 [.int .i64 n] (.bool (notOk n)) := by
 refine ze.value0 (zP (P := Tryd.prog) (fn := Tryd.f27) J J (by kernel_rfl) J (fun c hR hfix => ?_)) (fix := fun _ => False) (fun _ h => h) J J
 refine rn3 ?_
 refine zO hR J ?_
 simp [zCd, notOk]
theorem fineI (l : List Int) (hlen : l.length ≤ 1000) : zn Tryd.prog 12 [.ro (.ints .i64 l) 0 l.length] (.bool (!(l.any notOk))) := by
 refine ze.value0 (zP (P := Tryd.prog) (fn := Tryd.f12) J J (by kernel_rfl) J (fun c hR hfix => ?_)) (fix := fun _ => False) (fun _ h => h) J J
 refine rn0 ?_
 refine zU J J J (zLZ l 27 [] notOk J (by omega) (fun x _ => fine1 x)) ?_
 refine rn5 ?_
 exact zO hR J J
theorem zJa (l : List Int) (hl : l.length ≤ 1000000) : zG4 Tryd.prog 18 [.ro (.ints .i64 l) 0 l.length] (fun N => .sl N 0 l.length) ⟨3, .ints .i64 l⟩ := by
 refine ze.fresh (K := fun r H => r = .sl 0 0 l.length ∧ H = [some ⟨3, .ints .i64 l⟩]) (zP (P := Tryd.prog) (fn := Tryd.f18) J J (by kernel_rfl) J (fun c hR hfix => ?_)) (fix := fun _ => False) (fun _ h => h) J (fun H => ⟨J, by simp [zHT, inB]⟩) ?_
 ·refine rn0 ?_
  refine zG5 J J J (fun b hb => ?_)
  refine rn0 ?_
  refine zAK J (fun h => ?_) (fun h => ?_)
  ·have := hb h
   have hn : l = [] := List.length_eq_zero_iff.mp this
   subst hn
   refine rn7 ?_
   refine zBj 2 ⟨3, .ints .i64 []⟩ J J ?_
   refine rn2 ?_
   exact zO hR J ⟨J, J⟩
  ·refine rn1 ?_
   refine zCn J J J J J J J J J J ?_
   refine zA0 [some ⟨3, .ints .i64 []⟩] (zAs.eqv ⟨J, J, fun i j hi => absurd hi (Nat.not_lt_zero _)⟩ zAs.nil) ?_
   repeat (refine zA (zG rfl) ?_)
   refine zAY J J J J J J J J J J J J (by show 0 + l.length ≤ l.length; omega) J (by show (0 + l.length) * 8 ≤ _ ∧ _; omega) (fun i j _ _ => rfl) (by rw [hfix]; exact fun h => h) ?_
   refine rn0 ?_
   refine zO hR J ⟨?_, ?_⟩
   ·show AV.sl 0 0 (0 + l.length) = _; rw [Nat.zero_add]
   ·show ([some ⟨3, .ints .i64 ([] ++ List.take l.length (List.drop 0 l))⟩] : zM) = _
    simp
 ·rintro r H ⟨rfl, rfl⟩
  refine ⟨?_, fun h o ho => zFJ zAI h o ho, 0, J, fun n => rfl⟩
  intro o ho; simp at ho; subst ho; show 0 + l.length ≤ l.length; omega
end Go.Proofs.YtiifcejepaeepaaDoor
namespace Go.Proofs.YtiifcejepaeepaaDoor
open Go.Ax Go.Ax.Gm Go.RowKit Go.Ax.Idx Go.Ax.Cd
attribute [local irreducible] Ax zB8 QOp ze
theorem zJs (l : List Go.Ax.Gm.Pc) (m : Nat) (g : FuncId) (caps : List AV) (p : Go.Ax.Gm.Pc → Bool) (hm : m ≤ l.length) (hc : noRef.noRefs caps = true) (hlen : l.length ≤ 9223372036854775807) (hp : ∀ x ∈ l, zn Tryd.prog g ([.agg (pcC x)] ++ caps) (.bool (p x))) :
 zn Tryd.prog 63 [.ro (zAV l) 0 m, .fn g caps] (.int .i64 (zDH p (l.take m))) := by
 refine ze.value0 (zP (P := Tryd.prog) (fn := Tryd.f63) J J (by kernel_rfl) J (fun c hR hfix => ?_)) (fix := fun _ => False) (fun _ h => h) (by simp [noRef.noRefs, noRef, hc]) J
 have hlt : (l.take m).length = m := by rw [List.length_take]; omega
 refine rn3 ?_
 refine zx (ι := Nat) (fun k => [(0, .ro (zAV l) 0 m), (1, .fn g caps), (7, iN m), (8, iN k)]) (fun _ => [])
  (fun k => k ≤ m ∧ ((l.take m).take k).any p = false) (fun k => m - k) 0 ⟨⟨rfl, rfl, rfl, rfl, trivial⟩, rfl, Nat.zero_le _, rfl⟩ ?_
 intro k ⟨hk, hany⟩
 refine rn4 ?_
 refine zI J (fun h => ?_) (fun h => ?_)
 ·have hk' : k < m := by omega
  have hkl : k < l.length := by omega
  have hg : (l.take m).getD k pc0 = l.getD k pc0 := by simp [List.getD, hk', hkl]
  have hanys := zB9 p (l.take m) pc0 k (by omega)
  rw [hg] at hanys
  refine rn6 ?_
  refine zU J J J (hp _ (zAi pc0 hkl)) ?_
  refine rn0 ?_
  refine zAK J (fun h2 => ?_) (fun h2 => ?_)
  ·refine rn6 ?_
   refine zO hR J ?_
   have := zCK p (l.take m) k hany (by omega)
   rw [zEv (l.take m) pc0 k (by omega), hg] at this
   simp only [zDH, h2, if_true] at this
   rw [this]; simp [zCd]
  ·refine rn5 ?_
   refine zT ⟨k + 1, ⟨by omega, by rw [hanys, hany, h2]; rfl⟩, by omega, ⟨J, J, J, J, trivial⟩, J⟩
 ·have hk' : k = m := by omega
  subst hk'
  refine rn5 ?_
  refine zO hR J ?_
  have := zCK p (l.take k) k hany (by omega)
  rw [List.drop_of_length_le (by omega)] at this
  rw [this]; rfl
theorem zKR (l : List Go.Ax.Gm.Pc) (m : Nat) (g : FuncId) (caps : List AV) (p : Go.Ax.Gm.Pc → Bool) (hm : m ≤ l.length) (hc : noRef.noRefs caps = true) (hlen : l.length ≤ 9223372036854775807) (hp : ∀ x ∈ l, zn Tryd.prog g ([.agg (pcC x)] ++ caps) (.bool (p x))) :
 zn Tryd.prog 45 [.ro (zAV l) 0 m, .fn g caps] (.bool ((l.take m).any p)) := by
 refine ze.value0 (zP (P := Tryd.prog) (fn := Tryd.f45) J J (by kernel_rfl) J (fun c hR hfix => ?_)) (fix := fun _ => False) (fun _ h => h) (by simp [noRef.noRefs, noRef, hc]) J
 refine rn0 ?_
 refine zU J J J (zJs l m g caps p hm hc hlen hp) ?_
 refine rn8 ?_
 refine zO hR J ?_
 simp only [zCd, zHS]
theorem zJr (l : List Go.Ax.Gm.En) (m : Nat) (g : FuncId) (caps : List AV) (p : Go.Ax.Gm.En → Bool) (hm : m ≤ l.length) (hc : noRef.noRefs caps = true) (hlen : l.length ≤ 9223372036854775807) (hp : ∀ x ∈ l, zn Tryd.prog g ([.agg (enC x)] ++ caps) (.bool (p x))) :
 zn Tryd.prog 50 [.ro (zEa l) 0 m, .fn g caps] (.int .i64 (zDH p (l.take m))) := by
 refine ze.value0 (zP (P := Tryd.prog) (fn := Tryd.f50) J J (by kernel_rfl) J (fun c hR hfix => ?_)) (fix := fun _ => False) (fun _ h => h) (by simp [noRef.noRefs, noRef, hc]) J
 have hlt : (l.take m).length = m := by rw [List.length_take]; omega
 refine rn3 ?_
 refine zx (ι := Nat) (fun k => [(0, .ro (zEa l) 0 m), (1, .fn g caps), (7, iN m), (8, iN k)]) (fun _ => [])
  (fun k => k ≤ m ∧ ((l.take m).take k).any p = false) (fun k => m - k) 0 ⟨⟨rfl, rfl, rfl, rfl, trivial⟩, rfl, Nat.zero_le _, rfl⟩ ?_
 intro k ⟨hk, hany⟩
 refine rn4 ?_
 refine zI J (fun h => ?_) (fun h => ?_)
 ·have hk' : k < m := by omega
  have hkl : k < l.length := by omega
  have hg : (l.take m).getD k en0 = l.getD k en0 := by simp [List.getD, hk', hkl]
  have hanys := zB9 p (l.take m) en0 k (by omega)
  rw [hg] at hanys
  refine rn6 ?_
  refine zU J J J (hp _ (zAi en0 hkl)) ?_
  refine rn0 ?_
  refine zAK J (fun h2 => ?_) (fun h2 => ?_)
  ·refine rn6 ?_
   refine zO hR J ?_
   have := zCK p (l.take m) k hany (by omega)
   rw [zEv (l.take m) en0 k (by omega), hg] at this
   simp only [zDH, h2, if_true] at this
   rw [this]; simp [zCd]
  ·refine rn5 ?_
   refine zT ⟨k + 1, ⟨by omega, by rw [hanys, hany, h2]; rfl⟩, by omega, ⟨J, J, J, J, trivial⟩, J⟩
 ·have hk' : k = m := by omega
  subst hk'
  refine rn5 ?_
  refine zO hR J ?_
  have := zCK p (l.take k) k hany (by omega)
  rw [List.drop_of_length_le (by omega)] at this
  rw [this]; rfl
/-- rules.within -/
theorem zAk (n a b : Int) : zn Tryd.prog 29 [.int .i64 n, .int .i64 a, .int .i64 b] (.bool (within n a b)) := by
 refine ze.value0 (zP (P := Tryd.prog) (fn := Tryd.f29) J J (by kernel_rfl) J (fun c hR hfix => ?_)) (fix := fun _ => False) (fun _ h => h) J J
 refine rn7 ?_
 refine zh J J (fun h => ?_) (fun h => ?_)
 ·refine rn8 ?_
  refine zO hR J ?_
  have h : a ≤ n := h
  unfold within; rw [decide_eq_true h]; rfl
 ·refine rn6 ?_
  refine zO hR J ?_
  have h : ¬ a ≤ n := h
  unfold within; rw [decide_eq_false h]; rfl
/-- rules.Name -/
theorem name_ok (s : zCp) (hs : s.length ≤ 9223372036854775807) : zn Tryd.prog 28 [.str s] (.bool (zHf s)) := by
 refine ze.value0 (zP (P := Tryd.prog) (fn := Tryd.f28) J J (by kernel_rfl) J (fun c hR hfix => ?_)) (fix := fun _ => False) (fun _ h => h) J J
 refine rn6 ?_
 refine zx (ι := Nat) (fun k => [(0, .str s), (6, iN s.length), (7, iN k)]) (fun _ => [])
  (fun k => k ≤ s.length ∧ (List.range k).all (zFG s) = true) (fun k => s.length - k) 0 ⟨⟨rfl, rfl, rfl, trivial⟩, rfl, Nat.zero_le _, rfl⟩ ?_
 intro k ⟨hk, hall⟩
 refine rn4 ?_
 refine zI J (fun h => ?_) (fun h => ?_)
 ·have hk' : k < s.length := by omega
  have hall' : (List.range (k + 1)).all (zFG s) = ((List.range k).all (zFG s) && zFG s k) := by rw [List.range_succ, List.all_append]; simp
  rw [hall, Bool.true_and] at hall'
  have hnat : (s.getD k 0).toNat = (s.getD ((k : Int).toNat) 0).toNat := rfl
  have bad : ((s.getD k 0).toNat < 65 ∨ 90 < (s.getD k 0).toNat) → (k = 0 ∨ (s.getD k 0).toNat < 48 ∨ 57 < (s.getD k 0).toNat) → zHf s = false := fun h1 h2 => by
   have : zFG s k = false := by
    unfold zFG isCap isNum
    rw [Bool.or_eq_false_iff, Bool.and_eq_false_iff, Bool.and_eq_false_iff, decide_eq_false_iff_not, decide_eq_false_iff_not, decide_eq_false_iff_not, Bool.and_eq_false_iff, decide_eq_false_iff_not, decide_eq_false_iff_not]
    omega
   unfold zHf
   rw [show (List.range s.length).all (zFG s) = false from Bool.eq_false_iff.2 (fun q => by rw [List.all_eq_true.1 q k (List.mem_range.2 hk')] at this; cases this)]
   rfl
  have good : ((65 ≤ (s.getD k 0).toNat ∧ (s.getD k 0).toNat ≤ 90) ∨ (k ≠ 0 ∧ 48 ≤ (s.getD k 0).toNat ∧ (s.getD k 0).toNat ≤ 57)) → zFG s k = true := fun h => by
   unfold zFG isCap isNum
   rw [Bool.or_eq_true, Bool.and_eq_true, Bool.and_eq_true, Bool.and_eq_true, decide_eq_true_eq, decide_eq_true_eq, decide_eq_true_eq, decide_eq_true_eq, decide_eq_true_eq]
   exact h
  refine zBW ?_
  refine zh J J (fun h1 => ?_) (fun h1 => ?_)
  ·repeat (first | refine zA (zG rfl) ?_ | refine zA (zN rfl) ?_ | refine zC ?_ | refine zB ?_ | refine zX ?_ | refine zK rfl ?_ | refine zl rfl rfl ?_ | refine zA (q_leq rfl rfl) ?_ | refine zA (zDv rfl) ?_ | refine zA (zd rfl rfl) ?_ | refine zA (zDQ rfl rfl rfl (by first | assumption | omega | simp)) ?_)
   refine zAg J J (fun h2 => ?_) (fun h2 => ?_)
   ·rw [Bool.not_eq_true', decide_eq_false_iff_not] at h2
    refine rn4 ?_
    refine zh J J (fun h5 => ?_) (fun h5 => ?_)
    ·refine rn6 ?_
     refine zO hR J ?_
     exact congrArg AV.bool (bad (.inr (by omega)) (.inl (by omega))).symm
    ·repeat (first | refine zA (zG rfl) ?_ | refine zl rfl rfl ?_ | refine zA (zBv rfl rfl) ?_ | refine zA (zd rfl rfl) ?_ | refine zA (zDQ rfl rfl rfl (by first | assumption | omega | simp)) ?_)
     refine zh J J (fun h6 => ?_) (fun h6 => ?_)
     ·refine rn6 ?_
      refine zO hR J ?_
      exact congrArg AV.bool (bad (.inr (by omega)) (.inr (.inl (by omega)))).symm
     ·repeat (first | refine zA (zG rfl) ?_ | refine zC ?_ | refine zB ?_ | refine zl rfl rfl ?_ | refine zA (zCL rfl rfl) ?_ | refine zA (zd rfl rfl) ?_ | refine zA (zDQ rfl rfl rfl (by first | assumption | omega | simp)) ?_)
      refine zI J (fun h7 => ?_) (fun h7 => ?_)
      ·refine rn6 ?_
       refine zO hR J ?_
       exact congrArg AV.bool (bad (.inr (by omega)) (.inr (.inr (by omega)))).symm
      ·refine rn5 ?_
       exact zT ⟨k + 1, ⟨by omega, by rw [hall']; exact good (.inr ⟨by omega, by omega, by omega⟩)⟩, by omega, ⟨J, J, J, trivial⟩, J⟩
   ·rw [Bool.not_eq_false', decide_eq_true_eq] at h2
    refine rn14 ?_
    exact zT ⟨k + 1, ⟨by omega, by rw [hall']; exact good (.inl ⟨by omega, by omega⟩)⟩, by omega, ⟨J, J, J, trivial⟩, J⟩
  ·refine rn6 ?_
   refine zh J J (fun h5 => ?_) (fun h5 => ?_)
   ·refine rn6 ?_
    refine zO hR J ?_
    exact congrArg AV.bool (bad (.inl (by omega)) (.inl (by omega))).symm
   ·repeat (first | refine zA (zG rfl) ?_ | refine zl rfl rfl ?_ | refine zA (zBv rfl rfl) ?_ | refine zA (zd rfl rfl) ?_ | refine zA (zDQ rfl rfl rfl (by first | assumption | omega | simp)) ?_)
    refine zh J J (fun h6 => ?_) (fun h6 => ?_)
    ·refine rn6 ?_
     refine zO hR J ?_
     exact congrArg AV.bool (bad (.inl (by omega)) (.inr (.inl (by omega)))).symm
    ·repeat (first | refine zA (zG rfl) ?_ | refine zC ?_ | refine zB ?_ | refine zl rfl rfl ?_ | refine zA (zCL rfl rfl) ?_ | refine zA (zd rfl rfl) ?_ | refine zA (zDQ rfl rfl rfl (by first | assumption | omega | simp)) ?_)
     refine zI J (fun h7 => ?_) (fun h7 => ?_)
     ·refine rn6 ?_
      refine zO hR J ?_
      exact congrArg AV.bool (bad (.inl (by omega)) (.inr (.inr (by omega)))).symm
     ·refine rn5 ?_
      exact zT ⟨k + 1, ⟨by omega, by rw [hall']; exact good (.inr ⟨by omega, by omega, by omega⟩)⟩, by omega, ⟨J, J, J, trivial⟩, J⟩
 ·have hk' : k = s.length := by omega
  subst hk'
  repeat (first | refine zA (zG rfl) ?_ | refine zB ?_ | refine zX ?_ | refine zK rfl ?_ | refine zCD ?_ | refine zAe ?_ | refine zAd ?_ | refine zAm ?_ | refine zA (zF4 rfl rfl) ?_)
  refine zh J J (fun h1 => ?_) (fun h1 => ?_)
  ·refine rn8 ?_
   refine zO hR J ?_
   have h1 : ¬ s = [] := h1
   unfold zHf
   rw [hall, Bool.true_and, decide_eq_true (p := s ≠ []) h1, Bool.true_and]
   exact congrArg AV.bool (decide_eq_decide.2 (by omega))
  ·refine rn6 ?_
   refine zO hR J ?_
   have h1 : s = [] := Classical.not_not.1 h1
   rw [h1]; rfl
/-- rules.pieces$1 -/
theorem zKj (q p : Pc) : zn Tryd.prog 46 [.agg (pcC q), .rp (.box (pcC p)) 0 0] (.bool (decide (q.letter = p.letter))) := by
 refine ze.value0 (zP (P := Tryd.prog) (fn := Tryd.f46) J J (by kernel_rfl) J (fun c hR hfix => ?_)) (fix := fun _ => False) (fun _ h => h) J J
 repeat (first | refine zA (zN rfl) ?_ | refine zC ?_ | refine zB ?_ | refine zX ?_ | refine zK rfl ?_ | refine zu ?_ | refine zA (zR rfl rfl rfl rfl rfl) ?_ | refine zA (zBh rfl rfl) ?_ | refine zA (zD rfl rfl rfl rfl) ?_ | refine zA (zL rfl rfl rfl rfl rfl rfl) ?_ | refine zA (zH rfl rfl rfl rfl rfl rfl) ?_ | refine zAp rfl rfl ?_)
 exact zO hR J J
/-- rules.pieces -/
theorem zLz (r : Go.Ax.Gm.Rules) (hr : Lens r) : zn Tryd.prog 30 [ruA r] (.int .i64 (zBn r.pcs)) := by
 refine ze.value0 (zP (P := Tryd.prog) (fn := Tryd.f30) J J (by kernel_rfl) J (fun c hR hfix => ?_)) (fix := fun _ => False) (fun _ h => h) J J
 have hpl := hr.pcs
 refine zX ?_
 repeat (first | refine zA (zN rfl) ?_ | refine zC ?_ | refine zB ?_ | refine zK rfl ?_ | refine zAp rfl rfl ?_)
 refine zCG 1 [(2, .int .i64 0)] J ⟨J, J, trivial⟩ ⟨J, trivial⟩ J hfix ?_
 refine zBW ?_
 refine zI J (fun h => ?_) (fun h => ?_)
 ·refine rn2 ?_
  refine zO hR J ?_
  unfold zBn; rw [if_pos (by omega)]; rfl
 repeat (first | refine zC ?_ | refine zB ?_ | refine zX ?_ | refine zK rfl ?_ | refine zAG ?_ | refine zA (zCL rfl rfl) ?_ | refine zA (zA2 rfl rfl rfl) ?_ | refine zA (zD rfl rfl rfl rfl) ?_ | refine zA (zH rfl rfl rfl rfl rfl rfl) ?_)
 refine zI J (fun h1 => ?_) (fun h1 => ?_)
 ·refine rn2 ?_
  refine zO hR J ?_
  unfold zBn; rw [if_neg (by omega), if_pos (by omega)]; rfl
 refine zBW ?_
 refine zx (ι := Nat) (fun k => [(1, .rp (.box (ruC r)) 0 0), (16, .ro (zAV r.pcs) 0 r.pcs.length), (17, iN r.pcs.length), (18, iN k)]) (fun _ => [])
  (fun k => k ≤ r.pcs.length ∧ upE (zCW r.pcs) k = 0) (fun k => r.pcs.length - k) 0 ⟨⟨rfl, rfl, rfl, rfl, trivial⟩, rfl, Nat.zero_le _, rfl⟩ ?_
 intro k ⟨hk, hup⟩
 refine rn4 ?_
 refine zI J (fun h2 => ?_) (fun h2 => ?_)
 ·have hk' : k < r.pcs.length := by omega
  have done : ∀ e, zCW r.pcs k = e → e ≠ 0 → zBn r.pcs = e := fun e he hne => by
   unfold zBn
   rw [if_neg (by omega), if_neg (by omega), zH5 hup (by rw [he]; exact hne) hk', he]
  generalize hp : r.pcs.getD k pc0 = p
  have hpw := hr.ways p (by rw [← hp]; exact zAi pc0 hk')
  refine zGV ?_
  refine rn8 ?_
  refine zW (pcC p) J J J J J (by rw [← hp]; rfl) J ?_
  refine rn0 ?_
  refine zCG 4 [(1, .rp (.box (ruC r)) 0 0), (16, .ro (zAV r.pcs) 0 r.pcs.length), (17, iN r.pcs.length), (18, iN k), (3, iN k)] J ⟨J, J, J, J, J, J, trivial⟩ ⟨J, J, J, J, J, trivial⟩ J hfix ?_
  repeat (first | refine zA (zG rfl) ?_ | refine zX ?_ | refine zK rfl ?_ | refine zAL ?_ | refine zA (zBv rfl rfl) ?_ | refine zA (zD rfl rfl rfl rfl) ?_ | refine zA (zH rfl rfl rfl rfl rfl rfl) ?_)
  refine zh J J (fun h3 => ?_) (fun h3 => ?_)
  ·refine rn6 ?_
   refine zO hR J ?_
   rw [done 6 (by unfold zCW; rw [hp, if_pos (.inl h3)]) (by decide)]; rfl
  refine zAz ?_
  refine zI J (fun h4 => ?_) (fun h4 => ?_)
  ·refine rn6 ?_
   refine zO hR J ?_
   rw [done 6 (by unfold zCW; rw [hp, if_pos (.inr h4)]) (by decide)]; rfl
  repeat (first | refine zA (zG rfl) ?_ | refine zX ?_ | refine zK rfl ?_ | refine zA (zFV rfl rfl rfl rfl rfl rfl rfl (by omega)) ?_ | refine zA (zD rfl rfl rfl rfl) ?_ | refine zA (zCX rfl) ?_ | refine zA (zH rfl rfl rfl rfl rfl rfl) ?_)
  refine zU J J J (zKR r.pcs k 46 [.rp (.box (pcC p)) 0 0] (fun q => decide (q.letter = p.letter)) (by omega) J hpl (fun q _ => zKj q p)) ?_
  refine rn0 ?_
  refine zAK J (fun h5 => ?_) (fun h5 => ?_)
  ·refine rn6 ?_
   refine zO hR J ?_
   rw [done 7 (by unfold zCW; rw [hp, if_neg (by omega), if_pos h5]) (by decide)]; rfl
  have h5 : ¬ ((r.pcs.take k).any (fun q => decide (q.letter = p.letter)) = true) := by rw [h5]; exact Bool.false_ne_true
  refine zBW ?_
  refine zU J J J (zAk _ _ _) ?_
  refine rn5 ?_
  refine zAg J J (fun h6 => ?_) (fun h6 => ?_)
  ·refine rn6 ?_
   refine zO hR J ?_
   rw [Bool.not_eq_true'] at h6
   rw [done 4 (by unfold zCW; rw [hp, if_neg (by omega), if_neg h5, if_pos (fun q => by rw [h6] at q; exact Bool.false_ne_true q.1)]) (by decide)]; rfl
  rw [Bool.not_eq_false'] at h6
  refine zAz ?_
  refine zU J J J (zAk _ _ _) ?_
  refine rn5 ?_
  refine zAK J (fun h7 => ?_) (fun h7 => ?_)
  ·refine rn6 ?_
   refine zO hR J ?_
   rw [Bool.not_eq_true'] at h7
   rw [done 4 (by unfold zCW; rw [hp, if_neg (by omega), if_neg h5, if_pos (fun q => by rw [h7] at q; exact Bool.false_ne_true q.2)]) (by decide)]; rfl
  rw [Bool.not_eq_false'] at h7
  have h67 : ¬ ¬ (within p.hand 0 64 = true ∧ within p.promote 0 r.pcs.length = true) := fun q => q ⟨h6, h7⟩
  repeat (first | refine zA (zN rfl) ?_ | refine zC ?_ | refine zB ?_ | refine zX ?_ | refine zK rfl ?_ | refine zA (zCL rfl rfl) ?_ | refine zA (zA2 rfl rfl rfl) ?_ | refine zA (zD rfl rfl rfl rfl) ?_ | refine zA (zH rfl rfl rfl rfl rfl rfl) ?_)
  refine zI J (fun h8 => ?_) (fun h8 => ?_)
  ·refine rn6 ?_
   refine zO hR J ?_
   rw [done 2 (by unfold zCW; rw [hp, if_neg (by omega), if_neg h5, if_neg h67, if_pos (by omega)]) (by decide)]; rfl
  have bad : p.ways.all zDV = false → zBn r.pcs = 4 := fun q => done 4 (by unfold zCW; rw [hp, if_neg (by omega), if_neg h5, if_neg h67, if_neg (by omega), if_pos q]) (by decide)
  refine zBW ?_
  refine zx (ι := Nat) (fun j => [(1, .rp (.box (ruC r)) 0 0), (16, .ro (zAV r.pcs) 0 r.pcs.length), (17, iN r.pcs.length), (18, iN k), (59, .ro (zDx p.ways) 0 p.ways.length), (60, iN p.ways.length), (61, iN j)]) (fun _ => [])
   (fun j => j ≤ p.ways.length ∧ (p.ways.take j).all zDV = true) (fun j => p.ways.length - j) 0 ⟨⟨rfl, rfl, rfl, rfl, rfl, rfl, rfl, trivial⟩, rfl, Nat.zero_le _, rfl⟩ ?_
  intro j ⟨hj, hall⟩
  refine rn4 ?_
  refine zI J (fun g1 => ?_) (fun g1 => ?_)
  ·have hj' : j < p.ways.length := by omega
   generalize hw : p.ways.getD j way0 = w
   have hwm : w ∈ p.ways := by rw [← hw]; exact zAi way0 hj'
   have no : zDV w = false → zBn r.pcs = 4 := fun q => bad (Bool.eq_false_iff.2 (fun q2 => by rw [List.all_eq_true.1 q2 w hwm] at q; cases q))
   have yes : zDV w = true → (p.ways.take (j + 1)).all zDV = true := fun q => by rw [zw _ way0 j hj', List.all_append, hall, hw]; simp [q]
   refine zGV ?_
   repeat (refine zAJ rfl rfl rfl ?_)
   refine zW (zEu w) J J J J J (by rw [← hw]; rfl) J ?_
   refine zAz ?_
   refine zCG 6 [(1, .rp (.box (ruC r)) 0 0), (16, .ro (zAV r.pcs) 0 r.pcs.length), (17, iN r.pcs.length), (18, iN k), (59, .ro (zDx p.ways) 0 p.ways.length), (60, iN p.ways.length), (61, iN j)] J ⟨J, J, J, J, J, J, J, J, trivial⟩ ⟨J, J, J, J, J, J, J, trivial⟩ J hfix ?_
   refine zBW ?_
   refine zU J J J (zAk _ _ _) ?_
   refine rn5 ?_
   refine zAg J J (fun g2 => ?_) (fun g2 => ?_)
   ·repeat (first | refine zA (zG rfl) ?_ | refine zA (zN rfl) ?_ | refine zC ?_ | refine zB ?_ | refine zX ?_ | refine zK rfl ?_ | refine zAc rfl rfl ?_ | refine zAM rfl rfl rfl ?_ | refine zAZ rfl ?_ | refine zu ?_ | refine zBA ?_ | refine zD2 ?_ | refine zD3 ?_ | refine zA (zd rfl rfl) ?_)
    refine zO hR J ?_
    rw [Bool.not_eq_true'] at g2
    rw [no (by unfold zDV; rw [g2]; rfl)]; rfl
   rw [Bool.not_eq_false'] at g2
   refine zAz ?_
   refine zU J J J (zAk _ _ _) ?_
   refine rn5 ?_
   refine zAg J J (fun g3 => ?_) (fun g3 => ?_)
   ·repeat (first | refine zA (zG rfl) ?_ | refine zA (zN rfl) ?_ | refine zC ?_ | refine zB ?_ | refine zX ?_ | refine zK rfl ?_ | refine zAc rfl rfl ?_ | refine zAM rfl rfl rfl ?_ | refine zAZ rfl ?_ | refine zu ?_ | refine zBA ?_ | refine zD2 ?_ | refine zD3 ?_ | refine zA (zd rfl rfl) ?_)
    refine zO hR J ?_
    rw [Bool.not_eq_true'] at g3
    rw [no (by unfold zDV; rw [g2, g3]; rfl)]; rfl
   rw [Bool.not_eq_false'] at g3
   refine zAz ?_
   refine zh J J (fun g4 => ?_) (fun g4 => ?_)
   ·refine zAz ?_
    refine zh J J (fun g5 => ?_) (fun g5 => ?_)
    ·refine rn6 ?_
     refine zO hR J ?_
     rw [no (by unfold zDV; rw [g2, g3, decide_eq_true (show w.dx = 0 from g4), decide_eq_true (show w.dy = 0 from g5)]; rfl)]; rfl
    have gz : (!(decide (w.dx = 0) && decide (w.dy = 0))) = true := by rw [decide_eq_false (show ¬ w.dy = 0 from g5), Bool.and_false]; rfl
    refine zAz ?_
    refine zU J J J (zAk _ _ _) ?_
    refine rn5 ?_
    refine zAg J J (fun g6 => ?_) (fun g6 => ?_)
    ·refine rn6 ?_
     refine zO hR J ?_
     rw [Bool.not_eq_true'] at g6
     rw [no (by unfold zDV; rw [g2, g3, gz, g6]; rfl)]; rfl
    rw [Bool.not_eq_false'] at g6
    refine zAz ?_
    refine zU J J J (zAk _ _ _) ?_
    refine rn5 ?_
    refine zAK J (fun g7 => ?_) (fun g7 => ?_)
    ·refine rn6 ?_
     refine zO hR J ?_
     rw [Bool.not_eq_true'] at g7
     rw [no (by unfold zDV; rw [g2, g3, gz, g6, g7]; rfl)]; rfl
    rw [Bool.not_eq_false'] at g7
    refine rn5 ?_
    exact zT ⟨j + 1, ⟨by omega, yes (by unfold zDV; rw [g2, g3, gz, g6, g7]; rfl)⟩, by omega, ⟨J, J, J, J, J, J, J, trivial⟩, J⟩
   have gz : (!(decide (w.dx = 0) && decide (w.dy = 0))) = true := by rw [decide_eq_false (show ¬ w.dx = 0 from g4)]; rfl
   refine zAz ?_
   refine zU J J J (zAk _ _ _) ?_
   refine rn5 ?_
   refine zAg J J (fun g6 => ?_) (fun g6 => ?_)
   ·refine rn6 ?_
    refine zO hR J ?_
    rw [Bool.not_eq_true'] at g6
    rw [no (by unfold zDV; rw [g2, g3, gz, g6]; rfl)]; rfl
   rw [Bool.not_eq_false'] at g6
   refine zAz ?_
   refine zU J J J (zAk _ _ _) ?_
   refine rn5 ?_
   refine zAK J (fun g7 => ?_) (fun g7 => ?_)
   ·refine rn6 ?_
    refine zO hR J ?_
    rw [Bool.not_eq_true'] at g7
    rw [no (by unfold zDV; rw [g2, g3, gz, g6, g7]; rfl)]; rfl
   rw [Bool.not_eq_false'] at g7
   refine rn5 ?_
   exact zT ⟨j + 1, ⟨by omega, yes (by unfold zDV; rw [g2, g3, gz, g6, g7]; rfl)⟩, by omega, ⟨J, J, J, J, J, J, J, trivial⟩, J⟩
  ·have hj' : j = p.ways.length := by omega
   subst hj'
   rw [List.take_length] at hall
   refine rn5 ?_
   refine zT ⟨k + 1, ⟨by omega, zKI hup (by unfold zCW; rw [hp, if_neg (by omega), if_neg h5, if_neg h67, if_neg (by omega), if_neg (by rw [hall]; decide)])⟩, by omega, ⟨J, J, J, J, trivial⟩, J⟩
 ·have hk' : k = r.pcs.length := by omega
  subst hk'
  refine rn5 ?_
  refine zO hR J ?_
  unfold zBn; rw [if_neg (by omega), if_neg (by omega), hup]; rfl
/-- rules.Check$1 -/
theorem zLW (r : Go.Ax.Gm.Rules) (hr : Lens r) (h6 : r.pcs.length ≤ 6) (c0 : Int) : zn Tryd.prog 32 [.int .i64 c0, .rp (.box (ruC r)) 0 0] (.bool (!(zDm r.pcs.length c0))) := by
 refine ze.value0 (zP (P := Tryd.prog) (fn := Tryd.f32) J J (by kernel_rfl) J (fun c hR hfix => ?_)) (fix := fun _ => False) (fun _ h => h) J J
 have hpl := hr.pcs
 refine zBW ?_
 refine zA (zCY J J (by omega)) ?_
 skip
 refine zU J J J (zAk _ _ _) ?_
 refine rn5 ?_
 exact zO hR J J
/-- rules.conditions -/
theorem zH8 (r : Go.Ax.Gm.Rules) (hr : Lens r) : zn Tryd.prog 33 [ruA r] (.int .i64 (zFD r.pcs.length r.ends)) := by
 refine ze.value0 (zP (P := Tryd.prog) (fn := Tryd.f33) J J (by kernel_rfl) J (fun c hR hfix => ?_)) (fix := fun _ => False) (fun _ h => h) J J
 have hpl := hr.pcs
 have hel := hr.ends
 refine zX ?_
 repeat (first | refine zA (zN rfl) ?_ | refine zC ?_ | refine zB ?_ | refine zK rfl ?_ | refine zAp rfl rfl ?_)
 refine zCG 1 [(2, .int .i64 0)] J ⟨J, J, trivial⟩ ⟨J, trivial⟩ J hfix ?_
 repeat (first | refine zC ?_ | refine zB ?_ | refine zX ?_ | refine zK rfl ?_ | refine zA (zCL rfl rfl) ?_ | refine zA (zA2 rfl rfl rfl) ?_ | refine zA (zD rfl rfl rfl rfl) ?_ | refine zA (zH rfl rfl rfl rfl rfl rfl) ?_)
 refine zI J (fun h => ?_) (fun h => ?_)
 ·refine rn2 ?_
  refine zO hR J ?_
  unfold zFD; rw [if_pos (by omega)]; rfl
 refine zBW ?_
 refine zx (ι := Nat) (fun k => [(1, .rp (.box (ruC r)) 0 0), (12, .ro (zEa r.ends) 0 r.ends.length), (13, iN r.ends.length), (14, iN k)]) (fun _ => [])
  (fun k => k ≤ r.ends.length ∧ upE (fun i => zDG r.pcs.length (r.ends.getD i en0)) k = 0) (fun k => r.ends.length - k) 0 ⟨⟨rfl, rfl, rfl, rfl, trivial⟩, rfl, Nat.zero_le _, rfl⟩ ?_
 intro k ⟨hk, hup⟩
 refine rn4 ?_
 refine zI J (fun h2 => ?_) (fun h2 => ?_)
 ·have hk' : k < r.ends.length := by omega
  generalize hx : r.ends.getD k en0 = x
  have done : ∀ e, zDG r.pcs.length x = e → e ≠ 0 → zFD r.pcs.length r.ends = e := fun e he hne => by
   unfold zFD
   rw [if_neg (by omega), zH5 (f := fun i => zDG r.pcs.length (r.ends.getD i en0)) hup (by show zDG _ _ ≠ 0; rw [hx, he]; exact hne) hk']
   show zDG _ _ = e; rw [hx, he]
  have next : zDG r.pcs.length x = 0 → upE (fun i => zDG r.pcs.length (r.ends.getD i en0)) (k + 1) = 0 := fun he => zKI hup (by show zDG _ _ = 0; rw [hx, he])
  refine zGV ?_
  repeat (refine zAJ rfl rfl rfl ?_)
  refine zW (enC x) J J J J J (by rw [← hx]; rfl) J ?_
  refine zAz ?_
  refine zCG 4 [(1, .rp (.box (ruC r)) 0 0), (12, .ro (zEa r.ends) 0 r.ends.length), (13, iN r.ends.length), (14, iN k)] J ⟨J, J, J, J, J, trivial⟩ ⟨J, J, J, J, trivial⟩ J hfix ?_
  refine zb (by kernel_rfl) ?_
  refine zBE (fuel := 0) [0, 1, 2, 3, 4, 5, 6, 7, 8, 9, 10, 11] [(4, .rp (.box (enC x)) 0 0), (1, .rp (.box (ruC r)) 0 0), (12, .ro (zEa r.ends) 0 r.ends.length), (13, iN r.ends.length), (14, iN k)] ⟨J, J, J, J, J, trivial⟩ (by kernel_rfl) (by decide) J J ?_
  refine zJ J J (zH J J J J J J) ?_
  refine zJ J J (zD J J J J) ?_
  refine zCH J J J J J (zAk _ _ _) ?_
  refine zJ J J (zH J J J J J J) ?_
  refine zJ J J (zD J J J J) ?_
  refine zJ J J (zH J J J J J J) ?_
  refine zJ J J (zD J J J J) ?_
  refine zJ J J (zA2 J J J) ?_
  refine zJ J J (zA8 J J (by omega)) ?_
  refine zCH J J J J J (zAk _ _ _) ?_
  refine zJ J J (zN J) ?_
  refine zJ J J (zN J) ?_
  refine z6 ?_
  refine zZ (by kernel_rfl) ?_
  refine zBW ?_
  refine zI J (fun k0 => ?_) (fun k0 => ?_)
  ·repeat (first | refine zA (zG rfl) ?_ | refine zA (zN rfl) ?_ | refine zC ?_ | refine zB ?_ | refine zX ?_ | refine zK rfl ?_ | refine zAH ?_ | refine zA (zBh rfl rfl) ?_ | refine zA (zDv rfl) ?_ | refine zA (zD rfl rfl rfl rfl) ?_ | refine zA (zH rfl rfl rfl rfl rfl rfl) ?_)
   refine zAg J J (fun g1 => ?_) (fun g1 => ?_)
   ·refine rn6 ?_
    refine zO hR J ?_
    rw [done 4 (by unfold zDG; rw [if_pos k0]; rw [Bool.not_eq_true', ← Bool.not_eq_true] at g1; rw [if_neg (fun q => g1 q.1)]) (by decide)]; rfl
   refine rn5 ?_
   refine zAK J (fun g2 => ?_) (fun g2 => ?_)
   ·refine rn6 ?_
    refine zO hR J ?_
    rw [done 4 (by unfold zDG; rw [if_pos k0]; rw [Bool.not_eq_true', decide_eq_false_iff_not] at g2; rw [if_neg (fun q => g2 q.2)]) (by decide)]; rfl
   refine rn5 ?_
   exact zT ⟨k + 1, ⟨by omega, next (by unfold zDG; rw [if_pos k0]; rw [Bool.not_eq_false'] at g1; rw [Bool.not_eq_false', decide_eq_true_eq] at g2; rw [if_pos ⟨g1, g2⟩])⟩, by omega, ⟨J, J, J, J, trivial⟩, J⟩
  refine rn4 ?_
  refine zI J (fun k1 => ?_) (fun k1 => ?_)
  ·repeat (first | refine zA (zG rfl) ?_ | refine zA (zN rfl) ?_ | refine zC ?_ | refine zB ?_ | refine zX ?_ | refine zK rfl ?_ | refine zAH ?_ | refine zA (zBh rfl rfl) ?_ | refine zA (zDv rfl) ?_ | refine zA (zD rfl rfl rfl rfl) ?_ | refine zA (zH rfl rfl rfl rfl rfl rfl) ?_)
   refine zAg J J (fun g1 => ?_) (fun g1 => ?_)
   ·refine rn6 ?_
    refine zO hR J ?_
    rw [done 4 (by unfold zDG; rw [if_neg k0, if_pos k1]; rw [Bool.not_eq_true', decide_eq_false_iff_not] at g1; rw [if_neg (fun q => g1 q.1)]) (by decide)]; rfl
   refine rn5 ?_
   refine zAK J (fun g2 => ?_) (fun g2 => ?_)
   ·refine rn6 ?_
    refine zO hR J ?_
    rw [done 4 (by unfold zDG; rw [if_neg k0, if_pos k1]; rw [Bool.not_eq_true', ← Bool.not_eq_true] at g2; rw [if_neg (fun q => g2 q.2)]) (by decide)]; rfl
   refine rn5 ?_
   exact zT ⟨k + 1, ⟨by omega, next (by unfold zDG; rw [if_neg k0, if_pos k1]; rw [Bool.not_eq_false', decide_eq_true_eq] at g1; rw [Bool.not_eq_false'] at g2; rw [if_pos ⟨g1, g2⟩])⟩, by omega, ⟨J, J, J, J, trivial⟩, J⟩
  refine rn4 ?_
  refine zI J (fun k2 => ?_) (fun k2 => ?_)
  ·refine rn5 ?_
   refine zAg J J (fun g1 => ?_) (fun g1 => ?_)
   ·refine rn6 ?_
    refine zO hR J ?_
    rw [done 4 (by unfold zDG; rw [if_neg k0, if_neg k1, if_pos k2]; rw [Bool.not_eq_true', ← Bool.not_eq_true] at g1; rw [if_neg (fun q => g1 q.1)]) (by decide)]; rfl
   refine rn5 ?_
   refine zAK J (fun g2 => ?_) (fun g2 => ?_)
   ·refine rn6 ?_
    refine zO hR J ?_
    rw [done 4 (by unfold zDG; rw [if_neg k0, if_neg k1, if_pos k2]; rw [Bool.not_eq_true', ← Bool.not_eq_true] at g2; rw [if_neg (fun q => g2 q.2)]) (by decide)]; rfl
   refine rn5 ?_
   exact zT ⟨k + 1, ⟨by omega, next (by unfold zDG; rw [if_neg k0, if_neg k1, if_pos k2]; rw [Bool.not_eq_false'] at g1; rw [Bool.not_eq_false'] at g2; rw [if_pos ⟨g1, g2⟩])⟩, by omega, ⟨J, J, J, J, trivial⟩, J⟩
  refine rn6 ?_
  refine zO hR J ?_
  rw [done 1 (by unfold zDG; rw [if_neg k0, if_neg k1, if_neg k2]) (by decide)]; rfl
 ·have hk' : k = r.ends.length := by omega
  subst hk'
  refine rn5 ?_
  refine zO hR J ?_
  unfold zFD; rw [if_neg (by omega), hup]; rfl
theorem zKJ (a : Go.Ax.Gm.Way) (j k : Nat) (hj : j < 4) : ((zEu a).getD j .any).forget k = (zEu a).getD j .any := by
 match j, hj with
 | 0, _ => rfl
 | 1, _ => rfl
 | 2, _ => rfl
 | 3, _ => rfl
theorem zKT (a : Go.Ax.Gm.En) (j k : Nat) (hj : j < 4) : ((enC a).getD j .any).forget k = (enC a).getD j .any := by
 match j, hj with
 | 0, _ => rfl
 | 1, _ => rfl
 | 2, _ => rfl
 | 3, _ => rfl
theorem zKi (a : Go.Ax.Gm.Pc) (j k : Nat) (hj : j < 4) : ((pcC a).getD j .any).forget k = (pcC a).getD j .any := by
 match j, hj with
 | 0, _ => rfl
 | 1, _ => rfl
 | 2, _ => rfl
 | 3, _ => rfl
theorem zA9 {α : Type} {d : α} {n : Nat} {e : α → List AV} {l : List α} (h : ∀ a j, j < n → noRef ((e a).getD j .any) = true) : zAC (zCP d n e l) := fun i j _ hj => h _ j hj
theorem zKy (a : Go.Ax.Gm.Way) (j : Nat) (hj : j < 4) : noRef ((zEu a).getD j .any) = true := by
 match j, hj with
 | 0, _ => rfl
 | 1, _ => rfl
 | 2, _ => rfl
 | 3, _ => rfl
theorem zLf (a : Go.Ax.Gm.En) (j : Nat) (hj : j < 4) : noRef ((enC a).getD j .any) = true := by
 match j, hj with
 | 0, _ => rfl
 | 1, _ => rfl
 | 2, _ => rfl
 | 3, _ => rfl
theorem zLy (a : Go.Ax.Gm.Pc) (j : Nat) (hj : j < 4) : noRef ((pcC a).getD j .any) = true := by
 match j, hj with
 | 0, _ => rfl
 | 1, _ => rfl
 | 2, _ => rfl
 | 3, _ => rfl
/-- slices.Clone of gamehall/api.RuleWay -/
theorem cloneW (l : List Go.Ax.Gm.Way) (hl : l.length ≤ 1000000) : zn Tryd.prog 34 [.ro (zDx l) 0 l.length] (.ro (zDx l) 0 l.length) := by
 refine ze.value (K := fun r H => r = .sl 0 0 l.length ∧ H = [some ⟨85, zDx l⟩]) (zP (P := Tryd.prog) (fn := Tryd.f34) J J (by kernel_rfl) J (fun c hR hfix => ?_)) (fix := fun _ => False) (fun _ h => h) J ?_
 ·refine rn0 ?_
  refine zG5 J J J (fun b hb => ?_)
  refine rn0 ?_
  refine zAK J (fun h => ?_) (fun h => ?_)
  ·have hn : l = [] := List.length_eq_zero_iff.mp (hb h)
   subst hn
   refine rn7 ?_
   refine zBj 2 ⟨85, zDx []⟩ J J ?_
   refine rn2 ?_
   exact zO hR J ⟨J, J⟩
  ·refine rn1 ?_
   refine zCn J J J J J J J J J J ?_
   refine zA0 [some ⟨85, zDx []⟩] (zAs.eqv ⟨J, J, fun i j hi => absurd hi (Nat.not_lt_zero _)⟩ zAs.nil) ?_
   repeat (refine zA (zG rfl) ?_)
   refine zBY l J J J J J J J J J J J J J (by show 0 + l.length ≤ l.length; omega) (fun k j _ _ => by rw [Nat.zero_add]; rfl) (by show (0 + l.length) * 32 ≤ _ ∧ _; omega) zKJ (by rw [hfix]; exact fun h => h) ?_
   refine rn0 ?_
   refine zO hR J ⟨?_, J⟩
   show AV.sl 0 0 (0 + l.length) = _; rw [Nat.zero_add]
 ·rintro r H ⟨rfl, rfl⟩
  refine ⟨J, ?_, fun h o ho => zFJ (zA9 zKy) h o ho⟩
  intro o ho; simp at ho; subst ho; show 0 + l.length ≤ l.length; omega
/-- slices.Clone of gamehall/api.RuleEnd -/
theorem cloneE (l : List Go.Ax.Gm.En) (hl : l.length ≤ 1000000) : zn Tryd.prog 35 [.ro (zEa l) 0 l.length] (.ro (zEa l) 0 l.length) := by
 refine ze.value (K := fun r H => r = .sl 0 0 l.length ∧ H = [some ⟨72, zEa l⟩]) (zP (P := Tryd.prog) (fn := Tryd.f35) J J (by kernel_rfl) J (fun c hR hfix => ?_)) (fix := fun _ => False) (fun _ h => h) J ?_
 ·refine rn0 ?_
  refine zG5 J J J (fun b hb => ?_)
  refine rn0 ?_
  refine zAK J (fun h => ?_) (fun h => ?_)
  ·have hn : l = [] := List.length_eq_zero_iff.mp (hb h)
   subst hn
   refine rn7 ?_
   refine zBj 2 ⟨72, zEa []⟩ J J ?_
   refine rn2 ?_
   exact zO hR J ⟨J, J⟩
  ·refine rn1 ?_
   refine zCn J J J J J J J J J J ?_
   refine zA0 [some ⟨72, zEa []⟩] (zAs.eqv ⟨J, J, fun i j hi => absurd hi (Nat.not_lt_zero _)⟩ zAs.nil) ?_
   repeat (refine zA (zG rfl) ?_)
   refine zBY l J J J J J J J J J J J J J (by show 0 + l.length ≤ l.length; omega) (fun k j _ _ => by rw [Nat.zero_add]; rfl) (by show (0 + l.length) * 32 ≤ _ ∧ _; omega) zKT (by rw [hfix]; exact fun h => h) ?_
   refine rn0 ?_
   refine zO hR J ⟨?_, J⟩
   show AV.sl 0 0 (0 + l.length) = _; rw [Nat.zero_add]
 ·rintro r H ⟨rfl, rfl⟩
  refine ⟨J, ?_, fun h o ho => zFJ (zA9 zLf) h o ho⟩
  intro o ho; simp at ho; subst ho; show 0 + l.length ≤ l.length; omega
theorem zHG (l : List Int) (hl : l.length ≤ 1000000) : zn Tryd.prog 18 [zq l] (zq l) := zn.of_fcall (zJa l hl) zAI rfl rfl
/-- rules.IsLast -/
theorem zId (r : Go.Ax.Gm.Rules) (hw : 1 ≤ r.w ∧ r.w ≤ 8) (hh : 1 ≤ r.h ∧ r.h ≤ 8) (player s : Int) (hs : 0 ≤ s ∧ s < 1000) : zn Tryd.prog 56 [ruA r, .int .i64 player, .int .i64 s] (.bool (zEf r player s)) := by
 refine ze.value0 (zP (P := Tryd.prog) (fn := Tryd.f56) J J (by kernel_rfl) J (fun c hR hfix => ?_)) (fix := fun _ => False) (fun _ h => h) J J
 refine zX ?_
 repeat (first | refine zA (zN rfl) ?_ | refine zC ?_ | refine zB ?_ | refine zK rfl ?_ | refine zAp rfl rfl ?_)
 refine zCG 3 [(1, .int .i64 player), (2, .int .i64 s)] J ⟨J, J, J, trivial⟩ ⟨J, J, trivial⟩ J hfix ?_
 refine rn4 ?_
 refine zI J (fun h => ?_) (fun h => ?_)
 ·repeat (refine zX ?_)
  refine zG7 (by kernel_rfl) (by kernel_rfl) J ?_
  repeat (first | refine zA (zG rfl) ?_ | refine zA (zN rfl) ?_ | refine zC ?_ | refine zB ?_ | refine zu ?_ | refine zBA ?_ | refine zA (zBh rfl rfl) ?_ | refine zA (zA8 rfl rfl (by omega)) ?_ | refine zA (zGm rfl rfl (by omega)) ?_ | refine zA (zD rfl rfl rfl rfl) ?_ | refine zA (zH rfl rfl rfl rfl rfl rfl) ?_)
  refine zO hR J ?_
  unfold zEf; rw [if_pos h, Int.tdiv_eq_ediv_of_nonneg hs.1]; rfl
 ·repeat (first | refine zA (zG rfl) ?_ | refine zA (zN rfl) ?_ | refine zC ?_ | refine zB ?_ | refine zX ?_ | refine zK rfl ?_ | refine zAG ?_ | refine zu ?_ | refine zA (zBh rfl rfl) ?_ | refine zA (zGm rfl rfl (by omega)) ?_ | refine zA (zD rfl rfl rfl rfl) ?_ | refine zA (zH rfl rfl rfl rfl rfl rfl) ?_)
  refine zO hR J ?_
  unfold zEf; rw [if_neg h, Int.tdiv_eq_ediv_of_nonneg hs.1]; rfl
/-- rules.Check -/
theorem zHF (r : Go.Ax.Gm.Rules) (hr : Lens r) : zn Tryd.prog 17 [ruA r] (.int .i64 (zAQ r)) := by
 refine ze.value0 (zP (P := Tryd.prog) (fn := Tryd.f17) J J (by kernel_rfl) J (fun c hR hfix => ?_)) (fix := fun _ => False) (fun _ h => h) J J
 have hpl := hr.pcs
 have hsl := hr.start
 refine zX ?_
 repeat (first | refine zA (zN rfl) ?_ | refine zC ?_ | refine zB ?_ | refine zK rfl ?_ | refine zAp rfl rfl ?_)
 refine zCG 1 [(2, .int .i64 0)] J ⟨J, J, trivial⟩ ⟨J, trivial⟩ J hfix ?_
 refine zBW ?_
 refine zU J J J (name_ok r.name hr.name) ?_
 refine rn5 ?_
 refine zAK J (fun h1 => ?_) (fun h1 => ?_)
 ·rw [Bool.not_eq_true'] at h1
  refine rn2 ?_
  refine zO hR J ?_
  unfold zAQ; rw [if_pos h1]; rfl
 rw [Bool.not_eq_false'] at h1
 have h1 : ¬ zHf r.name = false := by rw [h1]; decide
 refine zBW ?_
 refine zU J J J (zAk _ _ _) ?_
 refine rn5 ?_
 refine zAg J J (fun h2 => ?_) (fun h2 => ?_)
 ·rw [Bool.not_eq_true', ← Bool.not_eq_true] at h2
  refine rn6 ?_
  refine zO hR J ?_
  unfold zAQ; rw [if_neg h1, if_pos (fun q => h2 q.1)]; rfl
 rw [Bool.not_eq_false'] at h2
 refine zAz ?_
 refine zU J J J (zAk _ _ _) ?_
 refine rn5 ?_
 refine zAK J (fun h3 => ?_) (fun h3 => ?_)
 ·rw [Bool.not_eq_true', ← Bool.not_eq_true] at h3
  refine rn2 ?_
  refine zO hR J ?_
  unfold zAQ; rw [if_neg h1, if_pos (fun q => h3 q.2)]; rfl
 rw [Bool.not_eq_false'] at h3
 have h23 : ¬ ¬ (within r.w 1 8 = true ∧ within r.h 1 8 = true) := fun q => q ⟨h2, h3⟩
 have w2 := Go.Ax.Gm.within_iff.1 h2
 have w3 := Go.Ax.Gm.within_iff.1 h3
 have hwh : 0 ≤ r.w * r.h ∧ r.w * r.h ≤ 64 := ⟨Int.mul_nonneg (by omega) (by omega), by
  have a := Int.mul_le_mul w2.2 w3.2 (by omega) (by decide)
  exact Int.le_trans a (by decide)⟩
 refine rn6 ?_
 refine zU J J J (zLz r hr) ?_
 refine rn3 ?_
 refine zI J (fun h4 => ?_) (fun h4 => ?_)
 ·refine rn2 ?_
  refine zO hR J ?_
  unfold zAQ; rw [if_neg h1, if_neg h23, if_pos h4]; rfl
 have h6 : r.pcs.length ≤ 6 := by
  have h4 := Classical.not_not.1 h4
  unfold zBn at h4
  split at h4
  ·cases h4
  split at h4
  ·cases h4
  ·omega
 refine zBW ?_
 refine zA (zCY J J (by omega)) ?_
 refine rn3 ?_
 refine zI J (fun h5 => ?_) (fun h5 => ?_)
 ·refine rn2 ?_
  refine zO hR J ?_
  unfold zAQ; rw [if_neg h1, if_neg h23, if_neg h4, if_pos h5]; rfl
 refine zBW ?_
 refine zU J J J (zGK r.start 32 [.rp (.box (ruC r)) 0 0] (fun c0 => !(zDm r.pcs.length c0)) J hsl (fun x _ => zLW r hr h6 x)) ?_
 refine rn0 ?_
 have hany : r.start.any (fun c0 => !(zDm r.pcs.length c0)) = !(r.start.all (zDm r.pcs.length)) := by rw [List.not_all_eq_any_not]
 rw [hany]
 refine zAK J (fun h7 => ?_) (fun h7 => ?_)
 ·rw [Bool.not_eq_true'] at h7
  refine rn2 ?_
  refine zO hR J ?_
  unfold zAQ; rw [if_neg h1, if_neg h23, if_neg h4, if_neg h5, if_pos h7]; rfl
 rw [Bool.not_eq_false'] at h7
 have h7 : ¬ r.start.all (zDm r.pcs.length) = false := by rw [h7]; decide
 refine rn6 ?_
 refine zU J J J (zH8 r hr) ?_
 refine rn3 ?_
 refine zI J (fun h8 => ?_) (fun h8 => ?_)
 ·refine rn2 ?_
  refine zO hR J ?_
  unfold zAQ; rw [if_neg h1, if_neg h23, if_neg h4, if_neg h5, if_neg h7, if_pos h8]; rfl
 have fin : ∀ e, (if ¬ (within r.blocked 0 2 = true ∧ within r.quiet 0 200 = true ∧ (r.rep = 0 ∨ within r.rep 2 5 = true)) then (4 : Int) else 0) = e → zAQ r = e := fun e q => by
  unfold zAQ; rw [if_neg h1, if_neg h23, if_neg h4, if_neg h5, if_neg h7, if_neg h8, q]
 refine zBW ?_
 refine zU J J J (zAk _ _ _) ?_
 refine rn5 ?_
 refine zAg J J (fun g1 => ?_) (fun g1 => ?_)
 ·rw [Bool.not_eq_true', ← Bool.not_eq_true] at g1
  refine rn16 ?_
  refine zO hR J ?_
  rw [fin 4 (if_pos (fun q => g1 q.1))]; rfl
 rw [Bool.not_eq_false'] at g1
 refine zAz ?_
 refine zU J J J (zAk _ _ _) ?_
 refine rn5 ?_
 refine zAg J J (fun g2 => ?_) (fun g2 => ?_)
 ·rw [Bool.not_eq_true', ← Bool.not_eq_true] at g2
  refine rn16 ?_
  refine zO hR J ?_
  rw [fin 4 (if_pos (fun q => g2 q.2.1))]; rfl
 rw [Bool.not_eq_false'] at g2
 repeat (first | refine zA (zG rfl) ?_ | refine zl rfl rfl ?_ | refine zA (zBP rfl rfl) ?_ | refine zA (zD rfl rfl rfl rfl) ?_ | refine zA (zH rfl rfl rfl rfl rfl rfl) ?_)
 refine zh J J (fun g3 => ?_) (fun g3 => ?_)
 ·refine zAz ?_
  refine zU J J J (zAk _ _ _) ?_
  refine rn5 ?_
  refine zAK J (fun g4 => ?_) (fun g4 => ?_)
  ·rw [Bool.not_eq_true', ← Bool.not_eq_true] at g4
   refine rn2 ?_
   refine zO hR J ?_
   rw [fin 4 (if_pos (fun q => q.2.2.elim g3 g4))]; rfl
  rw [Bool.not_eq_false'] at g4
  refine rn1 ?_
  refine zO hR J ?_
  rw [fin 0 (if_neg (fun q => q ⟨g1, g2, .inr g4⟩))]; rfl
 ·have g3 : r.rep = 0 := Classical.not_not.1 g3
  refine rn6 ?_
  refine zO hR J ?_
  rw [fin 0 (if_neg (fun q => q ⟨g1, g2, .inl g3⟩))]; rfl
end Go.Proofs.YtiifcejepaeepaaDoor
namespace Go.Proofs.YtiifcejepaeepaaDoor
open Go.Ax Go.Ax.Idx Go.Ax.Cd
attribute [local irreducible] Ax zB8 QOp ze
theorem grow (n : Int) (h0 : 0 ≤ n) (h1 : n ≤ 1000000) : zG4 Tryd.prog 64 [.nil, .int .i64 n] (fun N => .sl N 0 0) ⟨3, .ints .i64 []⟩ := by
 refine ze.fresh (K := fun r H => r = .sl 0 0 0 ∧ H = [some ⟨3, .ints .i64 []⟩]) (zP (P := Tryd.prog) (fn := Tryd.f64) J J (by kernel_rfl) J (fun c hR hfix => ?_)) (fix := fun _ => False) (fun _ h => h) J (fun H => ⟨J, by simp [zHT, inB]⟩) ?_
 ·refine rn4 ?_
  refine zI J (fun h => absurd h (by omega)) (fun h => ?_)
  repeat (first | refine zA (zG rfl) ?_ | refine zA (zN rfl) ?_ | refine zC ?_ | refine zB ?_ | refine zX ?_ | refine zK rfl ?_ | refine zAG ?_ | refine zA (zCL rfl rfl) ?_ | refine zA (zA2 rfl rfl rfl) ?_ | refine zA (zA8 rfl rfl (by omega)) ?_ | refine zA (zJ4 rfl rfl) ?_)
  refine zI J (fun h => ?_) (fun h => ?_)
  rotate_left
  ·refine rn7 ?_
   refine zBj 4 ⟨3, .ints .i64 []⟩ J J ?_
   repeat (refine zu ?_)
   exact zO hR J ⟨J, J⟩
  repeat (first | refine zA (zG rfl) ?_ | refine zK rfl ?_ | refine zA (zJ4 rfl rfl) ?_ | refine zA (zKo rfl rfl rfl rfl rfl rfl rfl) ?_)
  refine ax_growz J J J J J J J J J (by show 0 < _ ∧ _ * 8 ≤ _ ∧ _; omega) ?_
  refine rn3 ?_
  refine zA (zJ7 J J J J J J J J (by omega)) ?_
  refine zIw 0 (.ints .i64 []) J ⟨Nat.zero_le _, J, fun i j hi => absurd hi (Nat.not_lt_zero _)⟩ ?_
  refine rn0 ?_
  exact zO hR J ⟨J, J⟩
 ·rintro r H ⟨rfl, rfl⟩
  refine ⟨?_, fun h o ho => zFJ zAI h o ho, 0, J, fun n => rfl⟩
  intro o ho; simp at ho; subst ho; exact Nat.zero_le _
def zDL (ls : List (List Int)) : Int := (ls.map fun l => (l.length : Int)).sum
theorem zDt (ls : List (List Int)) (k : Nat) (h : k < ls.length) : zDL (ls.take (k + 1)) = zDL (ls.take k) + ((ls.getD k []).length : Int) := by
 unfold zDL
 rw [zw ls [] k h, List.map_append, List.sum_append]
 simp
theorem zBu (ls : List (List Int)) : zDL ls = (ls.flatten.length : Int) := by
 induction ls with
 | nil => rfl
 | cons l r ih => unfold zDL at ih ⊢; simp [ih]
theorem zE4 (ls : List (List Int)) (k : Nat) : 0 ≤ zDL (ls.take k) ∧ zDL (ls.take k) ≤ zDL ls := by
 have h : ls.flatten = (ls.take k).flatten ++ (ls.drop k).flatten := by rw [← List.flatten_append, List.take_append_drop]
 rw [zBu, zBu, h, List.length_append]; omega
theorem zFw (ls : List (List Int)) (k : Nat) (h : k < ls.length) : (ls.take (k + 1)).flatten = (ls.take k).flatten ++ ls.getD k [] := by
 rw [zw ls [] k h, List.flatten_append]; simp
theorem concat (ls : List (List Int)) (hlen : ls.length ≤ 1000000) (hs : zDL ls ≤ 1000000) :
 zG4 Tryd.prog 48 [.ro (zHr ls) 0 ls.length] (fun N => .sl N 0 ls.flatten.length) ⟨3, .ints .i64 ls.flatten⟩ := by
 refine ze.fresh (K := fun r H => r = .sl 0 0 ls.flatten.length ∧ H = [some ⟨3, .ints .i64 ls.flatten⟩]) (zP (P := Tryd.prog) (fn := Tryd.f48) J J (by kernel_rfl) J (fun c hR hfix => ?_)) (fix := fun _ => False) (fun _ h => h) J (fun H => ⟨J, by simp [zHT, inB]⟩) ?_
 ·refine rn3 ?_
  refine zx (ι := Nat) (fun k => [(0, .ro (zHr ls) 0 ls.length), (3, .int .i64 (zDL (ls.take k))), (9, .ro (zHr ls) 0 ls.length), (10, iN ls.length), (11, iN k)]) (fun _ => [])
   (fun k => k ≤ ls.length) (fun k => ls.length - k) 0 ⟨⟨rfl, rfl, rfl, rfl, rfl, trivial⟩, rfl, Nat.zero_le _⟩ ?_
  intro k hk
  refine rn4 ?_
  refine zI J (fun h1 => ?_) (fun h1 => ?_)
  ·have hk' : k < ls.length := by omega
   have hsum := zDt ls k hk'
   have hb := zE4 ls (k + 1)
   have hb0 := zE4 ls k
   refine rn6 ?_
   refine zI J (fun h2 => absurd h2 (by omega)) (fun h2 => ?_)
   refine rn5 ?_
   exact zT ⟨k + 1, by omega, by omega, ⟨J, by rw [hsum]; rfl, J, J, J, trivial⟩, J⟩
  ·have hk' : k = ls.length := by omega
   subst hk'
   simp only [List.take_length] at *
   have hfl := zBu ls
   refine rn5 ?_
   refine zDl J J J (grow (zDL ls) (by omega) hs) ?_
   refine rn3 ?_
   refine zx (ι := Nat) (fun k => [(6, .sl 0 0 (ls.take k).flatten.length), (25, .ro (zHr ls) 0 ls.length), (26, iN ls.length), (27, iN k)]) (fun k => [some ⟨3, .ints .i64 (ls.take k).flatten⟩])
    (fun k => k ≤ ls.length) (fun k => ls.length - k) 0 ⟨⟨rfl, rfl, rfl, rfl, trivial⟩, rfl, Nat.zero_le _⟩ ?_
   intro k hk
   refine rn4 ?_
   refine zI J (fun h1 => ?_) (fun h1 => ?_)
   ·have hk' : k < ls.length := by omega
    have hfs := zFw ls k hk'
    have hb := zE4 ls (k + 1)
    have hsl := zDt ls k hk'
    have hb0 := zE4 ls k
    have hfl0 := zBu (ls.take k)
    refine rn6 ?_
    refine zAY J J J J J J J J J J J J (by show 0 + (ls.getD k []).length ≤ (ls.getD k []).length; omega) J (by show ((ls.take k).flatten.length + (ls.getD k []).length) * 8 ≤ _ ∧ _; omega) (fun i j _ _ => rfl) (by rw [hfix]; exact fun h => h) ?_
    refine rn5 ?_
    refine zT ⟨k + 1, by omega, by omega, ⟨?_, J, J, J, trivial⟩, ?_⟩
    ·show some (AV.sl 0 0 ((ls.take k).flatten.length + (ls.getD k []).length)) = _
     rw [hfs, List.length_append]
    ·show ([some ⟨3, .ints .i64 ((ls.take k).flatten ++ List.take (ls.getD k []).length (List.drop 0 (ls.getD k [])))⟩] : zM) = _
     rw [hfs]; simp
   ·have hk' : k = ls.length := by omega
    subst hk'
    simp only [List.take_length] at *
    refine rn5 ?_
    exact zO hR J ⟨J, J⟩
 ·rintro r H ⟨rfl, rfl⟩
  refine ⟨?_, fun h o ho => zFJ zAI h o ho, 0, J, fun n => rfl⟩
  intro o ho; simp at ho; subst ho; show 0 + ls.flatten.length ≤ ls.flatten.length; omega
end Go.Proofs.YtiifcejepaeepaaDoor
