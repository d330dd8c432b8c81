import Derived.Test.YtnkealfaldjipaaGreatDoorY3
set_option linter.unusedVariables false
set_option linter.unusedSimpArgs false
namespace Go.Ax.Rt
open Go.Ax.Bg
theorem div_one (q : Rat) : q / 1 = q := by
 have := Rat.mul_div_cancel (a := q) (b := 1) (by decide)
 rwa [Rat.mul_one] at this
theorem zO6 {s : List UInt8} (h : zCX s = 0) : zCn s = false ↔ 0 ≤ zAU s := by
 have hp := zD5 h
 have h1 := zJe (zCn s) (zAW 0 (zDi s))
 rw [← hp.num] at h1
 rw [← Rat.num_nonneg]
 cases e : zCn s
 · rw [e] at h1; simp at h1; simpa using h1
 · have h2 : (zAU s).num < 0 := by
     have h3 := hp.ng e
     rw [e] at h1
     simpa [h3] using h1
   exact ⟨fun q => absurd q (by decide), fun q => absurd h2 (by omega)⟩
structure Shared (l : List (List UInt8)) (v : List (List UInt8)) : Prop where
 len : v.length = l.length
 pos : posE v = 0
 one : (zEo v).1 = 1
 again : ((v.map zAU).map (fun q => q / (zEo v).1)).map zAO = v
 fits : ((v.map zAU).map (fun q => q / (zEo v).1)).all zCT = true
 odds : zDn v = 0
 best : zCx v = zCx l ∧ (zCx l).2 = 0
end Go.Ax.Rt
namespace Go.Ax.Rt
open Go.Ax.Bg
def zA6 (f : Nat → Rat) : Nat → Rat
 | 0 => 0
 | n + 1 => zA6 f n + f n
theorem zBM {f g : Nat → Rat} : ∀ {n : Nat}, (∀ i, i < n → f i = g i) → zA6 f n = zA6 g n
 | 0, _ => rfl
 | n + 1, h => by rw [zA6, zA6, zBM (fun i hi => h i (by omega)), h n (by omega)]
theorem zGb : ∀ n : Nat, zA6 (fun _ => 0) n = 0
 | 0 => rfl
 | n + 1 => by rw [zA6, zGb n, Rat.add_zero]
theorem zF9 (f g : Nat → Rat) : ∀ n : Nat, zA6 (fun i => f i + g i) n = zA6 f n + zA6 g n
 | 0 => by rw [zA6, zA6, zA6, Rat.add_zero]
 | n + 1 => by
   rw [zA6, zA6, zA6, zF9 f g n]
   rw [Rat.add_assoc, Rat.add_assoc, ← Rat.add_assoc (zA6 g n), Rat.add_comm (zA6 g n) (f n), Rat.add_assoc]
theorem zMl (c : Rat) (f : Nat → Rat) : ∀ n : Nat, zA6 (fun i => c * f i) n = c * zA6 f n
 | 0 => by rw [zA6, zA6, Rat.mul_zero]
 | n + 1 => by rw [zA6, zA6, zMl c f n, Rat.mul_add]
theorem zK4 (c : Rat) (f : Nat → Rat) : ∀ n : Nat, zA6 (fun i => f i * c) n = zA6 f n * c
 | 0 => by rw [zA6, zA6, Rat.zero_mul]
 | n + 1 => by rw [zA6, zA6, zK4 c f n, Rat.add_mul]
/-- The sum of the products. -/
def dotQ (a b : List Rat) : Rat := zA6 (fun i => a.getD i 0 * b.getD i 0) a.length
def colQ (m : List (List Rat)) (k : Nat) : List Rat := m.map (fun row => row.getD k 0)
def colsQ (m : List (List Rat)) (w : Nat) : List (List Rat) := (List.range w).map (colQ m)
def mulQ (a b : List (List Rat)) (w : Nat) : List (List Rat) := a.map (fun row => (colsQ b w).map (dotQ row))
def applyQ (m : List (List Rat)) (v : List Rat) : List Rat := m.map (fun row => dotQ row v)
theorem zPu (m : List (List Rat)) (w : Nat) : (colsQ m w).length = w := by simp [colsQ]
theorem zDY {α β : Type} (f : α → β) (l : List α) (d : α) (e : β) (i : Nat) (hi : i < l.length) : (l.map f).getD i e = f (l.getD i d) := by simp [List.getD, hi]
end Go.Ax.Rt
namespace Go.Ax.Rt
open Go.Ax.Bg
abbrev zAK := List UInt8
def zIp (v : List zAK) : Int := if 40 < v.length then 2 else zDf v
def rowsE (w : Nat) : List (List zAK) → Int
 | [] => 0
 | r :: rs => if r.length = w then (if zIp r = 0 then rowsE w rs else zIp r) else 3
def zDs (m : List (List zAK)) : Nat := (m.getD 0 []).length
/-- matrix.Check -/
def zHi (m : List (List zAK)) : Int := if 40 < m.length then 2 else rowsE (zDs m) m
def inM (m : List (List zAK)) : List (List Rat) := m.map (fun r => r.map zAU)
def outM (q : List (List Rat)) : List (List zAK) × Int := if q.all (fun r => r.all zCT) then (q.map (fun r => r.map zAO), 0) else ([], 2)
def dotR (a b : List zAK) : zAK × Int := if zIp a ≠ 0 then ([], zIp a) else if zIp b ≠ 0 then ([], zIp b) else if a.length = b.length then zDk (dotQ (a.map zAU) (b.map zAU)) else ([], 3)
def applyR (m : List (List zAK)) (v : List zAK) : List zAK × Int := if zHi m ≠ 0 then ([], zHi m) else if zIp v ≠ 0 then ([], zIp v) else if m ≠ [] ∧ zDs m ≠ v.length then ([], 3) else zBC (applyQ (inM m) (v.map zAU))
def mulR (a b : List (List zAK)) : List (List zAK) × Int := if zHi a ≠ 0 then ([], zHi a) else if zHi b ≠ 0 then ([], zHi b) else if zDs a = b.length then outM (mulQ (inM a) (inM b) (zDs b)) else ([], 3)
def transT (m : List (List zAK)) : List (List zAK) := (List.range (zDs m)).map (fun k => m.map (fun r => r.getD k []))
def transR (m : List (List zAK)) : List (List zAK) × Int := if zHi m ≠ 0 then ([], zHi m) else (transT m, 0)
/-- A valid matrix of so many rows and columns. -/
structure IsM (m : List (List zAK)) (p q : Nat) : Prop where
 rows : m.length = p
 cols : ∀ r ∈ m, r.length = q
 sp : p ≤ 40
 sq : m ≠ [] → q ≤ 40
 ok : ∀ r ∈ m, ∀ s ∈ r, zCX s = 0
theorem IsM.wid {m : List (List zAK)} {p q : Nat} (h : IsM m p q) (hne : m ≠ []) : zDs m = q := by
 obtain ⟨a, m', rfl⟩ := List.exists_cons_of_ne_nil hne
 exact h.cols a (by simp)
/-- Short texts. -/
def tiny (n k : Nat) (m : List (List zAK)) : Bool := decide (m.length ≤ n) && m.all (fun v => decide (v.length ≤ n) && v.all (fun s => decide (s.length ≤ k)))
end Go.Ax.Rt
namespace Go.Ax.Rt
open Go.Ax.Bg
/-- The product of short valid matrices. -/
structure Prod (a b : List (List zAK)) (t : List (List zAK)) (p q r K : Nat) : Prop where
 res : mulR a b = (t, 0)
 ok : IsM t p r
 val : inM t = mulQ (inM a) (inM b) r
 dig : ∀ x ∈ inM t, ∀ y ∈ x, D K y
end Go.Ax.Rt
namespace Go.Ax.Dt
def zCH (f : Nat → Int) : Nat → Int
 | 0 => 0
 | n + 1 => zCH f n + f n
theorem zBN {f g : Nat → Int} : ∀ {n : Nat}, (∀ i, i < n → f i = g i) → zCH f n = zCH g n
 | 0, _ => rfl
 | n + 1, h => by rw [zCH, zCH, zBN (fun i hi => h i (by omega)), h n (by omega)]
theorem zKS {f : Nat → Int} : ∀ {n : Nat}, (∀ i, i < n → f i = 0) → zCH f n = 0
 | 0, _ => rfl
 | n + 1, h => by rw [zCH, zKS (fun i hi => h i (by omega)), h n (by omega)]; rfl
theorem zDe (f g : Nat → Int) : ∀ n, zCH (fun i => f i + g i) n = zCH f n + zCH g n
 | 0 => rfl
 | n + 1 => by rw [zCH, zCH, zCH, zDe f g n]; omega
theorem zFx (c : Int) (f : Nat → Int) : ∀ n, zCH (fun i => c * f i) n = c * zCH f n
 | 0 => by rw [zCH, zCH, Int.mul_zero]
 | n + 1 => by rw [zCH, zCH, zFx c f n, Int.mul_add]
theorem zDa {f : Nat → Int} {n : Nat} (k : Nat) (hk : k < n) (h : ∀ i, i < n → i ≠ k → f i = 0) : zCH f n = f k := by
 induction n with
 | zero => omega
 | succ n ih =>
   rw [zCH]
   by_cases hkn : k = n
   · subst hkn
     rw [zKS (fun i hi => h i (by omega) (by omega))]; omega
   · rw [ih (by omega) (fun i hi hne => h i (by omega) hne), h n (by omega) (fun e => hkn e.symm)]; omega
theorem sumZ_two {f : Nat → Int} {n : Nat} (k l : Nat) (hk : k < n) (hl : l < n) (hkl : k ≠ l) (h : ∀ i, i < n → i ≠ k → i ≠ l → f i = 0) : zCH f n = f k + f l := by
 have e : zCH f n = zCH (fun i => (if i = k then f k else 0) + (if i = k then 0 else f i)) n := by
   refine zBN (fun i hi => ?_)
   by_cases hik : i = k
   · subst hik; simp
   · simp [hik]
 rw [e, zDe]
 rw [zDa k hk (fun i hi hne => by simp [hne]), zDa l hl (fun i hi hne => by
   by_cases hik : i = k
   · simp [hik]
   · simp [hik]; exact h i hi hik hne)]
 have : ¬ l = k := fun e => hkl e.symm
 simp [this]
abbrev V := Nat → Int
abbrev Mx := Nat → V
def sg : Nat → Int
 | 0 => 1
 | n + 1 => -sg n
def skip (i : Nat) (D : Mx) : Mx := fun a c => D (if a < i then a else a + 1) (c + 1)
def det : Nat → Mx → Int
 | 0, _ => 1
 | n + 1, D => zCH (fun i => sg i * (D i 0 * det n (skip i D))) (n + 1)
def put (D : Mx) (r : Nat) (v : V) : Mx := fun a => if a = r then v else D a
theorem zGg : ∀ {n : Nat} {D E : Mx}, (∀ a c, a < n → c < n → D a c = E a c) → det n D = det n E
 | 0, _, _, _ => rfl
 | n + 1, D, E, h => by
   rw [det, det]
   refine zBN (fun i hi => ?_)
   rw [h i 0 hi (by omega), zGg (D := skip i D) (E := skip i E) (fun a c ha hc => ?_)]
   unfold skip
   exact h _ _ (by split <;> omega) (by omega)
theorem zCa (D : Mx) (r : Nat) (v : V) : skip r (put D r v) = skip r D := by
 funext a c
 unfold skip put
 have : ¬ (if a < r then a else a + 1) = r := by split <;> omega
 rw [if_neg this]
theorem zFy {D : Mx} {i r : Nat} {v : V} (h : i ≠ r) : skip i (put D r v) = put (skip i D) (if r < i then r else r - 1) (fun c => v (c + 1)) := by
 funext a c
 unfold skip put
 by_cases hri : r < i
 · rw [if_pos hri]
   by_cases ha : a = r
   · subst ha; rw [if_pos hri]; simp
   · by_cases hai : a < i
     · simp [hai, ha]
     · have : ¬ a + 1 = r := by omega
       simp [hai, ha, this]
 · rw [if_neg hri]
   by_cases ha : a = r - 1
   · subst ha
     have h1 : ¬ r - 1 < i := by omega
     have h2 : r - 1 + 1 = r := by omega
     simp [h1, h2]
   · by_cases hai : a < i
     · have : ¬ a = r := by omega
       simp [hai, ha, this]
     · have : ¬ a + 1 = r := by omega
       simp [hai, ha, this]
/-- The determinant is linear in each row. -/
theorem zGh : ∀ (n : Nat) (D : Mx) (r : Nat) (u v : V), r < n → det n (put D r (fun c => u c + v c)) = det n (put D r u) + det n (put D r v)
 | 0, _, _, _, _, h => absurd h (Nat.not_lt_zero _)
 | n + 1, D, r, u, v, h => by
   rw [det, det, det, ← zDe]
   refine zBN (fun i hi => ?_)
   by_cases hir : i = r
   · subst hir
     rw [zCa, zCa, zCa]
     have e : ∀ w : V, put D i w i 0 = w 0 := fun w => by simp [put]
     rw [e, e, e, Int.add_mul, Int.mul_add]
   · have e : ∀ w : V, put D r w i 0 = D i 0 := fun w => by simp [put, hir]
     rw [zFy hir, zFy hir, zFy hir, e, e, e, zGh n _ _ _ _ (by split <;> omega), Int.mul_add, Int.mul_add]
theorem zGQ : ∀ (n : Nat) (D : Mx) (r : Nat) (k : Int) (v : V), r < n → det n (put D r (fun c => k * v c)) = k * det n (put D r v)
 | 0, _, _, _, _, h => absurd h (Nat.not_lt_zero _)
 | n + 1, D, r, k, v, h => by
   rw [det, det, ← zFx]
   refine zBN (fun i hi => ?_)
   by_cases hir : i = r
   · subst hir
     rw [zCa, zCa]
     have e : ∀ w : V, put D i w i 0 = w 0 := fun w => by simp [put]
     rw [e, e, Int.mul_left_comm k, Int.mul_assoc]
   · have e : ∀ w : V, put D r w i 0 = D i 0 := fun w => by simp [put, hir]
     rw [zFy hir, zFy hir, e, e, zGQ n _ _ _ _ (by split <;> omega), Int.mul_left_comm k, Int.mul_left_comm k]
theorem zLG (n : Nat) (D : Mx) (r : Nat) (h : r < n) : det n (put D r (fun _ => 0)) = 0 := by
 have := zGQ n D r 0 (fun _ => 0) h
 simpa using this
/-- Two rows beside each other that are equal. -/
theorem zLQ : ∀ (n : Nat) (D : Mx) (r : Nat), r + 1 < n → (∀ c, c < n → D r c = D (r + 1) c) → det n D = 0
 | 0, _, _, h, _ => absurd h (Nat.not_lt_zero _)
 | n + 1, D, r, h, he => by
   rw [det, sumZ_two r (r + 1) (by omega) h (by omega) (fun i hi h1 h2 => ?_)]
   · have e : det n (skip r D) = det n (skip (r + 1) D) := zGg (fun a c ha hc => by
       unfold skip
       by_cases h1 : a < r
       · rw [if_pos h1, if_pos (by omega)]
       · rw [if_neg h1]
         by_cases h2 : a < r + 1
         · have : a = r := by omega
           subst this
           rw [if_pos h2]; exact (he _ (by omega)).symm
         · rw [if_neg h2])
     rw [e, he 0 (by omega), sg, Int.neg_mul]
     omega
   · have := zLQ n (skip i D) (if r < i then r else r - 1) (by split <;> omega) (fun c hc => by
       unfold skip
       by_cases hri : r < i
       · rw [if_pos hri, if_pos (show r < i from hri), if_pos (show r + 1 < i by omega)]
         exact he _ (by omega)
       · have e1 : ¬ r - 1 < i := by omega
         have e2 : ¬ r - 1 + 1 < i := by omega
         rw [if_neg hri, if_neg e1, if_neg e2, show r - 1 + 1 = r by omega]
         exact he _ (by omega))
     rw [this, Int.mul_zero, Int.mul_zero]
theorem zD8 (D : Mx) {r s : Nat} (u v : V) (h : r ≠ s) : put (put D r u) s v = put (put D s v) r u := by
 funext a
 unfold put
 by_cases h1 : a = s
 · have : ¬ a = r := fun e => h (e.symm.trans h1)
   simp [h1]
   intro e; exact absurd e.symm h
 · simp [h1]
theorem zGO (D : Mx) (r : Nat) : put D r (D r) = D := by
 funext a; unfold put; split
 · rename_i h; rw [h]
 · rfl
/-- Exchange of two rows beside each other. -/
theorem det_swap (n : Nat) (D : Mx) (r : Nat) (u v : V) (h : r + 1 < n) : det n (put (put D r u) (r + 1) v) = - det n (put (put D r v) (r + 1) u) := by
 have key : ∀ w : V, det n (put (put D r w) (r + 1) w) = 0 := fun w => zLQ n _ r h (fun c _ => by unfold put; simp)
 have h0 := key (fun c => u c + v c)
 have add0 : ∀ w : V, det n (put (put D r (fun c => u c + v c)) (r + 1) w) = det n (put (put D r u) (r + 1) w) + det n (put (put D r v) (r + 1) w) := fun w => by
   rw [zD8 D _ w (by omega), zGh n _ _ _ _ (by omega), zD8 D u w (by omega), zD8 D v w (by omega)]
 rw [zGh n _ _ _ _ h, add0, add0] at h0
 have h1 := key u
 have h2 := key v
 omega
theorem zNa : ∀ (k : Nat) (n : Nat) (D : Mx) (r : Nat), r + (k + 1) < n → (∀ c, c < n → D r c = D (r + (k + 1)) c) → det n D = 0
 | 0, n, D, r, h, he => zLQ n D r h he
 | k + 1, n, D, r, h, he => by
   have e : D = put (put D (r + (k + 1)) (D (r + (k + 1)))) (r + (k + 1) + 1) (D (r + (k + 1) + 1)) := by
     rw [zGO, zGO]
   rw [e, det_swap n D (r + (k + 1)) _ _ (by omega), zNa k n _ r (by omega) (fun c hc => ?_)]
   · rfl
   · have h1 : ¬ r = r + (k + 1) + 1 := by omega
     have h2 : ¬ r = r + (k + 1) := by omega
     have h3 : ¬ r + (k + 1) = r + (k + 1) + 1 := by omega
     unfold put
     rw [if_neg h1, if_neg h2, if_neg h3, if_pos rfl]
     exact he c hc
theorem zOO (n : Nat) (D : Mx) {r s : Nat} (hr : r < n) (hs : s < n) (hne : r ≠ s) : det n (put D r (D s)) = 0 := by
 rcases Nat.lt_or_gt_of_ne hne with h | h
 · refine zNa (s - r - 1) n _ r (by omega) (fun c _ => ?_)
   rw [show r + (s - r - 1 + 1) = s by omega]
   have : ¬ s = r := fun e => hne e.symm
   simp [put, this]
 · refine zNa (r - s - 1) n _ s (by omega) (fun c _ => ?_)
   rw [show s + (r - s - 1 + 1) = r by omega]
   have : ¬ s = r := fun e => hne e.symm
   simp [put, this]
/-- A row that is a sum of multiples of the rows. -/
theorem zMm (n : Nat) (D : Mx) (r : Nat) (hr : r < n) (t : V) : ∀ k, k ≤ n → det n (put D r (fun c => zCH (fun i => t i * D i c) k)) = if r < k then t r * det n D else 0
 | 0, _ => by
   rw [if_neg (Nat.not_lt_zero _)]
   exact zLG n D r hr
 | k + 1, hk => by
   have ih := zMm n D r hr t k (by omega)
   have e : (fun c => zCH (fun i => t i * D i c) (k + 1)) = (fun c => (fun c => zCH (fun i => t i * D i c) k) c + (fun c => t k * D k c) c) := rfl
   rw [e, zGh n D r _ _ hr, ih, zGQ n D r _ _ hr]
   by_cases hkr : k = r
   · subst hkr
     rw [if_neg (by omega), if_pos (by omega), zGO]; omega
   · rw [zOO n D hr (by omega) (fun e => hkr e.symm), Int.mul_zero, Int.add_zero]
     by_cases h1 : r < k
     · rw [if_pos h1, if_pos (by omega)]
     · rw [if_neg h1, if_neg (by omega)]
theorem zHa {n : Nat} {D : Mx} {r : Nat} (hr : r < n) {t w : V} (h : ∀ c, c < n → w c = zCH (fun i => t i * D i c) n) : det n (put D r w) = t r * det n D := by
 have := zMm n D r hr t n (Nat.le_refl _)
 rw [if_pos hr] at this
 rw [← this]
 refine zGg (fun a c _ hc => ?_)
 unfold put
 split
 · exact h c hc
 · rfl
def zG0 : Mx := fun a c => if a = c then 1 else 0
theorem zMq : ∀ n : Nat, det n zG0 = 1
 | 0 => rfl
 | n + 1 => by
   rw [det, zDa 0 (by omega) (fun i hi hne => by simp [zG0, hne])]
   have : det n (skip 0 zG0) = det n zG0 := zGg (fun a c _ _ => by simp [skip, zG0])
   rw [this, zMq n]; simp [sg, zG0]
def fct : Nat → Nat
 | 0 => 1
 | n + 1 => (n + 1) * fct n
/-- A column of the table, and the column of the beginning that it stands for. -/
def Sol (n : Nat) (D : Mx) (d : Int) (t0 t : V) : Prop := ∀ c, c < n → zCH (fun i => t i * D i c) n = d * t0 c
theorem sol_det {n : Nat} {D : Mx} {d s : Int} {t0 t : V} (hd : d ≠ 0) (hs : s * s = 1) (hD : det n D = s * d) (h : Sol n D d t0 t) {i : Nat} (hi : i < n) : t i = s * det n (put D i t0) := by
 have h1 := zHa (w := fun c => d * t0 c) hi (fun c hc => (h c hc).symm)
 rw [zGQ n D i d t0 hi, hD] at h1
 have h2 : d * det n (put D i t0) = d * (s * t i) := by rw [h1, Int.mul_left_comm, Int.mul_comm (t i) d, Int.mul_left_comm]
 have h3 := Int.eq_of_mul_eq_mul_left hd h2
 rw [h3, ← Int.mul_assoc, hs, Int.one_mul]
/-- The pivot: the determinant of the new rows, and exact quotients. -/
theorem zKV {n : Nat} {D : Mx} {d s : Int} {t0 t : V} (hd : d ≠ 0) (hs : s * s = 1) (hD : det n D = s * d) (h : Sol n D d t0 t) {r : Nat} (hr : r < n) : det n (put D r t0) = s * t r := by
 rw [sol_det hd hs hD h hr, ← Int.mul_assoc, hs, Int.one_mul]
theorem sumZ_put {n : Nat} {D : Mx} {r : Nat} (hr : r < n) (v : V) (t : V) (c : Nat) : zCH (fun i => t i * put D r v i c) n = zCH (fun i => t i * D i c) n - t r * D r c + t r * v c := by
 have e : ∀ i, i < n → t i * put D r v i c = t i * D i c + (if i = r then t r * v c - t r * D r c else 0) := by
   intro i hi
   by_cases hir : i = r
   · subst hir; simp [put]; omega
   · simp [put, hir]
 rw [zBN e, zDe, zDa (f := fun i => if i = r then t r * v c - t r * D r c else 0) r hr (fun i hi hne => by simp [hne])]
 simp; omega
theorem zK0 {n : Nat} {D : Mx} {d s : Int} {tc0 tc tj0 tj : V} (hd : d ≠ 0) (hs : s * s = 1) (hD : det n D = s * d) (hc : Sol n D d tc0 tc) (hj : Sol n D d tj0 tj) {r : Nat} (hr : r < n) (hp : tc r ≠ 0) :
   (∀ i, i < n → i ≠ r → d ∣ tj i * tc r - tc i * tj r) ∧ Sol n (put D r tc0) (tc r) tj0 (fun i => if i = r then tj r else (tj i * tc r - tc i * tj r) / d) := by
 have hD' := zKV hd hs hD hc hr
 -- the numerators are a solution of d times the new equation
 let N : V := fun i => if i = r then d * tj r else tj i * tc r - tc i * tj r
 have hN : ∀ c, c < n → zCH (fun i => N i * put D r tc0 i c) n = d * tc r * tj0 c := by
   intro c hcn
   rw [sumZ_put hr]
   have e : ∀ i, i < n → N i * D i c = (tc r * (tj i * D i c) + (-(tj r)) * (tc i * D i c)) + (if i = r then d * tj r * D r c else 0) := by
     intro i hi
     by_cases hir : i = r
     · subst hir
       simp only [N, if_true]
       have : tc i * (tj i * D i c) + -tj i * (tc i * D i c) = 0 := by
         rw [Int.neg_mul, Int.mul_left_comm]; omega
       omega
     · simp only [N, hir, if_false, Int.add_zero]
       rw [Int.sub_mul, Int.neg_mul, Int.mul_comm (tj i) (tc r), Int.mul_assoc, Int.mul_comm (tc i) (tj r), Int.mul_assoc]; omega
   rw [zBN e, zDe, zDe, zFx, zFx, hj c hcn, hc c hcn, zDa (f := fun i => if i = r then d * tj r * D r c else 0) r hr (fun i hi hne => by simp [hne])]
   simp only [N, if_true]
   have e1 : tc r * (d * tj0 c) = d * tc r * tj0 c := by rw [← Int.mul_assoc, Int.mul_comm (tc r) d]
   have e2 : -tj r * (d * tc0 c) = -(d * tj r * tc0 c) := by rw [Int.neg_mul, ← Int.mul_assoc, Int.mul_comm (tj r) d]
   rw [e1, e2]; omega
 have hex : ∀ i, i < n → N i = d * (s * det n (put (put D r tc0) i tj0)) := by
   intro i hi
   have h1 := zHa (D := put D r tc0) (w := fun c => d * tc r * tj0 c) hi (fun c hcn => (hN c hcn).symm)
   rw [zGQ n _ i (d * tc r) tj0 hi, hD'] at h1
   have h2 : tc r * (d * (s * det n (put (put D r tc0) i tj0))) = tc r * N i := by
     have h3 : s * (d * tc r * det n (put (put D r tc0) i tj0)) = s * (N i * (s * tc r)) := by rw [h1]
     have h4 : s * (N i * (s * tc r)) = tc r * N i := by
       rw [Int.mul_left_comm, ← Int.mul_assoc s s, hs, Int.one_mul, Int.mul_comm]
     rw [h4] at h3
     rw [← h3]
     rw [Int.mul_assoc d, Int.mul_left_comm s d, Int.mul_left_comm s (tc r), Int.mul_left_comm d (tc r)]
   exact (Int.eq_of_mul_eq_mul_left hp h2).symm
 refine ⟨fun i hi hne => ?_, ?_⟩
 · have := hex i hi
   simp only [N, hne, if_false] at this
   exact ⟨_, this⟩
 · intro c hcn
   have h1 := hN c hcn
   have h2 : ∀ i, i < n → N i * put D r tc0 i c = d * ((fun i => if i = r then tj r else (tj i * tc r - tc i * tj r) / d) i * put D r tc0 i c) := by
     intro i hi
     by_cases hir : i = r
     · subst hir; simp only [N, if_true]; rw [Int.mul_assoc]
     · have h3 := hex i hi
       simp only [N, hir, if_false] at h3 ⊢
       have h4 : (tj i * tc r - tc i * tj r) / d = s * det n (put (put D r tc0) i tj0) := by rw [h3, Int.mul_ediv_cancel_left _ hd]
       rw [h4, ← Int.mul_assoc, ← h3]
   rw [zBN h2, zFx, Int.mul_assoc d] at h1
   exact Int.eq_of_mul_eq_mul_left hd h1
end Go.Ax.Dt
namespace Go.Ax.Dt
/-- The quotient of the absolute values, with the sign of the quotient. -/
def zJQ (x d : Int) : Int := if (decide (x < 0) != decide (d < 0)) = true then -((x.natAbs / d.natAbs : Nat) : Int) else ((x.natAbs / d.natAbs : Nat) : Int)
theorem zQE {q d : Int} (hd : d ≠ 0) : zJQ (d * q) d = q := by
 have hn : (d * q).natAbs / d.natAbs = q.natAbs := by rw [Int.natAbs_mul, Nat.mul_div_cancel_left _ (by omega)]
 unfold zJQ
 rw [hn]
 rcases Int.lt_trichotomy q 0 with hq | hq | hq
 · rcases Int.lt_or_gt_of_ne hd with h | h
   · have h1 : ¬ d * q < 0 := Int.not_lt.2 (Int.le_of_lt (Int.mul_pos_of_neg_of_neg h hq))
     simp [h, h1]; omega
   · have h1 : d * q < 0 := Int.mul_neg_of_pos_of_neg h hq
     have h2 : ¬ d < 0 := by omega
     simp [h1, h2]; omega
 · subst hq; simp
 · rcases Int.lt_or_gt_of_ne hd with h | h
   · have h1 : d * q < 0 := Int.mul_neg_of_neg_of_pos h hq
     simp [h, h1]; omega
   · have h1 : ¬ d * q < 0 := Int.not_lt.2 (Int.le_of_lt (Int.mul_pos h hq))
     have h2 : ¬ d < 0 := by omega
     simp [h1, h2]; omega
theorem zO7 {x d : Int} (hd : d ≠ 0) (h : d ∣ x) : zJQ x d = x / d := by
 obtain ⟨q, rfl⟩ := h
 rw [zQE hd, Int.mul_ediv_cancel_left _ hd]
abbrev Tab := List (List Int)
def at2 (T : Tab) (i j : Nat) : Int := (T.getD i []).getD j 0
/-- The first row at or behind i that has no 0 in a column. -/
def zFM (T : Tab) (c : Nat) : Nat → Nat → Nat
 | 0, i => i
 | f + 1, i => if at2 T i c = 0 then zFM T c f (i + 1) else i
theorem zIL (T : Tab) (c : Nat) : ∀ f i, i ≤ zFM T c f i ∧ zFM T c f i ≤ i + f ∧ (∀ a, i ≤ a → a < zFM T c f i → at2 T a c = 0) ∧ (zFM T c f i < i + f → at2 T (zFM T c f i) c ≠ 0)
 | 0, i => ⟨Nat.le_refl _, Nat.le_refl _, fun a h1 h2 => absurd h2 (by rw [zFM]; omega), fun h => absurd h (by rw [zFM]; omega)⟩
 | f + 1, i => by
   rw [zFM]
   by_cases h : at2 T i c = 0
   · rw [if_pos h]
     obtain ⟨h1, h2, h3, h4⟩ := zIL T c f (i + 1)
     refine ⟨by omega, by omega, fun a ha hb => ?_, fun hb => h4 (by omega)⟩
     by_cases e : a = i
     · rw [e]; exact h
     · exact h3 a (by omega) hb
   · rw [if_neg h]
     exact ⟨Nat.le_refl _, by omega, fun a h1 h2 => absurd h2 (by omega), fun _ => h⟩
def zBB (T : Tab) (i k : Nat) : Tab := (T.set i (T.getD k [])).set k (T.getD i [])
def swp (i k a : Nat) : Nat := if a = k then i else if a = i then k else a
def zHj (R K : List Int) (p f d : Int) : List Int := (List.range R.length).map (fun j => zJQ (R.getD j 0 * p - f * K.getD j 0) d)
def zC8 (T : Tab) (k c : Nat) (d : Int) : Tab := (List.range T.length).map (fun i => if i = k then T.getD k [] else zHj (T.getD i []) (T.getD k []) (at2 T k c) (at2 T i c) d)
structure Red where
 T : Tab
 piv : List Nat
 last : Int
 neg : Bool
def zH2 (r : Red) (c : Nat) : Red :=
 if r.T.length ≤ r.piv.length then r
 else if zFM r.T c (r.T.length - r.piv.length) r.piv.length = r.T.length then r
 else ⟨zC8 (zBB r.T (zFM r.T c (r.T.length - r.piv.length) r.piv.length) r.piv.length) r.piv.length c r.last, r.piv ++ [c], at2 (zBB r.T (zFM r.T c (r.T.length - r.piv.length) r.piv.length) r.piv.length) r.piv.length c, if zFM r.T c (r.T.length - r.piv.length) r.piv.length = r.piv.length then r.neg else !r.neg⟩
def redN (M : Tab) : Nat → Red
 | 0 => ⟨M, [], 1, false⟩
 | c + 1 => zH2 (redN M c) c
theorem getD_set {α : Type} (l : List α) (d x : α) (i j : Nat) : (l.set i x).getD j d = if j = i ∧ i < l.length then x else l.getD j d := by
 by_cases h : j = i
 · subst h
   by_cases h2 : j < l.length
   · simp [List.getD, h2]
   · have : l.length ≤ j := by omega
     simp [List.getD, h2, this]
 · have : ¬ i = j := fun e => h e.symm
   simp [List.getD, h, List.getElem?_set, this]
theorem zFL (T : Tab) (i k : Nat) : (zBB T i k).length = T.length := by simp [zBB]
theorem zID (T : Tab) {i k : Nat} (hi : i < T.length) (hk : k < T.length) (a : Nat) : (zBB T i k).getD a [] = T.getD (swp i k a) [] := by
 unfold zBB swp
 rw [getD_set, List.length_set, getD_set]
 by_cases h1 : a = k
 · simp [h1, hk]
 · by_cases h2 : a = i
   · have h3 : ¬ i = k := fun e => h1 (h2.trans e)
     simp [h1, h2, hi, h3]
   · simp [h1, h2]
theorem zNS (T : Tab) {k : Nat} (hk : k < T.length) : zBB T k k = T := by
 refine List.ext_getElem (zFL _ _ _) (fun a h1 h2 => ?_)
 have := zID T hk hk a
 have e : swp k k a = a := by unfold swp; split <;> simp_all
 rw [e] at this
 simpa [List.getD, h1, h2] using this
theorem zEA (T : Tab) {i k : Nat} (hi : i < T.length) (hk : k < T.length) (a j : Nat) : at2 (zBB T i k) a j = at2 T (swp i k a) j := by
 unfold at2; rw [zID T hi hk]
theorem zP8 (T : Tab) (k c : Nat) (d : Int) : (zC8 T k c d).length = T.length := by simp [zC8]
theorem zPb (T : Tab) (k c : Nat) (d : Int) {i : Nat} (hi : i < T.length) : (zC8 T k c d).getD i [] = if i = k then T.getD k [] else zHj (T.getD i []) (T.getD k []) (at2 T k c) (at2 T i c) d := by
 unfold zC8
 simp [List.getD, hi]
theorem zKE (T : Tab) (k c : Nat) (d : Int) {L : Nat} (hT : ∀ x ∈ T, x.length = L) {i j : Nat} (hi : i < T.length) (hj : j < L) : at2 (zC8 T k c d) i j = if i = k then at2 T k j else zJQ (at2 T i j * at2 T k c - at2 T i c * at2 T k j) d := by
 unfold at2
 rw [zPb T k c d hi]
 have hl : (T.getD i []).length = L := hT _ (by simp [List.getD, hi])
 by_cases h : i = k
 · rw [if_pos h, if_pos h]
 · rw [if_neg h, if_neg h]
   unfold zHj
   rw [hl]
   have : ∀ f : Nat → Int, ((List.range L).map f).getD j 0 = f j := fun f => by simp [List.getD, hj]
   rw [this]; rfl
theorem zLv (R K : List Int) (p f d : Int) : (zHj R K p f d).length = R.length := by simp [zHj]
theorem zPf (T : Tab) (k c : Nat) (d : Int) {L : Nat} (hk : k < T.length) (hT : ∀ x ∈ T, x.length = L) : ∀ x ∈ zC8 T k c d, x.length = L := by
 intro x hx
 obtain ⟨i, hi, rfl⟩ := List.mem_map.1 hx
 have hi : i < T.length := by simpa using hi
 split
 · exact hT _ (by simp [List.getD, hk])
 · rw [zLv]; exact hT _ (by simp [List.getD, hi])
theorem zPI (T : Tab) {i k : Nat} (hi : i < T.length) (hk : k < T.length) {L : Nat} (hT : ∀ x ∈ T, x.length = L) : ∀ x ∈ zBB T i k, x.length = L := by
 intro x hx
 obtain ⟨a, ha, rfl⟩ := List.getElem_of_mem hx
 have h1 := zID T hi hk a
 have h2 : swp i k a < T.length := by rw [zFL] at ha; unfold swp; split; exact hi; split; exact hk; exact ha
 have h3 : (zBB T i k).getD a [] = (zBB T i k)[a] := by simp [List.getD, ha]
 rw [h3] at h1
 rw [h1]; exact hT _ (by simp [List.getD, h2])
/-- Exchange of two rows. -/
theorem det_exch (n : Nat) (D : Mx) {r s : Nat} (hr : r < n) (hs : s < n) (hne : r ≠ s) (u v : V) : det n (put (put D r u) s v) = - det n (put (put D r v) s u) := by
 have key : ∀ w : V, det n (put (put D r w) s w) = 0 := fun w => by
   have := zOO n (put D s w) hr hs hne
   rw [show put D s w s = w by simp [put]] at this
   rwa [zD8 D w w hne]
 have h0 := key (fun c => u c + v c)
 have add0 : ∀ w : V, det n (put (put D r (fun c => u c + v c)) s w) = det n (put (put D r u) s w) + det n (put (put D r v) s w) := fun w => by
   rw [zD8 D _ w hne, zGh n _ _ _ _ hr, zD8 D u w hne, zD8 D v w hne]
 rw [zGh n _ _ _ _ hs, add0, add0] at h0
 have h1 := key u
 have h2 := key v
 omega
theorem det_swp (n : Nat) (D : Mx) {i k : Nat} (hi : i < n) (hk : k < n) (hne : i ≠ k) : det n (fun a => D (swp i k a)) = - det n D := by
 have e1 : (fun a => D (swp i k a)) = put (put D i (D k)) k (D i) := by
   funext a
   unfold put swp
   by_cases h1 : a = k
   · rw [if_pos h1, if_pos h1]
   · by_cases h2 : a = i
     · rw [if_neg h1, if_pos h2, if_neg h1, if_pos h2]
     · rw [if_neg h1, if_neg h2, if_neg h1, if_neg h2]
 rw [e1, det_exch n D hi hk hne, zGO, zGO]
theorem sumZ_swp (f : Nat → Int) (n : Nat) {i k : Nat} (hi : i < n) (hk : k < n) : zCH (fun a => f (swp i k a)) n = zCH f n := by
 by_cases hne : i = k
 · subst hne
   refine zBN (fun a _ => ?_)
   unfold swp; split <;> simp_all
 have e : ∀ a, a < n → f (swp i k a) = f a + ((if a = i then f k - f i else 0) + (if a = k then f i - f k else 0)) := by
   intro a _
   unfold swp
   by_cases h1 : a = k
   · have h2 : ¬ a = i := fun e => hne (e.symm.trans h1)
     rw [if_pos h1, if_neg h2, if_pos h1, h1]; omega
   · by_cases h2 : a = i
     · rw [if_neg h1, if_pos h2, if_pos h2, if_neg h1, h2]; omega
     · rw [if_neg h1, if_neg h2, if_neg h2, if_neg h1]; omega
 rw [zBN e, zDe, zDe, zDa (f := fun a => if a = i then f k - f i else 0) i hi (fun a _ h => by simp [h]), zDa (f := fun a => if a = k then f i - f k else 0) k hk (fun a _ h => by simp [h])]
 simp; omega
/-- The table during the elimination, after so many columns. -/
structure RInv (n L B : Nat) (M : Tab) (c : Nat) (r : Red) : Prop where
 len : r.T.length = n
 row : ∀ x ∈ r.T, x.length = L
 pl : r.piv.length ≤ n
 pc : r.piv.length ≤ c
 full : r.piv.length = c → r.piv = List.range c
 last : r.last ≠ 0
 zero : ∀ i j, r.piv.length ≤ i → i < n → j < c → at2 r.T i j = 0
 base : ∃ (D : Mx) (s : Int), s * s = 1 ∧ det n D = s * r.last ∧ (∀ j, j < L → Sol n D r.last (fun a => at2 M a j) (fun i => at2 r.T i j)) ∧ (∀ a, a < r.piv.length → ∀ e, D a e = at2 M e (r.piv.getD a 0)) ∧ (∀ a e, a < n → e < n → (D a e).natAbs ≤ B)
theorem RInv.init {n L B : Nat} {M : Tab} (h1 : M.length = n) (h2 : ∀ x ∈ M, x.length = L) (hB : 1 ≤ B) : RInv n L B M 0 (redN M 0) where
 len := h1
 row := h2
 pl := Nat.zero_le _
 pc := Nat.zero_le _
 full := fun _ => rfl
 last := by show (1 : Int) ≠ 0; decide
 zero := fun i j _ _ hj => absurd hj (Nat.not_lt_zero _)
 base := by
   refine ⟨zG0, 1, rfl, by rw [zMq]; rfl, fun j _ e he => ?_, fun a ha => absurd ha (Nat.not_lt_zero _), fun a e _ _ => ?_⟩
   · rw [zDa e he (fun i _ hne => by simp [zG0, hne])]
     simp [zG0, redN]
   · unfold zG0; split <;> simp <;> omega
/-- Rows exchanged. -/
theorem RInv.swap {n L B c : Nat} {M : Tab} {r : Red} (h : RInv n L B M c r) {i : Nat} (hk : r.piv.length < n) (hki : r.piv.length ≤ i) (hi : i < n) : RInv n L B M c { r with T := zBB r.T i r.piv.length } where
 len := by rw [zFL]; exact h.len
 row := zPI _ (by rw [h.len]; exact hi) (by rw [h.len]; exact hk) h.row
 pl := h.pl
 pc := h.pc
 full := h.full
 last := h.last
 zero := fun a j h1 h2 h3 => by
   show at2 (zBB r.T i r.piv.length) a j = 0
   rw [zEA _ (by rw [h.len]; exact hi) (by rw [h.len]; exact hk)]
   have h1 : r.piv.length ≤ a := h1
   refine h.zero _ j ?_ ?_ h3
   · unfold swp; split; exact hki; split; exact Nat.le_refl _; exact h1
   · unfold swp; split; exact hi; split; exact hk; exact h2
 base := by
   obtain ⟨D, s, hs, hD, hS, hp, hB⟩ := h.base
   by_cases e : i = r.piv.length
   · have : zBB r.T i r.piv.length = r.T := by rw [e]; exact zNS _ (by rw [h.len]; exact hk)
     show ∃ (D : Mx) (s : Int), s * s = 1 ∧ det n D = s * r.last ∧ (∀ j, j < L → Sol n D r.last (fun a => at2 M a j) (fun a => at2 (zBB r.T i r.piv.length) a j)) ∧ (∀ a, a < r.piv.length → ∀ e, D a e = at2 M e (r.piv.getD a 0)) ∧ (∀ a e, a < n → e < n → (D a e).natAbs ≤ B)
     rw [this]
     exact ⟨D, s, hs, hD, hS, hp, hB⟩
   · refine ⟨fun a => D (swp i r.piv.length a), -s, by rw [Int.neg_mul_neg]; exact hs, by rw [det_swp n D hi hk e, hD, Int.neg_mul], fun j hj e he => ?_, fun a ha e => ?_, fun a e ha he => ?_⟩
     · have := hS j hj e he
       show zCH (fun a => at2 (zBB r.T i r.piv.length) a j * D (swp i r.piv.length a) e) n = r.last * at2 M e j
       rw [← this, ← sumZ_swp (fun a => at2 r.T a j * D a e) n hi hk]
       refine zBN (fun a _ => ?_)
       rw [zEA _ (by rw [h.len]; exact hi) (by rw [h.len]; exact hk)]
     · have ha : a < r.piv.length := ha
       have : swp i r.piv.length a = a := by unfold swp; rw [if_neg (by omega), if_neg (by omega)]
       show D (swp i r.piv.length a) e = _
       rw [this]; exact hp a ha e
     · refine hB _ e ?_ he
       unfold swp; split; exact hi; split; exact hk; exact ha
/-- One elimination. -/
theorem RInv.elim {n L B c : Nat} {M : Tab} {r : Red} (h : RInv n L B M c r) (hk : r.piv.length < n) (hc : c < L) (hp : at2 r.T r.piv.length c ≠ 0) (hB : ∀ a j, a < n → j < L → (at2 M a j).natAbs ≤ B) (b : Bool) :
   RInv n L B M (c + 1) ⟨zC8 r.T r.piv.length c r.last, r.piv ++ [c], at2 r.T r.piv.length c, b⟩ ∧
   ∀ i j, i < n → i ≠ r.piv.length → j < L → at2 (zC8 r.T r.piv.length c r.last) i j * r.last = at2 r.T i j * at2 r.T r.piv.length c - at2 r.T i c * at2 r.T r.piv.length j := by
 obtain ⟨D, s, hs, hD, hS, hpv, hBD⟩ := h.base
 have hl := h.len
 have hex : ∀ i j, i < n → i ≠ r.piv.length → j < L → r.last ∣ at2 r.T i j * at2 r.T r.piv.length c - at2 r.T i c * at2 r.T r.piv.length j := fun i j hi hne hj =>
   (zK0 h.last hs hD (hS c hc) (hS j hj) hk hp).1 i hi hne
 have hat : ∀ i j, i < n → j < L → at2 (zC8 r.T r.piv.length c r.last) i j = if i = r.piv.length then at2 r.T r.piv.length j else (at2 r.T i j * at2 r.T r.piv.length c - at2 r.T i c * at2 r.T r.piv.length j) / r.last := by
   intro i j hi hj
   rw [zKE _ _ _ _ h.row (by omega) hj]
   by_cases e : i = r.piv.length
   · rw [if_pos e, if_pos e]
   · rw [if_neg e, if_neg e, zO7 h.last (hex i j hi e hj)]
 refine ⟨⟨by rw [zP8]; exact hl, zPf _ _ _ _ (by omega) h.row, by simp; omega, by have := h.pc; simp; omega, fun hf => ?_, hp, fun i j h1 h2 h3 => ?_, ?_⟩, fun i j hi hne hj => ?_⟩
 · have hf : (r.piv ++ [c]).length = c + 1 := hf
   rw [List.length_append, List.length_singleton] at hf
   show r.piv ++ [c] = _
   rw [h.full (by omega), List.range_succ]
 · have h1 : (r.piv ++ [c]).length ≤ i := h1
   rw [List.length_append, List.length_singleton] at h1
   show at2 (zC8 r.T r.piv.length c r.last) i j = 0
   rw [hat i j h2 (by omega), if_neg (by omega)]
   by_cases e : j = c
   · subst e
     rw [Int.sub_self, Int.zero_ediv]
   · rw [h.zero i j (by omega) h2 (by omega), h.zero r.piv.length j (Nat.le_refl _) hk (by omega), Int.zero_mul, Int.mul_zero, Int.sub_self, Int.zero_ediv]
 · refine ⟨put D r.piv.length (fun a => at2 M a c), s, hs, zKV h.last hs hD (hS c hc) hk, fun j hj e he => ?_, fun a ha e => ?_, fun a e ha he => ?_⟩
   · have h1 := (zK0 h.last hs hD (hS c hc) (hS j hj) hk hp).2 e he
     rw [← h1]
     refine zBN (fun i hi => ?_)
     show at2 (zC8 r.T r.piv.length c r.last) i j * _ = _
     rw [hat i j hi hj]
   · have ha : a < (r.piv ++ [c]).length := ha
     rw [List.length_append, List.length_singleton] at ha
     show put D r.piv.length (fun a => at2 M a c) a e = at2 M e ((r.piv ++ [c]).getD a 0)
     by_cases e1 : a = r.piv.length
     · subst e1
       simp [put, List.getD]
     · have h2 : a < r.piv.length := by omega
       have h3 := hpv a h2 e
       simp only [put, e1, if_false]
       rw [h3]
       simp [List.getD, List.getElem?_append_left h2]
   · unfold put
     split
     · exact hB e c he hc
     · exact hBD a e ha he
 · rw [hat i j hi hj, if_neg hne, Int.ediv_mul_cancel (hex i j hi hne hj)]
/-- A column without a pivot. -/
theorem RInv.none {n L B c : Nat} {M : Tab} {r : Red} (h : RInv n L B M c r) (hz : ∀ i, r.piv.length ≤ i → i < n → at2 r.T i c = 0) : RInv n L B M (c + 1) r where
 len := h.len
 row := h.row
 pl := h.pl
 pc := by have := h.pc; omega
 full := fun e => absurd e (by have := h.pc; omega)
 last := h.last
 zero := fun i j h1 h2 h3 => by
   by_cases e : j = c
   · subst e; exact hz i h1 h2
   · exact h.zero i j h1 h2 (by omega)
 base := h.base
theorem RInv.col {n L B c : Nat} {M : Tab} {r : Red} (h : RInv n L B M c r) (hc : c < L) (hB : ∀ a j, a < n → j < L → (at2 M a j).natAbs ≤ B) : RInv n L B M (c + 1) (zH2 r c) := by
 unfold zH2
 by_cases h1 : r.T.length ≤ r.piv.length
 · rw [if_pos h1]
   exact h.none (fun i h2 h3 => absurd h3 (by have := h.len; omega))
 rw [if_neg h1]
 have hl := h.len
 have hk : r.piv.length < n := by omega
 obtain ⟨p1, p2, p3, p4⟩ := zIL r.T c (r.T.length - r.piv.length) r.piv.length
 rw [show r.piv.length + (r.T.length - r.piv.length) = r.T.length by omega] at p2 p4
 by_cases h2 : zFM r.T c (r.T.length - r.piv.length) r.piv.length = r.T.length
 · rw [if_pos h2]
   exact h.none (fun i h3 h4 => p3 i h3 (by omega))
 rw [if_neg h2]
 have hi : zFM r.T c (r.T.length - r.piv.length) r.piv.length < n := by omega
 have hs := h.swap hk p1 hi
 refine (hs.elim hk hc ?_ hB _).1
 show at2 (zBB r.T _ r.piv.length) r.piv.length c ≠ 0
 rw [zEA _ (by omega) (by omega)]
 have : ∀ i k, swp i k k = i := fun i k => by unfold swp; rw [if_pos rfl]
 rw [this]
 exact p4 (by omega)
theorem RInv.all {n L B w : Nat} {M : Tab} (h1 : M.length = n) (h2 : ∀ x ∈ M, x.length = L) (h3 : 1 ≤ B) (hw : w ≤ L) (hB : ∀ a j, a < n → j < L → (at2 M a j).natAbs ≤ B) : RInv n L B M w (redN M w) := by
 induction w with
 | zero => exact RInv.init h1 h2 h3
 | succ c ih => exact (ih (by omega)).col (by omega) hB
/-- Rows that are proportional have their pivots in the same places. -/
structure Prop2 (n w : Nat) (r r' : Red) : Prop where
 piv : r'.piv = r.piv
 rows : ∀ i, i < n → ∃ α β : Int, α ≠ 0 ∧ β ≠ 0 ∧ ∀ j, j < w → α * at2 r'.T i j = β * at2 r.T i j
theorem zKb {n : Nat} {T T' : Tab} {c : Nat} (h : ∀ i, i < n → (at2 T' i c = 0 ↔ at2 T i c = 0)) : ∀ f i, i + f ≤ n → zFM T' c f i = zFM T c f i
 | 0, i, _ => rfl
 | f + 1, i, hi => by
   rw [zFM, zFM]
   by_cases e : at2 T i c = 0
   · rw [if_pos e, if_pos ((h i (by omega)).2 e)]
     exact zKb h f (i + 1) (by omega)
   · rw [if_neg e, if_neg (fun q => e ((h i (by omega)).1 q))]
theorem Prop2.zero {n w : Nat} {r r' : Red} (h : Prop2 n w r r') {i j : Nat} (hi : i < n) (hj : j < w) : at2 r'.T i j = 0 ↔ at2 r.T i j = 0 := by
 obtain ⟨α, β, ha, hb, he⟩ := h.rows i hi
 have := he j hj
 constructor
 · intro e; rw [e, Int.mul_zero] at this
   rcases Int.mul_eq_zero.1 this.symm with q | q
   · exact absurd q hb
   · exact q
 · intro e; rw [e, Int.mul_zero] at this
   rcases Int.mul_eq_zero.1 this with q | q
   · exact absurd q ha
   · exact q
theorem Prop2.col {n w L L' B B' c : Nat} {M M' : Tab} {r r' : Red} (h : Prop2 n w r r') (hr : RInv n L B M c r) (hr' : RInv n L' B' M' c r') (hc : c < w) (hw : w ≤ L) (hw' : w ≤ L')
   (hB : ∀ a j, a < n → j < L → (at2 M a j).natAbs ≤ B) (hB' : ∀ a j, a < n → j < L' → (at2 M' a j).natAbs ≤ B') : Prop2 n w (zH2 r c) (zH2 r' c) := by
 have hl := hr.len
 have hl' := hr'.len
 have hpp := h.piv
 unfold zH2
 rw [hpp, hl, hl']
 by_cases h1 : n ≤ r.piv.length
 · rw [if_pos h1, if_pos h1]; exact h
 rw [if_neg h1, if_neg h1]
 have hk : r.piv.length < n := by omega
 have hsame := zKb (fun i hi => h.zero (j := c) hi hc) (n - r.piv.length) r.piv.length (by omega)
 rw [hsame]
 obtain ⟨p1, p2, p3, p4⟩ := zIL r.T c (n - r.piv.length) r.piv.length
 rw [show r.piv.length + (n - r.piv.length) = n by omega] at p2 p4
 generalize zFM r.T c (n - r.piv.length) r.piv.length = i at *
 by_cases h2 : i = n
 · rw [if_pos h2, if_pos h2]; exact h
 rw [if_neg h2, if_neg h2]
 have hi : i < n := by omega
 have hsw : ∀ i k, swp i k k = i := fun i k => by unfold swp; rw [if_pos rfl]
 have hs := hr.swap hk p1 hi
 have hs' := hr'.swap (by rw [hpp]; exact hk) (by rw [hpp]; exact p1) hi
 have n1 : at2 (zBB r.T i r.piv.length) r.piv.length c ≠ 0 := by
   rw [zEA _ (by omega) (by omega), hsw]; exact p4 hi
 have n2 : at2 (zBB r'.T i r'.piv.length) r'.piv.length c ≠ 0 := by
   rw [zEA _ (by omega) (by rw [hpp]; omega), hsw]
   exact fun q => p4 hi ((h.zero hi hc).1 q)
 have e1 := (hs.elim hk (by omega) n1 hB true).2
 have e2 := (hs'.elim (by rw [hpp]; exact hk) (by omega) n2 hB' true).2
 simp only [hpp] at e2 n2
 have hsr : ∀ a, a < n → ∃ α β : Int, α ≠ 0 ∧ β ≠ 0 ∧ ∀ j, j < w → α * at2 (zBB r'.T i r.piv.length) a j = β * at2 (zBB r.T i r.piv.length) a j := by
   intro a ha
   have hb : swp i r.piv.length a < n := by unfold swp; split; exact hi; split; exact hk; exact ha
   obtain ⟨α, β, q1, q2, q3⟩ := h.rows _ hb
   refine ⟨α, β, q1, q2, fun j hj => ?_⟩
   rw [zEA _ (by omega) (by omega), zEA _ (by omega) (by omega)]
   exact q3 j hj
 refine ⟨rfl, fun a ha => ?_⟩
 obtain ⟨α, β, q1, q2, q3⟩ := hsr a ha
 by_cases hak : a = r.piv.length
 · refine ⟨α, β, q1, q2, fun j hj => ?_⟩
   show α * at2 (zC8 (zBB r'.T i r.piv.length) r.piv.length c r'.last) a j = β * at2 (zC8 (zBB r.T i r.piv.length) r.piv.length c r.last) a j
   rw [zKE _ _ _ _ hs.row (by rw [zFL]; omega) (by omega), zKE (zBB r'.T i r.piv.length) _ _ _ (by have := hs'.row; simp only [hpp] at this; exact this) (by rw [zFL]; omega) (by omega : j < L'), if_pos hak, if_pos hak]
   rw [hak] at q3
   exact q3 j hj
 · obtain ⟨γ, δ, k1, k2, k3⟩ := hsr r.piv.length hk
   refine ⟨α * γ * r'.last, β * δ * r.last, Int.mul_ne_zero (Int.mul_ne_zero q1 k1) hr'.last, Int.mul_ne_zero (Int.mul_ne_zero q2 k2) hr.last, fun j hj => ?_⟩
   have z1 := e1 a j ha hak (by omega)
   have z2 := e2 a j ha hak (by omega)
   have aj := q3 j hj
   have ac := q3 c hc
   have kj := k3 j hj
   have kc := k3 c hc
   show α * γ * r'.last * at2 (zC8 (zBB r'.T i r.piv.length) r.piv.length c r'.last) a j = β * δ * r.last * at2 (zC8 (zBB r.T i r.piv.length) r.piv.length c r.last) a j
   generalize at2 (zC8 (zBB r'.T i r.piv.length) r.piv.length c r'.last) a j = X' at *
   generalize at2 (zC8 (zBB r.T i r.piv.length) r.piv.length c r.last) a j = X at *
   generalize at2 (zBB r'.T i r.piv.length) a j = A' at *
   generalize at2 (zBB r.T i r.piv.length) a j = A at *
   generalize at2 (zBB r'.T i r.piv.length) a c = C' at *
   generalize at2 (zBB r.T i r.piv.length) a c = C at *
   generalize at2 (zBB r'.T i r.piv.length) r.piv.length j = K' at *
   generalize at2 (zBB r.T i r.piv.length) r.piv.length j = K at *
   generalize at2 (zBB r'.T i r.piv.length) r.piv.length c = P' at *
   generalize at2 (zBB r.T i r.piv.length) r.piv.length c = P at *
   generalize r'.last = l' at *
   generalize r.last = l at *
   have w1 : α * γ * l' * X' = (α * A') * (γ * P') - (α * C') * (γ * K') := by
     rw [show α * γ * l' * X' = α * γ * (X' * l') by grind, z2]; grind
   have w2 : β * δ * l * X = (β * A) * (δ * P) - (β * C) * (δ * K) := by
     rw [show β * δ * l * X = β * δ * (X * l) by grind, z1]; grind
   rw [w1, w2, aj, ac, kj, kc]
theorem Prop2.all {n w L L' B B' : Nat} {M M' : Tab} (h1 : M.length = n) (h2 : ∀ x ∈ M, x.length = L) (h1' : M'.length = n) (h2' : ∀ x ∈ M', x.length = L') (h3 : 1 ≤ B) (h3' : 1 ≤ B') (hw : w ≤ L) (hw' : w ≤ L')
   (hB : ∀ a j, a < n → j < L → (at2 M a j).natAbs ≤ B) (hB' : ∀ a j, a < n → j < L' → (at2 M' a j).natAbs ≤ B') (hs : ∀ i, i < n → ∃ α β : Int, α ≠ 0 ∧ β ≠ 0 ∧ ∀ j, j < w → α * at2 M' i j = β * at2 M i j) :
   ∀ c, c ≤ w → Prop2 n w (redN M c) (redN M' c)
 | 0, _ => ⟨rfl, hs⟩
 | c + 1, hc => (Prop2.all h1 h2 h1' h2' h3 h3' hw hw' hB hB' hs c (by omega)).col (RInv.all h1 h2 h3 (by omega) hB) (RInv.all h1' h2' h3' (by omega) hB') (by omega) hw hw' hB hB'
end Go.Ax.Dt
namespace Go.Ax.Rt
open Go.Ax.Bg Go.Ax.Dt
theorem zAk {α : Type} {l : List α} {j : Nat} (d : α) (h : j < l.length) : l.getD j d = l[j] := by simp [List.getD, h]
theorem zAj {α : Type} {l : List α} {j : Nat} (d : α) (h : j < l.length) : l.getD j d ∈ l := by rw [zAk d h]; exact List.getElem_mem h
theorem zFT {α : Type} {l r : List α} {j : Nat} (d : α) (h : j < l.length) : (l ++ r).getD j d = l.getD j d := by simp [List.getD, List.getElem?_append_left h]
theorem get_end {α : Type} {l : List α} {x d : α} : (l ++ [x]).getD l.length d = x := by simp [List.getD]
theorem num_den (q : Rat) : q * (q.den : Rat) = (q.num : Rat) := by
 have h : ((q.den : Int) : Rat) ≠ 0 := fun e => q.den_nz (by
   have := congrArg Rat.num e
   simpa using this)
 have h2 := Rat.num_divInt_den q
 rw [Rat.divInt_eq_div] at h2
 conv => lhs; lhs; rw [← h2]
 rw [← Rat.intCast_natCast, Rat.div_mul_cancel h]
/-- The factor that makes a row whole. -/
def facF : Nat → List Rat → Nat
 | f, [] => f
 | f, q :: r => facF (f * (q.den / Nat.gcd f q.den)) r
def wholeL (l : List Rat) : List Int := l.map (fun q => q.num * ((facF 1 l / q.den : Nat) : Int))
/-- SolveOf: rows with the right side at their end. -/
def solT (rows : List (List Rat)) (w : Nat) : Red := redN (rows.map wholeL) w
def zNF (rows : List (List Rat)) (w : Nat) : List Rat × Int :=
 if ((solT rows w).T.drop (solT rows w).piv.length).any (fun r => decide (r.getD w 0 ≠ 0)) then ([], 8)
 else if (solT rows w).piv.length < w then ([], 18)
 else ((List.range w).map (fun k => Rat.divInt (at2 (solT rows w).T k w) (at2 (solT rows w).T k k)), 0)
def augQ (m : List (List Rat)) (b : List Rat) : List (List Rat) := (List.range m.length).map (fun i => m.getD i [] ++ [b.getD i 0])
/-- matrix.Solve -/
def solveR (m : List (List zAK)) (b : List zAK) : List zAK × Int :=
 if zHi m ≠ 0 then ([], zHi m) else if zIp b ≠ 0 then ([], zIp b) else if b.length ≠ m.length then ([], 3)
 else if (zNF (augQ (inM m) (b.map zAU)) (zDs m)).2 ≠ 0 then ([], (zNF (augQ (inM m) (b.map zAU)) (zDs m)).2) else zBC (zNF (augQ (inM m) (b.map zAU)) (zDs m)).1
def zN1 : Nat → List (List Rat) → Nat
 | f, [] => f
 | f, r :: rs => zN1 (f * facF 1 r) rs
def detQ (rows : List (List Rat)) : Rat := Rat.divInt (if (solT rows rows.length).neg then -(solT rows rows.length).last else (solT rows rows.length).last) (zN1 1 rows : Nat)
/-- matrix.Det -/
def detR (m : List (List zAK)) : zAK × Int :=
 if zHi m ≠ 0 then ([], zHi m) else if m.length ≠ zDs m then ([], 3)
 else if (solT (inM m) m.length).piv.length < m.length then ([48], 0) else zDk (detQ (inM m))
theorem zM2 {a x y : Rat} (ha : a ≠ 0) (h : a * x = a * y) : x = y := by
 have h1 : a⁻¹ * (a * x) = a⁻¹ * (a * y) := by rw [h]
 rwa [← Rat.mul_assoc, ← Rat.mul_assoc, Rat.inv_mul_cancel a ha, Rat.one_mul, Rat.one_mul] at h1
theorem intc_ne {x : Int} (h : x ≠ 0) : (x : Rat) ≠ 0 := fun e => h (by
 have := congrArg Rat.num e
 simpa using this)
end Go.Ax.Rt
namespace Go.Ax.Rt
open Go.Ax.Bg Go.Ax.Dt
theorem dig_D {k : Nat} {q : Rat} (h1 : (Lib.decDigits q.num.natAbs).length ≤ k) (h2 : (Lib.decDigits q.den).length ≤ k) : D k q :=
 ⟨Nat.lt_of_lt_of_le (zD1 _) (Nat.pow_le_pow_right (by decide) h1), Nat.lt_of_lt_of_le (zD1 _) (Nat.pow_le_pow_right (by decide) h2)⟩
end Go.Ax.Rt
namespace Go.Ax.Rt
open Go.Ax.Bg
structure TNode where
 kind : Int
 player : Int
 info : Int
 next : List Int
 odds : List zAK
 pay : zAK
 deriving DecidableEq
def node0 : TNode := ⟨0, 0, 0, [], [], []⟩
abbrev zT := List TNode
def zEX (N i : Nat) (k : Int) : Bool := decide (k ≤ (i : Int)) || decide ((N : Int) ≤ k)
/-- the error of the children of a node -/
def zF7 (N i : Nat) (l : List Int) : Int := if l.length = 0 then 3 else if 6 < l.length then 2 else if l.any (zEX N i) = true then 3 else 0
def zDp (N i : Nat) (n : TNode) : Int :=
 if n.kind = 0 then (if n.player ≠ 0 ∨ n.info ≠ 0 ∨ n.next ≠ [] ∨ n.odds ≠ [] then 3 else zCX n.pay)
 else if n.kind = 1 then (if n.player ≠ 0 ∨ n.info ≠ 0 ∨ n.pay ≠ [] then 3 else if zF7 N i n.next ≠ 0 then zF7 N i n.next else if n.odds.length ≠ n.next.length then 3 else zDn n.odds)
 else if n.kind = 2 then (if n.odds ≠ [] ∨ n.pay ≠ [] then 3 else if (n.player ≠ 0 ∧ n.player ≠ 1) ∨ n.info < 0 ∨ 10 ≤ n.info then 4 else zF7 N i n.next)
 else 1
def zEY (N : Nat) : Nat → zT → Int
 | _, [] => 0
 | i, n :: r => if zDp N i n = 0 then zEY N (i + 1) r else zDp N i n
/-- how often a node is named -/
def named (t : zT) (k : Nat) : Nat := ((t.flatMap TNode.next).filter (fun x => decide (x = (k : Int)))).length
def zGv (a b : TNode) : Bool := decide (a.kind = 2) && (decide (b.kind = 2) && (decide (a.player = b.player) && (decide (a.info = b.info) && decide (a.next.length ≠ b.next.length))))
def zFk (t : zT) : Int :=
 if 120 < t.length then 2 else if t.length = 0 then 8 else if zEY t.length 0 t ≠ 0 then zEY t.length 0 t
 else if (List.range t.length).any (fun k => decide (k ≠ 0) && decide (named t k ≠ 1)) = true then 3
 else if t.any (fun a => t.any (zGv a)) = true then 3 else 0
def zCC (t : zT) (p : Int) : Int := if zFk t ≠ 0 then zFk t else if p ≠ 0 ∧ p ≠ 1 then 4 else 0
/-- Is it the player's move, in an information set? -/
def own (p : Int) (n : TNode) : Bool := decide (n.kind = 2) && decide (n.player = p)
def zA4 (p i : Int) (n : TNode) : Bool := own p n && decide (n.info = i)
/-- the first node of an information set -/
def zIt (t : zT) (p i : Int) : Nat := t.findIdx (zA4 p i)
def zf (t : zT) (p : Int) : List Int := ((List.range 10).map (fun i : Nat => (i : Int))).filter (fun i => t.any (zA4 p i))
def zd (t : zT) (p i : Int) : Nat := (t.getD (zIt t p i) node0).next.length
def zBY (t : zT) (p : Int) : List Int := (zf t p).map (fun i => ((zd t p i : Nat) : Int))
/-- What a valid game is. -/
structure Valid (t : zT) : Prop where
 le : t.length ≤ 120
 ne : t.length ≠ 0
 nodes : ∀ i, i < t.length → zDp t.length i (t.getD i node0) = 0
 once : ∀ k, k < t.length → k ≠ 0 → named t k = 1
 same : ∀ a ∈ t, ∀ b ∈ t, zGv a b = false
theorem zKl (N : Nat) : ∀ (t : zT) (i : Nat), zEY N i t = 0 → ∀ j, j < t.length → zDp N (i + j) (t.getD j node0) = 0
 | [], i, _, j, hj => absurd hj (Nat.not_lt_zero _)
 | n :: r, i, h, j, hj => by
   rw [zEY] at h
   split at h
   · rename_i h0
     cases j with
     | zero => exact h0
     | succ j =>
       have := zKl N r (i + 1) h j (by simpa using hj)
       rw [show i + (j + 1) = i + 1 + j by omega]
       exact this
   · rename_i h0; exact absurd h h0
theorem zJU {t : zT} (h : zFk t = 0) : Valid t := by
 unfold zFk at h
 split at h
 · cases h
 split at h
 · cases h
 split at h
 · rename_i h3; exact absurd h h3
 split at h
 · cases h
 split at h
 · cases h
 rename_i h1 h2 h3 h4 h5
 refine ⟨by omega, h2, fun i hi => ?_, fun k hk h0 => ?_, fun a ha b hb => ?_⟩
 · have := zKl t.length t 0 (Classical.not_not.1 h3) i hi
   rwa [Nat.zero_add] at this
 · rw [Bool.not_eq_true, List.any_eq_false] at h4
   have := h4 k (by simpa using hk)
   simp only [Bool.and_eq_true, decide_eq_true_eq, not_and] at this
   exact Classical.not_not.1 (this h0)
 · rw [Bool.not_eq_true, List.any_eq_false] at h5
   have := h5 a ha
   rw [List.any_eq_true] at this
   cases hc : zGv a b
   · rfl
   · exact absurd ⟨b, hb, hc⟩ this
/-- The children stand behind their parent. -/
theorem zCM {N i : Nat} {l : List Int} (h : zF7 N i l = 0) : 1 ≤ l.length ∧ l.length ≤ 6 ∧ ∀ k ∈ l, (i : Int) < k ∧ k < N := by
 unfold zF7 at h
 split at h
 · cases h
 split at h
 · cases h
 split at h
 · cases h
 rename_i h1 h2 h3
 refine ⟨by omega, by omega, fun k hk => ?_⟩
 rw [Bool.not_eq_true, List.any_eq_false] at h3
 have := h3 k hk
 unfold zEX at this
 simp only [Bool.or_eq_true, decide_eq_true_eq, not_or] at this
 omega
theorem Valid.child {t : zT} (h : Valid t) {i : Nat} (hi : i < t.length) : ((t.getD i node0).kind = 0 ∧ (t.getD i node0).next = []) ∨ (((t.getD i node0).kind = 1 ∨ (t.getD i node0).kind = 2) ∧ zF7 t.length i (t.getD i node0).next = 0) := by
 have hn := h.nodes i hi
 unfold zDp at hn
 split at hn
 · rename_i h0
   split at hn
   · cases hn
   · rename_i h1
     simp only [not_or] at h1
     exact .inl ⟨h0, Classical.not_not.1 h1.2.2.1⟩
 · split at hn
   · rename_i h1
     split at hn
     · cases hn
     split at hn
     · rename_i h2; exact absurd hn h2
     rename_i h2 h3
     exact .inr ⟨.inl h1, Classical.not_not.1 h3⟩
   · split at hn
     · rename_i h2
       split at hn
       · cases hn
       split at hn
       · cases hn
       exact .inr ⟨.inr h2, hn⟩
     · cases hn
theorem Valid.behind {t : zT} (h : Valid t) {i : Nat} (hi : i < t.length) : ∀ k ∈ (t.getD i node0).next, (i : Int) < k ∧ k < t.length := by
 rcases h.child hi with ⟨_, h2⟩ | ⟨_, h2⟩
 · rw [h2]; intro k hk; simp at hk
 · exact (zCM h2).2.2
theorem Valid.few {t : zT} (h : Valid t) {i : Nat} (hi : i < t.length) : (t.getD i node0).next.length ≤ 6 := by
 rcases h.child hi with ⟨_, h2⟩ | ⟨_, h2⟩
 · rw [h2]; exact Nat.zero_le _
 · exact (zCM h2).2.1
theorem Valid.mine {t : zT} (h : Valid t) {i : Nat} (hi : i < t.length) {p : Int} (ho : own p (t.getD i node0) = true) : 0 ≤ (t.getD i node0).info ∧ (t.getD i node0).info < 10 ∧ 1 ≤ (t.getD i node0).next.length := by
 unfold own at ho
 rw [Bool.and_eq_true, decide_eq_true_eq, decide_eq_true_eq] at ho
 have hn := h.nodes i hi
 unfold zDp at hn
 rw [if_neg (by rw [ho.1]; decide), if_neg (by rw [ho.1]; decide), if_pos ho.1] at hn
 split at hn
 · cases hn
 split at hn
 · cases hn
 rename_i h1 h2
 simp only [not_or] at h2
 have := zCM hn
 exact ⟨by omega, by omega, this.1⟩
/-- Nodes of one set have equally many choices. -/
theorem Valid.width {t : zT} (h : Valid t) {i j : Nat} (hi : i < t.length) (hj : j < t.length) {p : Int} (hio : own p (t.getD i node0) = true) (hjo : own p (t.getD j node0) = true) (he : (t.getD i node0).info = (t.getD j node0).info) : (t.getD i node0).next.length = (t.getD j node0).next.length := by
 have hc := h.same _ (zAj node0 hi) _ (zAj node0 hj)
 unfold own at hio hjo
 rw [Bool.and_eq_true, decide_eq_true_eq, decide_eq_true_eq] at hio hjo
 unfold zGv at hc
 rw [decide_eq_true hio.1, decide_eq_true hjo.1, decide_eq_true (by rw [hio.2, hjo.2]), decide_eq_true he, Bool.true_and, Bool.true_and, Bool.true_and, Bool.true_and, decide_eq_false_iff_not] at hc
 exact Classical.not_not.1 hc
end Go.Ax.Rt
namespace Go.Ax.Rt
open Go.Ax.Bg
/-- how often 0, 1, .. N-1 occur -/
def zDb (N : Nat) (l : List Int) : List Int := (List.range N).map (fun k : Nat => (((l.filter (fun x => decide (x = (k : Int)))).length : Nat) : Int))
theorem zEC (N : Nat) (l : List Int) : (zDb N l).length = N := by simp [zDb]
theorem zJT {N : Nat} {l : List Int} {k : Nat} (hk : k < N) : (zDb N l).getD k 0 = (((l.filter (fun x => decide (x = (k : Int)))).length : Nat) : Int) := by simp [zDb, List.getD, hk]
theorem cntT_nil (N : Nat) : zDb N [] = List.replicate N 0 := by
 apply List.ext_getElem (by simp [zDb])
 intro i h1 h2
 simp [zDb]
theorem zP5 {N : Nat} (l : List Int) {x : Int} (h0 : 0 ≤ x) (h1 : x < N) : zDb N (l ++ [x]) = (zDb N l).set x.toNat ((zDb N l).getD x.toNat 0 + 1) := by
 rw [zJT (by omega)]
 apply List.ext_getElem (by simp [zDb])
 intro i i1 i2
 rw [List.getElem_set]
 have hi : i < N := by simpa [zDb] using i1
 simp only [zDb, List.getElem_map, List.getElem_range, List.filter_append, List.length_append]
 by_cases h : x.toNat = i
 · rw [if_pos h, h]
   have : x = (i : Int) := by omega
   simp [this]
 · rw [if_neg h]
   have : ¬ x = (i : Int) := by omega
   simp [this]
theorem cntT_le (N : Nat) (l : List Int) (k : Nat) : 0 ≤ (zDb N l).getD k 0 ∧ (zDb N l).getD k 0 ≤ l.length := by
 by_cases hk : k < N
 · rw [zJT hk]
   have := List.length_filter_le (fun x => decide (x = (k : Int))) l
   omega
 · have : (zDb N l).getD k 0 = 0 := by simp [zDb, List.getD, hk]
   rw [this]; omega
theorem zJl (t : zT) {k : Nat} (hk : k < t.length) : (zDb t.length (t.flatMap TNode.next)).getD k 0 = ((named t k : Nat) : Int) := zJT hk
/-- All but the first are named once. -/
theorem zPB {t : zT} (h0 : t.length ≠ 0) : ((zDb t.length (t.flatMap TNode.next)).drop 1).any (fun n => decide (n ≠ 1)) = (List.range t.length).any (fun k => decide (k ≠ 0) && decide (named t k ≠ 1)) := by
 rw [Bool.eq_iff_iff, List.any_eq_true, List.any_eq_true]
 constructor
 · rintro ⟨x, hx, h⟩
   obtain ⟨i, hi, rfl⟩ := List.mem_iff_getElem.1 hx
   rw [List.length_drop, zEC] at hi
   refine ⟨1 + i, by simp; omega, ?_⟩
   rw [List.getElem_drop] at h
   have e := zJl t (k := 1 + i) (by omega)
   rw [zAk 0 (by rw [zEC]; omega)] at e
   rw [e] at h
   simp only [Bool.and_eq_true, decide_eq_true_eq] at h ⊢
   exact ⟨by omega, by omega⟩
 · rintro ⟨k, hk, h⟩
   have hk : k < t.length := by simpa using hk
   simp only [Bool.and_eq_true, decide_eq_true_eq] at h
   have e := zJl t hk
   refine ⟨_, List.mem_iff_getElem.2 ⟨k - 1, by rw [List.length_drop, zEC]; omega, rfl⟩, ?_⟩
   rw [List.getElem_drop]
   rw [zAk 0 (by rw [zEC]; omega)] at e
   have e2 : (zDb t.length (t.flatMap TNode.next))[1 + (k - 1)]'(by rw [zEC]; omega) = ((named t k : Nat) : Int) := by
     rw [← e]; congr 1; omega
   rw [e2, decide_eq_true_eq]
   omega
/-- the sizes of the information sets, as the loop finds them -/
abbrev KSz := List (Int × Int × Nat)
def kstep (S : KSz) (n : TNode) : KSz := if n.kind = 2 ∧ ∀ e ∈ S, ¬ (e.1 = n.player ∧ e.2.1 = n.info) then S ++ [(n.player, n.info, n.next.length)] else S
def ktab (t : zT) : KSz := t.foldl kstep []
def zIz (t : zT) : Prop := ∀ a ∈ t, ∀ b ∈ t, zGv a b = false
structure KInv (t : zT) (S : KSz) : Prop where
 free : zIz t
 from_ : ∀ e ∈ S, ∃ b ∈ t, b.kind = 2 ∧ b.player = e.1 ∧ b.info = e.2.1 ∧ b.next.length = e.2.2
 all : ∀ a ∈ t, a.kind = 2 → ∃ e ∈ S, e.1 = a.player ∧ e.2.1 = a.info
theorem zMQ {a b : TNode} : zGv a b = true ↔ a.kind = 2 ∧ b.kind = 2 ∧ a.player = b.player ∧ a.info = b.info ∧ a.next.length ≠ b.next.length := by
 unfold zGv
 simp only [Bool.and_eq_true, decide_eq_true_eq]
theorem zJc {a b : TNode} : zGv a b = false ↔ (a.kind = 2 → b.kind = 2 → a.player = b.player → a.info = b.info → a.next.length = b.next.length) := by
 rw [← Bool.not_eq_true, zMQ]
 constructor
 · intro h h1 h2 h3 h4
   exact Classical.not_not.1 (fun h5 => h ⟨h1, h2, h3, h4, h5⟩)
 · rintro h ⟨h1, h2, h3, h4, h5⟩
   exact h5 (h h1 h2 h3 h4)
theorem KInv.nil : KInv [] [] := ⟨fun a ha => by simp at ha, fun e he => by simp at he, fun a ha => by simp at ha⟩
theorem zFW {t : zT} {n : TNode} (h : zIz t) (hn : ∀ a ∈ t, n.kind = 2 → a.kind = 2 → a.player = n.player → a.info = n.info → a.next.length = n.next.length) : zIz (t ++ [n]) := by
 intro a ha0 b hb0
 rw [zJc]
 intro k1 k2 k3 k4
 rcases List.mem_append.1 ha0 with ha | ha <;> rcases List.mem_append.1 hb0 with hb | hb
 · exact zJc.1 (h a ha b hb) k1 k2 k3 k4
 · have e := List.mem_singleton.1 hb
   rw [e] at k2 k3 k4 ⊢
   exact hn a ha k2 k1 k3 k4
 · have e := List.mem_singleton.1 ha
   rw [e] at k1 k3 k4 ⊢
   exact (hn b hb k1 k2 k3.symm k4.symm).symm
 · rw [List.mem_singleton.1 ha, List.mem_singleton.1 hb]
theorem KInv.skip {t : zT} {S : KSz} {n : TNode} (h : KInv t S) (hk : n.kind ≠ 2) : KInv (t ++ [n]) S :=
 ⟨zFW h.free (fun a _ h1 => absurd h1 hk), fun e he => by
   obtain ⟨b, hb, q⟩ := h.from_ e he
   exact ⟨b, List.mem_append_left _ hb, q⟩, fun a ha h1 => by
   rcases List.mem_append.1 ha with ha | ha
   · exact h.all a ha h1
   · rw [List.mem_singleton.1 ha] at h1; exact absurd h1 hk⟩
theorem KInv.hit {t : zT} {S : KSz} {n : TNode} {e : Int × Int × Nat} (h : KInv t S) (he : e ∈ S) (h1 : e.1 = n.player) (h2 : e.2.1 = n.info) (h3 : e.2.2 = n.next.length) : KInv (t ++ [n]) S :=
 ⟨zFW h.free (fun a ha q1 q2 q3 q4 => by
   obtain ⟨b, hb, p1, p2, p3, p4⟩ := h.from_ e he
   have := zJc.1 (h.free a ha b hb) q2 p1 (by rw [q3, p2, h1]) (by rw [q4, p3, h2])
   rw [this, p4, h3]), fun e he => by
   obtain ⟨b, hb, q⟩ := h.from_ e he
   exact ⟨b, List.mem_append_left _ hb, q⟩, fun a ha q1 => by
   rcases List.mem_append.1 ha with ha | ha
   · exact h.all a ha q1
   · rw [List.mem_singleton.1 ha]; exact ⟨e, he, h1, h2⟩⟩
theorem KInv.miss {t : zT} {S : KSz} {n : TNode} (h : KInv t S) (hk : n.kind = 2) (hm : ∀ e ∈ S, ¬ (e.1 = n.player ∧ e.2.1 = n.info)) : KInv (t ++ [n]) (S ++ [(n.player, n.info, n.next.length)]) :=
 ⟨zFW h.free (fun a ha q1 q2 q3 q4 => by
   obtain ⟨e, he, p1, p2⟩ := h.all a ha q2
   exact absurd ⟨by rw [p1, q3], by rw [p2, q4]⟩ (hm e he)), fun e he => by
   rcases List.mem_append.1 he with he | he
   · obtain ⟨b, hb, q⟩ := h.from_ e he
     exact ⟨b, List.mem_append_left _ hb, q⟩
   · rw [List.mem_singleton.1 he]
     exact ⟨n, by simp, hk, rfl, rfl, rfl⟩, fun a ha q1 => by
   rcases List.mem_append.1 ha with ha | ha
   · obtain ⟨e, he, q⟩ := h.all a ha q1
     exact ⟨e, List.mem_append_left _ he, q⟩
   · rw [List.mem_singleton.1 ha]; exact ⟨_, List.mem_append_right _ (List.mem_singleton.2 rfl), rfl, rfl⟩⟩
theorem KInv.bad {t T : zT} {S : KSz} {n : TNode} {e : Int × Int × Nat} (h : KInv t S) (hT : ∀ a ∈ t, a ∈ T) (hn : n ∈ T) (hk : n.kind = 2) (he : e ∈ S) (h1 : e.1 = n.player) (h2 : e.2.1 = n.info) (h3 : e.2.2 ≠ n.next.length) : T.any (fun a => T.any (zGv a)) = true := by
 obtain ⟨b, hb, p1, p2, p3, p4⟩ := h.from_ e he
 rw [List.any_eq_true]
 refine ⟨b, hT b hb, ?_⟩
 rw [List.any_eq_true]
 exact ⟨n, hn, zMQ.2 ⟨p1, hk, by rw [p2, h1], by rw [p3, h2], by rw [p4]; exact h3⟩⟩
theorem zL1 {t : zT} (h : zIz t) : t.any (fun a => t.any (zGv a)) = false := by
 rw [List.any_eq_false]
 intro a ha h1
 obtain ⟨b, hb, h2⟩ := List.any_eq_true.1 h1
 rw [h a ha b hb] at h2
 cases h2
theorem zL3 {N i : Nat} {t : zT} (hi : i < t.length) : zEY N i (t.drop i) = if zDp N i (t.getD i node0) = 0 then zEY N (i + 1) (t.drop (i + 1)) else zDp N i (t.getD i node0) := by
 rw [List.drop_eq_getElem_cons hi, ← zAk node0 hi, zEY]
theorem zM8 {N i : Nat} {n : TNode} (h : zDp N i n = 0) : (∀ k ∈ n.next, (i : Int) < k ∧ k < N) ∧ n.next.length ≤ 6 := by
 unfold zDp at h
 split at h
 · split at h
   · cases h
   · rename_i h1
     simp only [not_or] at h1
     have := Classical.not_not.1 h1.2.2.1
     rw [this]
     exact ⟨fun k hk => by simp at hk, Nat.zero_le _⟩
 · split at h
   · split at h
     · cases h
     split at h
     · rename_i h2; exact absurd h h2
     rename_i h2 h3
     obtain ⟨q1, q2, q3⟩ := zCM (Classical.not_not.1 h3)
     exact ⟨q3, q2⟩
   · split at h
     · split at h
       · cases h
       split at h
       · cases h
       obtain ⟨q1, q2, q3⟩ := zCM h
       exact ⟨q3, q2⟩
     · cases h
/-- the nodes named by the first nodes -/
def zEN (t : zT) (i : Nat) : List Int := (t.take i).flatMap TNode.next
theorem zNZ {t : zT} {i : Nat} (hi : i < t.length) : zEN t (i + 1) = zEN t i ++ (t.getD i node0).next := by
 unfold zEN
 rw [List.take_succ_eq_append_getElem hi, List.flatMap_append, zAk node0 hi]
 simp
theorem zCi {l : List Int} {j : Nat} (hj : j < l.length) : l.take (j + 1) = l.take j ++ [l.getD j 0] := by
 rw [List.take_succ_eq_append_getElem hj, zAk 0 hj]
theorem zNT {l : zT} {j : Nat} (hj : j < l.length) : l.take (j + 1) = l.take j ++ [l.getD j node0] := by
 rw [List.take_succ_eq_append_getElem hj, zAk node0 hj]
def keyA (e : Int × Int × Nat) : Int × Int := (e.1, e.2.1)
end Go.Ax.Rt
namespace Go.Ax.Rt
open Go.Ax.Bg
structure RSeq where
 info : Int
 choice : Int
 before : Int
 deriving DecidableEq
def zBZ : RSeq := ⟨-1, -1, -1⟩
structure RForm where
 seqs : List RSeq
 pos : List Int
 first : List (Int × Nat)
def zBL (m : List (Int × Nat)) (k : Int) : Option Nat := (m.find? (fun x => decide (x.1 = k))).map Prod.snd
def zBk (n : TNode) (b : Int) : List RSeq := (List.range n.next.length).map (fun k : Nat => ⟨n.info, (k : Int), b⟩)
def zAI (p : Int) (n : TNode) (i : Nat) (f : RForm) : RForm :=
 if own p n = true ∧ zBL f.first n.info = none then ⟨f.seqs ++ zBk n (f.pos.getD i 0), f.pos, f.first ++ [(n.info, f.seqs.length)]⟩ else f
def zDQ (v : Nat → Int) : List Int → Nat → List Int → List Int
 | [], _, a => a
 | c :: r, k, a => zDQ v r (k + 1) (a.set c.toNat (v k))
def zGu (p : Int) (n : TNode) (i : Nat) (f : RForm) (k : Nat) : Int := if own p n = true then (((zBL f.first n.info).getD 0 : Nat) : Int) + (k : Int) else f.pos.getD i 0
def zIk (p : Int) (n : TNode) (i : Nat) (f : RForm) : RForm := ⟨(zAI p n i f).seqs, zDQ (zGu p n i (zAI p n i f)) n.next 0 (zAI p n i f).pos, (zAI p n i f).first⟩
def zAE (t : zT) (p : Int) : Nat → RForm
 | 0 => ⟨[zBZ], List.replicate t.length 0, []⟩
 | i + 1 => zIk p (t.getD i node0) i (zAE t p i)
theorem zG4 {m : List (Int × Nat)} {k : Int} (h : zBL m k = none) : k ∉ m.map Prod.fst := by
 unfold zBL at h
 rw [Option.map_eq_none_iff, List.find?_eq_none] at h
 intro hk
 obtain ⟨x, hx, rfl⟩ := List.mem_map.1 hk
 exact h x hx (by simp)
theorem zCK {m : List (Int × Nat)} {k : Int} {s : Nat} (h : zBL m k = some s) : (k, s) ∈ m := by
 unfold zBL at h
 obtain ⟨x, hx, rfl⟩ := Option.map_eq_some_iff.1 h
 have h1 := List.mem_of_find?_eq_some hx
 have h2 := List.find?_some hx
 have h3 : x.1 = k := by simpa using h2
 rw [← h3]; exact h1
theorem zIm (v : Nat → Int) : ∀ (l : List Int) (k : Nat) (a : List Int), (zDQ v l k a).length = a.length
 | [], _, a => rfl
 | c :: r, k, a => by rw [zDQ, zIm v r]; simp
theorem zIU {v : Nat → Int} {P : Int → Prop} : ∀ (l : List Int) (k : Nat) (a : List Int), (∀ x ∈ a, P x) → (∀ j, k ≤ j → j < k + l.length → P (v j)) → ∀ x ∈ zDQ v l k a, P x
 | [], _, a, h, _ => h
 | c :: r, k, a, h, hv => by
   rw [zDQ]
   refine zIU r (k + 1) _ (fun x hx => ?_) (fun j h1 h2 => hv j (by omega) (by simp; omega))
   rcases List.mem_or_eq_of_mem_set hx with q | q
   · exact h x q
   · rw [q]; exact hv k (Nat.le_refl _) (by simp)
theorem zDc {t : zT} (h : Valid t) {p x : Int} {i : Nat} (hi : i < t.length) (hs : zA4 p x (t.getD i node0) = true) : zd t p x = (t.getD i node0).next.length := by
 have hex : ∃ y ∈ t, zA4 p x y = true := ⟨_, zAj node0 hi, hs⟩
 have hlt : zIt t p x < t.length := List.findIdx_lt_length_of_exists hex
 have hin : zA4 p x (t.getD (zIt t p x) node0) = true := by
   rw [zAk node0 hlt]
   exact List.findIdx_getElem
 unfold zA4 at hs hin
 rw [Bool.and_eq_true, decide_eq_true_eq] at hs hin
 exact h.width hlt hi hin.1 hs.1 (by rw [hin.2, hs.2])
structure RI (t : zT) (p : Int) (i : Nat) (f : RForm) : Prop where
 s0 : f.seqs.getD 0 zBZ = zBZ ∧ 0 < f.seqs.length
 pl : f.pos.length = t.length
 pb : ∀ x ∈ f.pos, 0 ≤ x ∧ x < f.seqs.length
 keys : ∀ x, x ∈ f.first.map Prod.fst ↔ ∃ j, j < i ∧ zA4 p x (t.getD j node0) = true
 nd : (f.first.map Prod.fst).Nodup
 sl : f.seqs.length = 1 + (f.first.map (fun x => zd t p x.1)).sum
 fst : ∀ x ∈ f.first, 1 ≤ x.2 ∧ x.2 + zd t p x.1 ≤ f.seqs.length ∧ ∃ b : Int, 0 ≤ b ∧ b < x.2 ∧ ∀ k, k < zd t p x.1 → f.seqs.getD (x.2 + k) zBZ = ⟨x.1, k, b⟩
 all : ∀ k, 1 ≤ k → k < f.seqs.length → ∃ x ∈ f.first, x.2 ≤ k ∧ k < x.2 + zd t p x.1
theorem RI.init (t : zT) (p : Int) : RI t p 0 (zAE t p 0) where
 s0 := ⟨rfl, Nat.zero_lt_one⟩
 pl := List.length_replicate
 pb := fun x hx => by
   obtain ⟨_, rfl⟩ := List.mem_replicate.1 hx
   exact ⟨by decide, by show (0 : Int) < ((1 : Nat) : Int); decide⟩
 keys := fun x => ⟨fun h => by simp [zAE] at h, fun ⟨j, hj, _⟩ => absurd hj (Nat.not_lt_zero _)⟩
 nd := List.nodup_nil
 sl := rfl
 fst := fun x hx => by simp [zAE] at hx
 all := fun k h1 h2 => by
   have : (zAE t p 0).seqs.length = 1 := rfl
   omega
/-- A new information set. -/
theorem RI.add {t : zT} (hv : Valid t) {p : Int} {i : Nat} {f : RForm} (h : RI t p i f) (hi : i < t.length) :
   RI t p i f → (f.seqs.getD 0 zBZ = zBZ) → let n := t.getD i node0; let g := zAI p n i f
   g.seqs.getD 0 zBZ = zBZ ∧ 0 < g.seqs.length ∧ g.pos = f.pos ∧ f.seqs.length ≤ g.seqs.length ∧ (∀ x, x ∈ g.first.map Prod.fst ↔ ∃ j, j < i + 1 ∧ zA4 p x (t.getD j node0) = true) ∧ (g.first.map Prod.fst).Nodup ∧
   g.seqs.length = 1 + (g.first.map (fun x => zd t p x.1)).sum ∧
   (∀ x ∈ g.first, 1 ≤ x.2 ∧ x.2 + zd t p x.1 ≤ g.seqs.length ∧ ∃ b : Int, 0 ≤ b ∧ b < x.2 ∧ ∀ k, k < zd t p x.1 → g.seqs.getD (x.2 + k) zBZ = ⟨x.1, k, b⟩) ∧
   (∀ k, 1 ≤ k → k < g.seqs.length → ∃ x ∈ g.first, x.2 ≤ k ∧ k < x.2 + zd t p x.1) ∧ (own p n = true → ∃ s, zBL g.first n.info = some s) := by
 intro _ _
 obtain ⟨h0, h0l⟩ := h.s0
 intro n g
 have hkey : ∀ x, (∃ j, j < i + 1 ∧ zA4 p x (t.getD j node0) = true) ↔ ((∃ j, j < i ∧ zA4 p x (t.getD j node0) = true) ∨ zA4 p x n = true) := by
   intro x
   constructor
   · rintro ⟨j, h1, h2⟩
     by_cases e : j = i
     · subst e; exact .inr h2
     · exact .inl ⟨j, by omega, h2⟩
   · rintro (⟨j, h1, h2⟩ | h2)
     · exact ⟨j, by omega, h2⟩
     · exact ⟨i, by omega, h2⟩
 by_cases hc : own p n = true ∧ zBL f.first n.info = none
 · have eg : g = ⟨f.seqs ++ zBk n (f.pos.getD i 0), f.pos, f.first ++ [(n.info, f.seqs.length)]⟩ := by
     show zAI p n i f = _
     unfold zAI; rw [if_pos hc]
   have hin : zA4 p n.info n = true := by unfold zA4; rw [hc.1]; simp
   have hw : zd t p n.info = n.next.length := zDc hv hi hin
   have hnl : (zBk n (f.pos.getD i 0)).length = n.next.length := by simp [zBk]
   have hno := zG4 hc.2
   have hb := h.pb (f.pos.getD i 0) (zAj 0 (by rw [h.pl]; exact hi))
   rw [eg]
   refine ⟨by rw [zFT _ h0l]; exact h0, by rw [List.length_append]; omega, rfl, by rw [List.length_append]; omega, fun x => ?_, ?_, ?_, fun x hx => ?_, fun k h1 h2 => ?_, fun _ => ?_⟩
   · rw [hkey, List.map_append, List.mem_append, h.keys x]
     constructor
     · rintro (q | q)
       · exact .inl q
       · right
         have : x = n.info := by simpa using q
         rw [this]; exact hin
     · rintro (q | q)
       · exact .inl q
       · right
         unfold zA4 at q
         rw [Bool.and_eq_true, decide_eq_true_eq] at q
         simp [q.2]
   · rw [List.map_append, List.nodup_append]
     refine ⟨h.nd, by simp, fun a ha b hb e => ?_⟩
     have : b = n.info := by simpa using hb
     rw [← this, ← e] at hno
     exact hno ha
   · rw [List.length_append, hnl, List.map_append, List.sum_append, h.sl]
     simp [hw]
     omega
   · rcases List.mem_append.1 hx with q | q
     · obtain ⟨a1, a2, b, b1, b2, b3⟩ := h.fst x q
       refine ⟨a1, by rw [List.length_append]; omega, b, b1, b2, fun k hk => ?_⟩
       rw [zFT _ (by omega)]
       exact b3 k hk
     · have hx' : x = (n.info, f.seqs.length) := by simpa using q
       subst hx'
       refine ⟨h0l, by rw [List.length_append, hnl]; show _ + zd t p n.info ≤ _; omega, f.pos.getD i 0, hb.1, hb.2, fun k hk => ?_⟩
       have hk : k < n.next.length := by
         have : k < zd t p n.info := hk
         omega
       show (f.seqs ++ zBk n (f.pos.getD i 0)).getD (f.seqs.length + k) zBZ = _
       have e : (f.seqs ++ zBk n (f.pos.getD i 0)).getD (f.seqs.length + k) zBZ = (zBk n (f.pos.getD i 0)).getD k zBZ := by
         simp only [List.getD]
         rw [List.getElem?_append_right (by omega), Nat.add_sub_cancel_left]
       rw [e]
       unfold zBk
       rw [zDY _ _ 0 _ _ (by simpa using hk)]
       simp [List.getD, hk]
   · rw [List.length_append, hnl] at h2
     by_cases hk : k < f.seqs.length
     · obtain ⟨x, x1, x2, x3⟩ := h.all k h1 hk
       exact ⟨x, List.mem_append_left _ x1, x2, x3⟩
     · refine ⟨(n.info, f.seqs.length), by simp, by show f.seqs.length ≤ k; omega, by show k < f.seqs.length + zd t p n.info; omega⟩
   · refine ⟨f.seqs.length, ?_⟩
     unfold zBL at hc ⊢
     rw [Option.map_eq_none_iff] at hc
     rw [List.find?_append, hc.2]
     simp
 · have eg : g = f := by
     show zAI p n i f = _
     unfold zAI; rw [if_neg hc]
   rw [eg]
   have hold : own p n = true → ∃ s, zBL f.first n.info = some s := by
     intro ho
     cases e : zBL f.first n.info with
     | none => exact absurd ⟨ho, e⟩ hc
     | some s => exact ⟨s, rfl⟩
   refine ⟨h0, h0l, rfl, Nat.le_refl _, fun x => ?_, h.nd, h.sl, h.fst, h.all, hold⟩
   rw [hkey, h.keys x]
   constructor
   · exact .inl
   · rintro (q | q)
     · exact q
     · unfold zA4 at q
       rw [Bool.and_eq_true, decide_eq_true_eq] at q
       obtain ⟨s, hs⟩ := hold q.1
       refine (h.keys x).1 ?_
       rw [← q.2]
       exact List.mem_map.2 ⟨_, zCK hs, rfl⟩
theorem RI.step {t : zT} (hv : Valid t) {p : Int} {i : Nat} {f : RForm} (h : RI t p i f) (hi : i < t.length) : RI t p (i + 1) (zIk p (t.getD i node0) i f) := by
 obtain ⟨a1, a2, a3, a4, a5, a6, a7, a8, a9, a10⟩ := RI.add hv h hi h h.s0.1
 generalize hn : t.getD i node0 = n at *
 generalize hg : zAI p n i f = g at *
 have est : zIk p n i f = ⟨g.seqs, zDQ (zGu p n i g) n.next 0 g.pos, g.first⟩ := by unfold zIk; rw [hg]
 rw [est]
 refine ⟨⟨a1, a2⟩, by rw [zIm, a3]; exact h.pl, zIU _ _ _ (fun x hx => ?_) (fun j h1 h2 => ?_), a5, a6, a7, a8, a9⟩
 · rw [a3] at hx
   have := h.pb x hx
   show 0 ≤ x ∧ x < ((g.seqs.length : Nat) : Int)
   omega
 · show 0 ≤ zGu p n i g j ∧ zGu p n i g j < ((g.seqs.length : Nat) : Int)
   unfold zGu
   split
   · rename_i ho
     obtain ⟨s, hs⟩ := a10 ho
     obtain ⟨b1, b2, _⟩ := a8 _ (zCK hs)
     have hw : zd t p n.info = n.next.length := by
       rw [← hn]
       refine zDc hv hi ?_
       unfold zA4
       rw [hn, ho]; simp
     rw [hs]
     simp only [Option.getD_some] at *
     omega
   · rw [a3]
     have := h.pb (f.pos.getD i 0) (zAj 0 (by rw [h.pl]; exact hi))
     omega
theorem RI.all_n {t : zT} (hv : Valid t) (p : Int) : ∀ i, i ≤ t.length → RI t p i (zAE t p i)
 | 0, _ => RI.init t p
 | i + 1, hi => (RI.all_n hv p i (by omega)).step hv (by omega)
def ze (t : zT) (p : Int) : List RSeq := (zAE t p t.length).seqs
theorem zBp {t : zT} (hv : Valid t) {p x : Int} : x ∈ zf t p ↔ ∃ j, j < t.length ∧ zA4 p x (t.getD j node0) = true := by
 unfold zf
 rw [List.mem_filter, List.any_eq_true]
 constructor
 · rintro ⟨_, y, hy, h2⟩
   obtain ⟨j, hj, rfl⟩ := List.getElem_of_mem hy
   exact ⟨j, hj, by rw [zAk node0 hj]; exact h2⟩
 · rintro ⟨j, hj, h2⟩
   refine ⟨?_, t.getD j node0, zAj node0 hj, h2⟩
   unfold zA4 at h2
   rw [Bool.and_eq_true, decide_eq_true_eq] at h2
   have hm := hv.mine hj h2.1
   rw [h2.2] at hm
   refine List.mem_map.2 ⟨x.toNat, List.mem_range.2 (by omega), by omega⟩
theorem zGC (t : zT) (p : Int) : (zf t p).Nodup := by
 unfold zf
 refine List.Nodup.sublist List.filter_sublist ?_
 rw [List.nodup_iff_pairwise_ne, List.pairwise_map]
 exact (List.nodup_iff_pairwise_ne.1 List.nodup_range).imp (fun h => by omega)
/-- RecallNumbers: how the sequences are numbered. -/
theorem zAm {t : zT} (hv : Valid t) (p : Int) :
   (ze t p).length = 1 + ((zf t p).map (zd t p)).sum ∧ (ze t p).getD 0 zBZ = zBZ ∧ 0 < (ze t p).length ∧
   ∀ k, k + 1 < (ze t p).length → ((ze t p).getD (k + 1) zBZ).info ∈ zf t p ∧ 0 ≤ ((ze t p).getD (k + 1) zBZ).before ∧ ((ze t p).getD (k + 1) zBZ).before ≤ k ∧
     (0 < ((ze t p).getD (k + 1) zBZ).choice → (ze t p).getD k zBZ = ⟨((ze t p).getD (k + 1) zBZ).info, ((ze t p).getD (k + 1) zBZ).choice - 1, ((ze t p).getD (k + 1) zBZ).before⟩) := by
 have h := RI.all_n hv p t.length (Nat.le_refl _)
 have hperm : ((zAE t p t.length).first.map Prod.fst).Perm (zf t p) :=
   (List.perm_ext_iff_of_nodup h.nd (zGC t p)).2 (fun x => by rw [h.keys x, zBp hv])
 refine ⟨?_, h.s0.1, h.s0.2, fun k hk => ?_⟩
 · show (zAE t p t.length).seqs.length = _
   rw [h.sl, ← (hperm.map (zd t p)).sum_nat, List.map_map]
   rfl
 · obtain ⟨x, x1, x2, x3⟩ := h.all (k + 1) (by omega) hk
   obtain ⟨y1, y2, b, b1, b2, b3⟩ := h.fst x x1
   have e1 := b3 (k + 1 - x.2) (by omega)
   rw [show x.2 + (k + 1 - x.2) = k + 1 by omega] at e1
   have e1' : (ze t p).getD (k + 1) zBZ = ⟨x.1, ((k + 1 - x.2 : Nat) : Int), b⟩ := e1
   rw [e1']
   refine ⟨hperm.mem_iff.1 (List.mem_map.2 ⟨x, x1, rfl⟩), b1, by show b ≤ (k : Int); omega, fun hc => ?_⟩
   have hc : (0 : Int) < ((k + 1 - x.2 : Nat) : Int) := hc
   have e2 := b3 (k - x.2) (by omega)
   rw [show x.2 + (k - x.2) = k by omega] at e2
   have e2' : (ze t p).getD k zBZ = ⟨x.1, ((k - x.2 : Nat) : Int), b⟩ := e2
   rw [e2']
   show (⟨x.1, _, b⟩ : RSeq) = ⟨x.1, ((k + 1 - x.2 : Nat) : Int) - 1, b⟩
   congr 1
   omega
end Go.Ax.Rt
namespace Go.Ax.Rt
open Go.Ax.Bg
/-- What is left of a number that may be negative. -/
def posQ (q : Rat) : Rat := if q.num < 0 then 0 else q
def zAy : Rat → List Rat → Rat
 | acc, [] => acc
 | acc, q :: r => zAy (acc + q) r
def matchQ (x : List Rat) : List Rat :=
 if zAy 0 (x.map posQ) = 0 then (x.map posQ).map (fun _ => Rat.divInt 1 x.length) else (x.map posQ).map (fun q => q / zAy 0 (x.map posQ))
/-- regret.Match -/
def matchR (v : List zAK) : List zAK × Int :=
 if v = [] then ([], 8) else if 12 < v.length then ([], 2) else if zIp v ≠ 0 then ([], zIp v) else zBC (matchQ (v.map zAU))
theorem zOr : ∀ (qs : List Rat) (acc : Rat), (∀ q ∈ qs, 0 ≤ q) → acc ≤ zAy acc qs
 | [], acc, _ => Rat.le_refl
 | q :: r, acc, h => by
   rw [zAy]
   refine Rat.le_trans ?_ (zOr r _ (fun x hx => h x (by simp [hx])))
   have := (Rat.add_le_add_left (c := acc)).2 (h q (by simp))
   rwa [Rat.add_zero] at this
structure Matched (v p : List zAK) : Prop where
 res : matchR v = (p, 0)
 len : p.length = v.length
 odds : zDn p = 0
 zero : (∃ s ∈ v, 0 < zAU s) → ∀ i, i < v.length → (p.getD i [] ≠ [48] ↔ 0 < zAU (v.getD i []))
 good : ∀ s ∈ v, zCX s = 0
end Go.Ax.Rt
namespace Go.Ax.Rt
open Go.Ax.Bg
abbrev zCG := List (Int × Int)
/-- matgame.Check -/
def gameE (m : List (List zAK)) : Int := if 12 < m.length then 2 else if zHi m ≠ 0 then zHi m else if zDs m = 0 then 8 else if 12 < zDs m then 2 else 0
def outside (m : List (List zAK)) (x : Int × Int) : Bool := decide (x.1 < 0) || (decide ((m.length : Int) ≤ x.1) || (decide (x.2 < 0) || decide ((zDs m : Int) ≤ x.2)))
/-- regret.Check -/
def zKp (m : List (List zAK)) (l : zCG) : Int := if gameE m ≠ 0 then gameE m else if 200 < l.length then 2 else if l.any (outside m) = true then 4 else 0
/-- How often a row, a column was played. -/
def cnt (f : Int × Int → Int) (l : zCG) (i : Nat) : Nat := (l.filter (fun x => decide (f x = (i : Int)))).length
def cntQ (f : Int × Int → Int) (l : zCG) (n : Nat) : List Rat := (List.range n).map (fun i => ((cnt f l i : Nat) : Rat))
def rowsS (m : List (List Rat)) (l : zCG) (w : Nat) : List Rat := m.map (fun r => dotQ r (cntQ Prod.snd l w))
def colsS (m : List (List Rat)) (l : zCG) (w : Nat) : List Rat := (colsQ m w).map (fun c => dotQ c (cntQ Prod.fst l m.length))
def elQ (m : List (List Rat)) (x : Int × Int) : Rat := (m.getD x.1.toNat []).getD x.2.toNat 0
def gotQ (m : List (List Rat)) (l : zCG) : Rat := zAy 0 (l.map (elQ m))
def regA (m : List (List Rat)) (l : zCG) (w : Nat) : List Rat := (rowsS m l w).map (fun q => q - gotQ m l)
def regB (m : List (List Rat)) (l : zCG) (w : Nat) : List Rat := (colsS m l w).map (fun q => gotQ m l - q)
def bothR (a b : List Rat) : (List zAK × List zAK) × Int := if (zBC a).2 ≠ 0 then (([], []), 2) else if (zBC b).2 ≠ 0 then (([], []), 2) else ((a.map zAO, b.map zAO), 0)
/-- regret.Regrets -/
def regretsR (m : List (List zAK)) (l : zCG) : (List zAK × List zAK) × Int := if zKp m l ≠ 0 then (([], []), zKp m l) else bothR (regA (inM m) l (zDs m)) (regB (inM m) l (zDs m))
/-- The first greatest number, or the first least one. -/
def zKP (sg : Int) (x : List Rat) : Nat → Nat
 | 0 => 0
 | k + 1 => if 0 < zGr (x.getD k 0) (x.getD (zKP sg x k) 0) * sg then k else zKP sg x k
def lowQ (m : List (List Rat)) (l : zCG) (w : Nat) : Rat := (colsS m l w).getD (zKP (-1) (colsS m l w) w) 0
def highQ (m : List (List Rat)) (l : zCG) (w : Nat) : Rat := (rowsS m l w).getD (zKP 1 (rowsS m l w) m.length) 0
/-- regret.Bounds -/
def boundsR (m : List (List zAK)) (l : zCG) : (zAK × zAK) × Int :=
 if zKp m l ≠ 0 then (([], []), zKp m l) else if l = [] then (([], []), 8)
 else if zCT (lowQ (inM m) l (zDs m) / (l.length : Nat)) && zCT (highQ (inM m) l (zDs m) / (l.length : Nat)) then ((zAO (lowQ (inM m) l (zDs m) / (l.length : Nat)), zAO (highQ (inM m) l (zDs m) / (l.length : Nat))), 0) else (([], []), 2)
/-- The law. -/
structure Zero (m : List (List zAK)) (l : zCG) (a b : List zAK) (lo hi : zAK) : Prop where
 reg : regretsR m l = ((a, b), 0)
 bnd : boundsR m l = ((lo, hi), 0)
 ga : ∀ s ∈ a, zCX s = 0
 gb : ∀ s ∈ b, zCX s = 0
 la : a.length = m.length
 lb : b.length = zDs m
 best : ∃ i k s q, zCx a = (((i : Nat) : Int), 0) ∧ zCx b = (((k : Nat) : Int), 0) ∧ i < a.length ∧ k < b.length ∧ twoR (fun x y => x + y) (a.getD i []) (b.getD k []) = (s, 0) ∧ divR s (zAO ((l.length : Nat) : Rat)) = (q, 0) ∧ twoR (fun x y => x - y) hi lo = (q, 0)
/-- One round more. -/
structure PlaySt where
 rows : List Rat
 cols : List Rat
 out : List (Nat × Nat)
def playStep (m : List (List Rat)) (s : PlaySt) : PlaySt :=
 let i := zKP 1 s.rows s.rows.length
 let k := zKP (-1) s.cols s.cols.length
 ⟨(List.range s.rows.length).map (fun j => s.rows.getD j 0 + (m.getD j []).getD k 0), (List.range s.cols.length).map (fun j => s.cols.getD j 0 + (m.getD i []).getD j 0), s.out ++ [(i, k)]⟩
def playN (m : List (List Rat)) (w : Nat) : Nat → PlaySt
 | 0 => ⟨List.replicate m.length 0, List.replicate w 0, []⟩
 | n + 1 => playStep m (playN m w n)
def histOf (l : List (Nat × Nat)) : zCG := l.map (fun x => ((x.1 : Int), (x.2 : Int)))
/-- regret.Play -/
def playR (m : List (List zAK)) (n : Int) : zCG × Int := if gameE m ≠ 0 then ([], gameE m) else if n < 0 ∨ 200 < n then ([], 4) else (histOf (playN (inM m) (zDs m) n.toNat).out, 0)
end Go.Ax.Rt
namespace Go.Ax.Rt
open Go.Ax.Bg
theorem zHx (q : Rat) : ∀ (l : List Rat) (acc : Rat), zAy acc (l ++ [q]) = zAy acc l + q
 | [], acc => rfl
 | a :: r, acc => by rw [List.cons_append, zAy, zAy, zHx q r]
theorem sumQ_Dk {k : Nat} {l : List Rat} (h : ∀ q ∈ l, D k q) : ∀ {acc : Rat} {j : Nat}, D j acc → D (j + l.length * (k + 1)) (zAy acc l) := by
 induction l with
 | nil => intro acc j ha; rw [List.length_nil, Nat.zero_mul]; exact ha
 | cons a r ih =>
   intro acc j ha
   rw [zAy, List.length_cons, Nat.add_mul]
   exact (ih (fun q hq => h q (by simp [hq])) (ha.add (h a (by simp)))).mono (by omega)
/-- The first k elements are changed. -/
def zFb {α : Type} (f : α → α) (x : List α) (k : Nat) : List α := (x.take k).map f ++ x.drop k
theorem zJV {α : Type} (f : α → α) (x : List α) (k : Nat) : (zFb f x k).length = x.length := by
 simp [zFb]; omega
theorem zJO {α : Type} (f : α → α) (x : List α) (d : α) {k : Nat} (hk : k < x.length) : (zFb f x k).getD k d = x.getD k d := by
 have h : ((x.take k).map f).length = k := by simp; omega
 unfold zFb
 simp only [List.getD]
 rw [List.getElem?_append_right (by omega), h, Nat.sub_self, List.getElem?_drop, Nat.add_zero]
/-- The counters, as integers. -/
def cntI (f : Int × Int → Int) (l : zCG) (n : Nat) : List Int := (List.range n).map (fun i => ((cnt f l i : Nat) : Int))
/-- The first k elements have something added. -/
def updL (g : Nat → Rat) (x : List Rat) (k : Nat) : List Rat := (List.range x.length).map (fun j => if j < k then x.getD j 0 + g j else x.getD j 0)
end Go.Ax.Rt
namespace Go.Ax.Rt
open Go.Ax.Bg
theorem zIA : ∀ (m : Nat) (l : List Rat), m ≤ l.length → zA6 (fun c => l.getD c 0) m = zAy 0 (l.take m)
 | 0, l, _ => rfl
 | m + 1, l, h => by
   rw [zA6, zIA m l (by omega), List.take_succ_eq_append_getElem (by omega), zHx, zAk 0 (by omega)]
def zDd (o : Int → List Rat) (s : RSeq) (P : List Rat) : Rat := if s.before < 0 then 1 else P.getD s.before.toNat 0 * (o s.info).getD s.choice.toNat 0
def zEB (l : List RSeq) (o : Int → List Rat) : Nat → List Rat
 | 0 => []
 | k + 1 => zEB l o k ++ [zDd o (l.getD k zBZ) (zEB l o k)]
theorem zH9 (l : List RSeq) (o : Int → List Rat) : ∀ k, (zEB l o k).length = k
 | 0 => rfl
 | k + 1 => by rw [zEB, List.length_append, zH9 l o k]; rfl
theorem zDJ (l : List RSeq) (o : Int → List Rat) {j : Nat} : ∀ {k : Nat}, j < k → (zEB l o k).getD j 0 = zDd o (l.getD j zBZ) (zEB l o j)
 | 0, h => absurd h (Nat.not_lt_zero _)
 | k + 1, h => by
   rw [zEB]
   by_cases e : j = k
   · subst e
     have : (zEB l o j ++ [zDd o (l.getD j zBZ) (zEB l o j)]).getD j 0 = zDd o (l.getD j zBZ) (zEB l o j) := by
       have h2 := get_end (l := zEB l o j) (x := zDd o (l.getD j zBZ) (zEB l o j)) (d := 0)
       rwa [zH9] at h2
     exact this
   · rw [zFT 0 (by rw [zH9]; omega)]
     exact zDJ l o (by omega)
theorem zG8 (l : List RSeq) (o : Int → List Rat) {j k n : Nat} (h1 : j < k) (h2 : j < n) : (zEB l o k).getD j 0 = (zEB l o n).getD j 0 := by
 rw [zDJ l o h1, zDJ l o h2]
theorem zOS {m : List (Int × Nat)} (h : (m.map Prod.fst).Nodup) {x y : Int × Nat} (hx : x ∈ m) (hy : y ∈ m) (e : x.1 = y.1) : x = y := by
 obtain ⟨i, hi, rfl⟩ := List.getElem_of_mem hx
 obtain ⟨j, hj, rfl⟩ := List.getElem_of_mem hy
 have hp := List.pairwise_iff_getElem.1 h
 rcases Nat.lt_trichotomy i j with q | q | q
 · exact absurd (by rw [List.getElem_map, List.getElem_map]; exact e) (hp i j (by simpa using hi) (by simpa using hj) q)
 · subst q; rfl
 · exact absurd (by rw [List.getElem_map, List.getElem_map]; exact e.symm) (hp j i (by simpa using hj) (by simpa using hi) q)
theorem zMM {t : zT} (hv : Valid t) (p : Int) : (ze t p).length ≤ 61 := by
 have h := (zAm hv p).1
 rw [h]
 have h1 : (zf t p).length ≤ 10 := by
   unfold zf
   refine Nat.le_trans (List.length_filter_le _ _) (by simp)
 have h2 : ∀ x ∈ zf t p, zd t p x ≤ 6 := by
   intro x hx
   obtain ⟨j, hj, hs⟩ := (zBp hv).1 hx
   rw [zDc hv hj hs]
   exact hv.few hj
 have key : ∀ l : List Int, (∀ x ∈ l, zd t p x ≤ 6) → (l.map (zd t p)).sum ≤ 6 * l.length := by
   intro l
   induction l with
   | nil => intro _; exact Nat.le_refl _
   | cons a r ih =>
     intro hl
     have h3 := hl a (by simp)
     have h4 := ih (fun x hx => hl x (by simp [hx]))
     simp only [List.map_cons, List.sum_cons, List.length_cons]
     omega
 have := key _ h2
 omega
/-- The probabilities that belong to a strategy. -/
structure Strat (t : zT) (p : Int) (o : Int → List Rat) (k : Nat) : Prop where
 len : ∀ x ∈ zf t p, (o x).length = zd t p x
 sum : ∀ x ∈ zf t p, zAy 0 (o x) = 1
 nn : ∀ x ∈ zf t p, ∀ q ∈ o x, 0 ≤ q
 dig : ∀ x ∈ zf t p, ∀ q ∈ o x, D k q
def zBh (t : zT) (p : Int) (o : Int → List Rat) : List Rat := zEB (ze t p) o (ze t p).length
/-- What stands at a sequence that is not the first one. -/
theorem seq_at {t : zT} (hv : Valid t) {p : Int} {k : Nat} (h1 : 1 ≤ k) (hk : k < (ze t p).length) : ∃ (x : Int × Nat) (b : Nat), x ∈ (zAE t p t.length).first ∧ x.1 ∈ zf t p ∧ x.2 ≤ k ∧ k < x.2 + zd t p x.1 ∧ b < x.2 ∧ 1 ≤ x.2 ∧ x.2 + zd t p x.1 ≤ (ze t p).length ∧
   ∀ c, c < zd t p x.1 → (ze t p).getD (x.2 + c) zBZ = ⟨x.1, (c : Int), (b : Int)⟩ := by
 have h := RI.all_n hv p t.length (Nat.le_refl _)
 obtain ⟨x, x1, x2, x3⟩ := h.all k h1 hk
 obtain ⟨y1, y2, b, b1, b2, b3⟩ := h.fst x x1
 obtain ⟨n, rfl⟩ := Int.eq_ofNat_of_zero_le b1
 exact ⟨x, n, x1, (zBp hv).2 ((h.keys x.1).1 (List.mem_map.2 ⟨x, x1, rfl⟩)), x2, x3, by omega, y1, y2, b3⟩
end Go.Ax.Rt
namespace Go.Ax.Rt
open Go.Ax.Bg
abbrev Way := List (Int × Int)
def zGi (v : Nat → Way) : List Int → Nat → List Way → List Way
 | [], _, a => a
 | c :: r, k, a => zGi v r (k + 1) (a.set c.toNat (v k))
theorem zIV (v : Nat → Way) : ∀ (l : List Int) (k : Nat) (a : List Way), (zGi v l k a).length = a.length
 | [], _, a => rfl
 | c :: r, k, a => by rw [zGi, zIV v r]; simp
def zH6 (p : Int) (n : TNode) (w : Way) (k : Nat) : Way := if own p n = true then w ++ [(n.info, (k : Int))] else w
def zBJ (t : zT) (p : Int) : Nat → List Way
 | 0 => List.replicate t.length []
 | i + 1 => zGi (zH6 p (t.getD i node0) ((zBJ t p i).getD i [])) (t.getD i node0).next 0 (zBJ t p i)
theorem zE8 (t : zT) (p : Int) : ∀ i, (zBJ t p i).length = t.length
 | 0 => List.length_replicate
 | i + 1 => by rw [zBJ, zIV, zE8 t p i]
def zAv (t : zT) (p : Int) : Nat → List (Int × Nat)
 | 0 => []
 | i + 1 => if own p (t.getD i node0) = true ∧ zBL (zAv t p i) (t.getD i node0).info = none then zAv t p i ++ [((t.getD i node0).info, i)] else zAv t p i
def zEc (t : zT) (p : Int) (W : List Way) : Nat → Bool
 | 0 => true
 | i + 1 => zEc t p W i && (if own p (t.getD i node0) = true then (match zBL (zAv t p i) (t.getD i node0).info with | none => true | some k => decide (W.getD i [] = W.getD k [])) else true)
def zBb (t : zT) (p : Int) : Bool := zEc t p (zBJ t p t.length) t.length
theorem zEk {t : zT} {p : Int} : ∀ {i : Nat} {x : Int × Nat}, x ∈ zAv t p i → x.2 < i ∧ own p (t.getD x.2 node0) = true ∧ (t.getD x.2 node0).info = x.1
 | 0, x, h => by simp [zAv] at h
 | i + 1, x, h => by
   rw [zAv] at h
   split at h
   · rename_i hc
     rcases List.mem_append.1 h with q | q
     · obtain ⟨h1, h2⟩ := zEk q
       exact ⟨by omega, h2⟩
     · have : x = ((t.getD i node0).info, i) := by simpa using q
       subst this
       exact ⟨Nat.lt_succ_self _, hc.1, rfl⟩
   · obtain ⟨h1, h2⟩ := zEk h
     exact ⟨by omega, h2⟩
/-- RecallAlone: with at most one node in each set. -/
theorem alone {t : zT} {p : Int} (h : ∀ i j, i < j → j < t.length → own p (t.getD i node0) = true → own p (t.getD j node0) = true → (t.getD i node0).info ≠ (t.getD j node0).info) : zBb t p = true := by
 unfold zBb
 have key : ∀ (W : List Way) (i : Nat), i ≤ t.length → zEc t p W i = true := by
   intro W i
   induction i with
   | zero => intro _; rfl
   | succ i ih =>
     intro hi
     rw [zEc, ih (by omega), Bool.true_and]
     split
     · rename_i ho
       cases e : zBL (zAv t p i) (t.getD i node0).info with
       | none => rfl
       | some k =>
         obtain ⟨h1, h2, h3⟩ := zEk (zCK e)
         exact absurd h3 (h k i h1 (by omega) h2 ho)
     · rfl
 exact key _ _ (Nat.le_refl _)
end Go.Ax.Rt
namespace Go.Ax.Rt
open Go.Ax.Bg
/-- The probabilities of the children of a node: none where a node has no own ones. -/
abbrev z8 := Nat → Option (List Rat)
def setQ (v : Nat → Rat) : List Int → Nat → List Rat → List Rat
 | [], _, a => a
 | c :: r, k, a => setQ v r (k + 1) (a.set c.toNat (v k))
theorem zMY (v : Nat → Rat) : ∀ (l : List Int) (k : Nat) (a : List Rat), (setQ v l k a).length = a.length
 | [], _, a => rfl
 | c :: r, k, a => by rw [setQ, zMY v r]; simp
def zLS (o : Option (List Rat)) (q : Rat) (k : Nat) : Rat := match o with | none => q | some l => q * l.getD k 0
def zBl (t : zT) (o : z8) : Nat → List Rat
 | 0 => (List.replicate t.length 0).set 0 1
 | i + 1 => setQ (zLS (o i) ((zBl t o i).getD i 0)) (t.getD i node0).next 0 (zBl t o i)
def zY (t : zT) (o : z8) : List Rat := zBl t o t.length
theorem zCd (t : zT) (o : z8) : ∀ i, (zBl t o i).length = t.length
 | 0 => by simp [zBl]
 | i + 1 => by rw [zBl, zMY, zCd t o i]
theorem zFQ (v : Nat → Rat) {j : Nat} : ∀ (l : List Int) (k : Nat) (a : List Rat), (∀ c ∈ l, c.toNat ≠ j) → (setQ v l k a).getD j 0 = a.getD j 0
 | [], _, a, _ => rfl
 | c :: r, k, a, h => by
   rw [setQ, zFQ v r (k + 1) _ (fun c hc => h c (by simp [hc])), Go.Ax.Dt.getD_set, if_neg]
   exact fun q => h c (by simp) q.1.symm
theorem zOb (v : Nat → Rat) : ∀ (l : List Int) (k : Nat) (a : List Rat) (m : Nat), m < l.length → (l.map Int.toNat).Nodup → (∀ c ∈ l, c.toNat < a.length) → (setQ v l k a).getD (l.getD m 0).toNat 0 = v (k + m)
 | [], _, a, m, h, _, _ => absurd h (Nat.not_lt_zero _)
 | c :: r, k, a, m, h, hn, hl => by
   rw [List.map_cons, List.nodup_cons] at hn
   rw [setQ]
   cases m with
   | zero =>
     have : (c :: r).getD 0 0 = c := rfl
     rw [this, zFQ, Go.Ax.Dt.getD_set, if_pos ⟨rfl, hl c (by simp)⟩, Nat.add_zero]
     intro x hx e
     exact hn.1 (List.mem_map.2 ⟨x, hx, e⟩)
   | succ m =>
     have : (c :: r).getD (m + 1) 0 = r.getD m 0 := rfl
     rw [this, zOb v r (k + 1) _ m (by simpa using h) hn.2 (fun x hx => by rw [List.length_set]; exact hl x (by simp [hx]))]
     congr 1; omega
/-- Who names whom. -/
def kid (t : zT) (i : Nat) (c : Nat) : Prop := (c : Int) ∈ (t.getD i node0).next
theorem zJv (l : List Int) (k : Int) : (l.filter (fun x => decide (x = k))).length = l.count k := by
 rw [List.count_eq_length_filter]
 congr 1
theorem zKr (t : zT) (k : Nat) : named t k = (t.map (fun n => n.next.count (k : Int))).sum := by
 unfold named
 rw [zJv]
 induction t with
 | nil => rfl
 | cons n r ih => rw [List.flatMap_cons, List.count_append, List.map_cons, List.sum_cons, ih]
theorem sum_one {l : List Nat} (h : l.sum = 1) {i j : Nat} (hi : i < l.length) (hj : j < l.length) (hij : i ≠ j) (h1 : 1 ≤ l[i]) (h2 : 1 ≤ l[j]) : False := by
 induction l generalizing i j with
 | nil => simp at hi
 | cons a r ih =>
   have mem_le : ∀ (r : List Nat) (k : Nat) (hk : k < r.length), r[k] ≤ r.sum := by
     intro r
     induction r with
     | nil => intro k hk; simp at hk
     | cons b q ihq =>
       intro k hk
       cases k with
       | zero => simp
       | succ k =>
         have := ihq k (by simpa using hk)
         simp only [List.getElem_cons_succ, List.sum_cons]
         omega
   rw [List.sum_cons] at h
   cases i with
   | zero =>
     cases j with
     | zero => exact hij rfl
     | succ j =>
       have := mem_le r j (by simpa using hj)
       simp only [List.getElem_cons_zero, List.getElem_cons_succ] at h1 h2
       omega
   | succ i =>
     cases j with
     | zero =>
       have := mem_le r i (by simpa using hi)
       simp only [List.getElem_cons_zero, List.getElem_cons_succ] at h1 h2
       omega
     | succ j =>
       simp only [List.getElem_cons_succ] at h1 h2
       have := mem_le r i (by simpa using hi)
       refine ih (by omega) (by simpa using hi) (by simpa using hj) (by omega) h1 h2
/-- Each node but the first has one parent, and is named once there. -/
theorem Valid.parent {t : zT} (h : Valid t) {c i j : Nat} (hc : c < t.length) (h0 : c ≠ 0) (hi : i < t.length) (hj : j < t.length) (k1 : kid t i c) (k2 : kid t j c) : i = j := by
 have hn := h.once c hc h0
 rw [zKr] at hn
 apply Classical.byContradiction
 intro hij
 refine sum_one hn (i := i) (j := j) (by simpa using hi) (by simpa using hj) hij ?_ ?_
 · rw [List.getElem_map, ← zAk node0 hi]
   exact List.count_pos_iff.2 k1
 · rw [List.getElem_map, ← zAk node0 hj]
   exact List.count_pos_iff.2 k2
theorem Valid.has {t : zT} (h : Valid t) {c : Nat} (hc : c < t.length) (h0 : c ≠ 0) : ∃ i, i < t.length ∧ kid t i c := by
 have hn := h.once c hc h0
 unfold named at hn
 have hne : (t.flatMap TNode.next).filter (fun x => decide (x = (c : Int))) ≠ [] := by intro e; rw [e] at hn; cases hn
 obtain ⟨x, hx⟩ := List.exists_mem_of_ne_nil _ hne
 obtain ⟨h1, h2⟩ := List.mem_filter.1 hx
 obtain ⟨n, hn1, hn2⟩ := List.mem_flatMap.1 h1
 obtain ⟨i, hi, rfl⟩ := List.getElem_of_mem hn1
 refine ⟨i, hi, ?_⟩
 unfold kid
 rw [zAk node0 hi]
 have : x = (c : Int) := by simpa using h2
 rw [← this]; exact hn2
theorem Valid.kid_lt {t : zT} (h : Valid t) {c i : Nat} (hi : i < t.length) (k : kid t i c) : i < c ∧ c < t.length := by
 have := h.behind hi _ k
 omega
theorem Valid.kids_nodup {t : zT} (h : Valid t) {i : Nat} (hi : i < t.length) : ((t.getD i node0).next.map Int.toNat).Nodup := by
 rw [List.nodup_iff_pairwise_ne, List.pairwise_map, List.pairwise_iff_getElem]
 intro a b ha hb hab e
 have ma := List.getElem_mem ha
 have mb := List.getElem_mem hb
 have b1 := h.behind hi _ ma
 have b2 := h.behind hi _ mb
 have e2 : (t.getD i node0).next[a] = (t.getD i node0).next[b] := by omega
 obtain ⟨c, hc⟩ := Int.eq_ofNat_of_zero_le (show 0 ≤ (t.getD i node0).next[a] by omega)
 have hn := h.once c (by omega) (by omega)
 rw [zKr] at hn
 have h2 : 2 ≤ (t.getD i node0).next.count (c : Int) := by
   have hs : [(c : Int), (c : Int)].Sublist (t.getD i node0).next := by
     have h3 : (t.getD i node0).next = (t.getD i node0).next.take b ++ (t.getD i node0).next.drop b := (List.take_append_drop b _).symm
     rw [h3]
     have h4 : (c : Int) ∈ (t.getD i node0).next.take b := by
       rw [List.mem_take_iff_getElem]
       exact ⟨a, by omega, hc⟩
     have h5 : (c : Int) ∈ (t.getD i node0).next.drop b := by
       rw [List.mem_drop_iff_getElem]
       exact ⟨0, by simpa using hb, by simp only [Nat.add_zero]; rw [← e2]; exact hc⟩
     have := List.Sublist.append (List.singleton_sublist.2 h4) (List.singleton_sublist.2 h5)
     simpa using this
   have := hs.count_le (c : Int)
   simpa using this
 have h6 : (t.map (fun n => n.next.count (c : Int)))[i]'(by simpa using hi) ≤ (t.map (fun n => n.next.count (c : Int))).sum := by
   have mem_le : ∀ (r : List Nat) (k : Nat) (hk : k < r.length), r[k] ≤ r.sum := by
     intro r
     induction r with
     | nil => intro k hk; simp at hk
     | cons b q ihq =>
       intro k hk
       cases k with
       | zero => simp
       | succ k =>
         have := ihq k (by simpa using hk)
         simp only [List.getElem_cons_succ, List.sum_cons]
         omega
   exact mem_le _ _ _
 rw [List.getElem_map, ← zAk node0 hi] at h6
 omega
/-- What does not change any more. -/
theorem zHD {t : zT} (h : Valid t) (o : z8) {j : Nat} (hj : j < t.length) : ∀ d i, j ≤ i → i + d ≤ t.length → (zBl t o (i + d)).getD j 0 = (zBl t o i).getD j 0
 | 0, i, _, _ => rfl
 | d + 1, i, h1, h2 => by
   rw [← Nat.add_assoc, zBl, zFQ, zHD h o hj d i h1 (by omega)]
   intro c hc e
   have := h.behind (show i + d < t.length by omega) c hc
   omega
theorem zDF {t : zT} (h : Valid t) (o : z8) : (zY t o).getD 0 0 = 1 := by
 have hn := h.ne
 have := zHD h o (j := 0) (by omega) t.length 0 (Nat.le_refl _) (by omega)
 rw [Nat.zero_add] at this
 unfold zY
 rw [this, zBl, Go.Ax.Dt.getD_set, if_pos ⟨rfl, by simp; omega⟩]
/-- Each child's probability is that of its parent, times that of the choice. -/
theorem zD3 {t : zT} (h : Valid t) (o : z8) {i m : Nat} (hi : i < t.length) (hm : m < (t.getD i node0).next.length) : (zY t o).getD ((t.getD i node0).next.getD m 0).toNat 0 = zLS (o i) ((zY t o).getD i 0) m := by
 have hb := h.behind hi _ (zAj 0 hm)
 have hc : ((t.getD i node0).next.getD m 0).toNat < t.length := by omega
 have h1 : (zBl t o (i + 1)).getD ((t.getD i node0).next.getD m 0).toNat 0 = zLS (o i) ((zBl t o i).getD i 0) m := by
   rw [zBl, zOb _ _ _ _ m hm (h.kids_nodup hi) (fun c hc => by rw [zCd]; have := h.behind hi c hc; omega), Nat.zero_add]
 have h2 := zHD h o (j := i) hi (t.length - i) i (Nat.le_refl _) (by omega)
 rw [show i + (t.length - i) = t.length by omega] at h2
 -- the child is not touched again
 have key : ∀ d, i + 1 + d ≤ t.length → (zBl t o (i + 1 + d)).getD ((t.getD i node0).next.getD m 0).toNat 0 = (zBl t o (i + 1)).getD ((t.getD i node0).next.getD m 0).toNat 0 := by
   intro d
   induction d with
   | zero => intro _; rfl
   | succ d ih =>
     intro hd
     rw [← Nat.add_assoc, zBl, zFQ, ih (by omega)]
     intro c hc2 e
     have hc3 := h.behind (show i + 1 + d < t.length by omega) c hc2
     have k1 : kid t i ((t.getD i node0).next.getD m 0).toNat := by
       unfold kid
       rw [show ((((t.getD i node0).next.getD m 0).toNat : Nat) : Int) = (t.getD i node0).next.getD m 0 by omega]
       exact zAj 0 hm
     have k2 : kid t (i + 1 + d) ((t.getD i node0).next.getD m 0).toNat := by
       unfold kid
       rw [← e, show ((c.toNat : Nat) : Int) = c by omega]
       exact hc2
     have := h.parent hc (by omega) hi (by omega) k1 k2
     omega
 have h3 := key (t.length - (i + 1)) (by omega)
 rw [show i + 1 + (t.length - (i + 1)) = t.length by omega] at h3
 unfold zY
 rw [h3, h1, h2]
end Go.Ax.Rt
namespace Go.Ax.Rt
open Go.Ax.Bg
theorem zD0 {f : Nat → Rat} {a : Nat} : ∀ {n : Nat}, a < n → zA6 (fun j => if j = a then f j else 0) n = f a
 | 0, h => absurd h (Nat.not_lt_zero _)
 | n + 1, h => by
   rw [zA6]
   by_cases e : n = a
   · subst e
     have : zA6 (fun j => if j = n then f j else 0) n = 0 := by
       rw [zBM (g := fun _ => 0) (fun i hi => by rw [if_neg (by omega)]), zGb]
     rw [this, if_pos rfl, Rat.zero_add]
   · rw [zD0 (n := n) (by omega), if_neg e, Rat.add_zero]
theorem zCI : ∀ (l : List Rat) (a : Rat), zAy a l = a + zAy 0 l
 | [], a => by rw [zAy, zAy, Rat.add_zero]
 | q :: r, a => by rw [zAy, zAy, zCI r (a + q), zCI r (0 + q), Rat.zero_add, Rat.add_assoc]
/-- A sum over some of the indices. -/
theorem zJg {f : Nat → Rat} {n : Nat} : ∀ (ks : List Nat), ks.Nodup → (∀ k ∈ ks, k < n) → zA6 (fun j => if j ∈ ks then f j else 0) n = zAy 0 (ks.map f)
 | [], _, _ => by
   rw [zBM (g := fun _ => 0) (fun i hi => by rw [if_neg (by simp)]), zGb]; rfl
 | a :: r, hn, hl => by
   rw [List.nodup_cons] at hn
   rw [List.map_cons, zAy, zCI, Rat.zero_add, ← zJg r hn.2 (fun k hk => hl k (by simp [hk])), ← zD0 (f := f) (hl a (by simp)), ← zF9]
   refine zBM (fun j hj => ?_)
   by_cases h1 : j = a
   · subst h1
     rw [if_pos (by simp), if_pos rfl, if_neg hn.1, Rat.add_zero]
   · by_cases h2 : j ∈ r
     · rw [if_pos (by simp [h2]), if_neg h1, if_pos h2, Rat.zero_add]
     · rw [if_neg (by simp [h1, h2]), if_neg h1, if_neg h2, Rat.zero_add]
/-- The probabilities at each node that is no end. -/
structure OddsOK (t : zT) (o : z8) (d : Nat) : Prop where
 at' : ∀ i, i < t.length → (t.getD i node0).kind ≠ 0 → ∃ l, o i = some l ∧ l.length = (t.getD i node0).next.length ∧ zAy 0 l = 1 ∧ ∀ q ∈ l, 0 ≤ q ∧ D d q
def zIM (t : zT) (i : Nat) : List Nat := (t.getD i node0).next.map Int.toNat
theorem zJI {t : zT} (h : Valid t) {i j : Nat} (hi : i < t.length) : j ∈ zIM t i ↔ kid t i j := by
 unfold zIM kid
 rw [List.mem_map]
 constructor
 · rintro ⟨x, hx, rfl⟩
   have := h.behind hi x hx
   rw [show ((x.toNat : Nat) : Int) = x by omega]; exact hx
 · intro hx; exact ⟨_, hx, Int.toNat_natCast j⟩
theorem zMk {t : zT} (h : Valid t) {i : Nat} (hi : i < t.length) (hk : (t.getD i node0).kind = 0) : zIM t i = [] := by
 rcases h.child hi with ⟨_, h2⟩ | ⟨h1, _⟩
 · unfold zIM; rw [h2]; rfl
 · rcases h1 with h1 | h1 <;> rw [hk] at h1 <;> exact absurd h1 (by decide)
/-- The children together are as probable as their parent. -/
theorem kids_sum {t : zT} (h : Valid t) {o : z8} {d : Nat} (ho : OddsOK t o d) {i : Nat} (hi : i < t.length) (hk : (t.getD i node0).kind ≠ 0) : zAy 0 ((zIM t i).map (fun j => (zY t o).getD j 0)) = (zY t o).getD i 0 := by
 obtain ⟨l, h1, h2, h3, h4⟩ := ho.at' i hi hk
 have e : (zIM t i).map (fun j => (zY t o).getD j 0) = l.map (fun q => (zY t o).getD i 0 * q) := by
   apply List.ext_getElem (by simp [zIM, h2])
   intro m hm1 hm2
   have hm : m < (t.getD i node0).next.length := by simpa [zIM] using hm1
   have := zD3 h o hi hm
   rw [h1] at this
   simp only [List.getElem_map]
   have e1 : (zIM t i)[m]'(by simpa [zIM] using hm) = ((t.getD i node0).next.getD m 0).toNat := by
     simp only [zIM, List.getElem_map]
     rw [zAk 0 hm]
   have hml : m < l.length := by rw [h2]; exact hm
   rw [e1, this]
   exact congrArg (fun x => (zY t o).getD i 0 * x) (zAk 0 hml)
 have key : ∀ (q : Rat) (l : List Rat) (a : Rat), zAy (q * a) (l.map (fun x => q * x)) = q * zAy a l := by
   intro q l
   induction l with
   | nil => intro a; rfl
   | cons x r ih => intro a; rw [List.map_cons, zAy, zAy, ← Rat.mul_add, ih]
 rw [e]
 have := key ((zY t o).getD i 0) l 0
 rw [Rat.mul_zero] at this
 rw [this, h3, Rat.mul_one]
def zEz (t : zT) (i j : Nat) : Prop := (j < i ∧ (t.getD j node0).kind = 0) ∨ (i ≤ j ∧ (j = 0 ∨ ∃ a, a < i ∧ kid t a j))
open Classical in
theorem zKk {t : zT} (h : Valid t) {o : z8} {d : Nat} (ho : OddsOK t o d) : ∀ i, i ≤ t.length → zA6 (fun j => if zEz t i j then (zY t o).getD j 0 else 0) t.length = 1
 | 0, _ => by
   have hn := h.ne
   rw [zBM (g := fun j => if j = 0 then (zY t o).getD j 0 else 0) (fun j hj => ?_), zD0 (by omega), zDF h]
   by_cases e : j = 0
   · rw [if_pos e, if_pos (.inr ⟨Nat.zero_le _, .inl e⟩)]
   · rw [if_neg e, if_neg]
     rintro (⟨q, _⟩ | ⟨_, q | ⟨a, q, _⟩⟩)
     · omega
     · exact e q
     · omega
 | i + 1, hi => by
   have ih := zKk h ho i (by omega)
   have hi' : i < t.length := by omega
   have hfi : zEz t i i := by
     right
     refine ⟨Nat.le_refl _, ?_⟩
     by_cases e : i = 0
     · exact .inl e
     · obtain ⟨a, ha, hk⟩ := h.has hi' e
       exact .inr ⟨a, (h.kid_lt ha hk).1, hk⟩
   have hkn : ∀ j, kid t i j → j < t.length → ¬ zEz t i j := by
     intro j hk hj
     have := h.kid_lt hi' hk
     rintro (⟨q, _⟩ | ⟨_, q | ⟨a, q, hk2⟩⟩)
     · omega
     · omega
     · have := h.parent hj (by omega) hi' (by omega) hk hk2
       omega
   have split1 : zA6 (fun j => if zEz t (i + 1) j then (zY t o).getD j 0 else 0) t.length
       = zA6 (fun j => (if zEz t i j then (zY t o).getD j 0 else 0) + ((if j ∈ zIM t i then (zY t o).getD j 0 else 0) + (if j = i then (if (t.getD i node0).kind = 0 then 0 else - (zY t o).getD i 0) else 0))) t.length := by
     refine zBM (fun j hj => ?_)
     have hmk := zJI h hi' (j := j)
     by_cases e : j = i
     · subst e
       have hnk : ¬ kid t j j := fun hk => by have := h.kid_lt hi' hk; omega
       rw [if_pos hfi, if_neg (fun q => hnk (hmk.1 q)), if_pos rfl, Rat.zero_add]
       by_cases hk : (t.getD j node0).kind = 0
       · rw [if_pos hk, if_pos (.inl ⟨Nat.lt_succ_self _, hk⟩), Rat.add_zero]
       · rw [if_neg hk, if_neg, Rat.add_neg_cancel]
         rintro (⟨_, q⟩ | ⟨q, _⟩)
         · exact hk q
         · omega
     · rw [if_neg e, Rat.add_zero]
       by_cases hk : kid t i j
       · rw [if_pos (hmk.2 hk), if_neg (hkn j hk hj), Rat.zero_add, if_pos]
         have := h.kid_lt hi' hk
         exact .inr ⟨by omega, .inr ⟨i, Nat.lt_succ_self _, hk⟩⟩
       · rw [if_neg (fun q => hk (hmk.1 q)), Rat.add_zero]
         have : zEz t (i + 1) j ↔ zEz t i j := by
           constructor
           · rintro (⟨q1, q2⟩ | ⟨q1, q2 | ⟨a, q2, q3⟩⟩)
             · exact .inl ⟨by omega, q2⟩
             · omega
             · by_cases ea : a = i
               · subst ea; exact absurd q3 hk
               · exact .inr ⟨by omega, .inr ⟨a, by omega, q3⟩⟩
           · rintro (⟨q1, q2⟩ | ⟨q1, q2 | ⟨a, q2, q3⟩⟩)
             · exact .inl ⟨by omega, q2⟩
             · subst q2
               have : i = 0 := by omega
               exact absurd this.symm e
             · exact .inr ⟨by omega, .inr ⟨a, by omega, q3⟩⟩
         by_cases hf : zEz t i j
         · rw [if_pos hf, if_pos (this.2 hf)]
         · rw [if_neg hf, if_neg (fun q => hf (this.1 q))]
   rw [split1, zF9, zF9, ih, zJg (zIM t i) (h.kids_nodup hi') (fun k hk => (h.kid_lt hi' ((zJI h hi').1 hk)).2)]
   have e2 : zA6 (fun j => if j = i then (if (t.getD i node0).kind = 0 then 0 else - (zY t o).getD i 0) else 0) t.length = (if (t.getD i node0).kind = 0 then 0 else - (zY t o).getD i 0) :=
     zD0 (f := fun _ => if (t.getD i node0).kind = 0 then 0 else - (zY t o).getD i 0) hi'
   rw [e2]
   by_cases hk : (t.getD i node0).kind = 0
   · rw [if_pos hk, zMk h hi' hk]
     show (1 : Rat) + (0 + 0) = 1
     rw [Rat.add_zero, Rat.add_zero]
   · rw [if_neg hk, kids_sum h ho hi' hk, Rat.add_neg_cancel, Rat.add_zero]
def z6 (t : zT) : List Nat := (List.range t.length).filter (fun i => decide ((t.getD i node0).kind = 0))
theorem ends_sum {t : zT} (h : Valid t) {o : z8} {d : Nat} (ho : OddsOK t o d) : zAy 0 ((z6 t).map (fun j => (zY t o).getD j 0)) = 1 := by
 classical
 have h1 := zKk h ho t.length (Nat.le_refl _)
 rw [← zJg (n := t.length) (z6 t) (List.Nodup.sublist List.filter_sublist List.nodup_range) (fun k hk => by
   have := (List.mem_filter.1 hk).1
   simpa using this), ← h1]
 refine zBM (fun j hj => ?_)
 have : j ∈ z6 t ↔ zEz t t.length j := by
   unfold z6 zEz
   rw [List.mem_filter, List.mem_range, decide_eq_true_eq]
   constructor
   · exact .inl
   · rintro (q | ⟨q, _⟩)
     · exact q
     · omega
 by_cases hf : j ∈ z6 t
 · rw [if_pos hf, if_pos (this.1 hf)]
 · rw [if_neg hf, if_neg (fun q => hf (this.2 q))]
end Go.Ax.Rt
namespace Go.Ax.Rt
open Go.Ax.Bg
theorem zJm : ∀ (N : Nat) (l : List Nat), l.Nodup → (∀ x ∈ l, x < N) → l.length ≤ N
 | 0, [], _, _ => Nat.le_refl _
 | 0, a :: r, _, h => absurd (h a (by simp)) (Nat.not_lt_zero _)
 | N + 1, l, hn, h => by
   by_cases hN : N ∈ l
   · have h1 := zJm N (l.erase N) (hn.erase N) (fun x hx => by
       have h2 := (hn.mem_erase_iff).1 hx
       have := h x h2.2
       omega)
     rw [List.length_erase_of_mem hN] at h1
     omega
   · have h1 := zJm N l hn (fun x hx => by
       have := h x hx
       have : x ≠ N := fun e => hN (e ▸ hx)
       omega)
     omega
theorem zJA {t : zT} (h : Valid t) : (t.flatMap TNode.next).length ≤ t.length := by
 have hb : ∀ x ∈ t.flatMap TNode.next, 0 < x ∧ x < t.length := by
   intro x hx
   obtain ⟨n, hn1, hn2⟩ := List.mem_flatMap.1 hx
   obtain ⟨i, hi, rfl⟩ := List.getElem_of_mem hn1
   have := h.behind hi x (by rw [zAk node0 hi]; exact hn2)
   omega
 have hnd : (t.flatMap TNode.next).Nodup := by
   rw [List.nodup_iff_count]
   intro a
   by_cases ha : a ∈ t.flatMap TNode.next
   · have hb' := hb a ha
     have h1 := h.once a.toNat (by omega) (by omega)
     unfold named at h1
     rw [zJv, show ((a.toNat : Nat) : Int) = a by omega] at h1
     omega
   · rw [List.count_eq_zero_of_not_mem ha]; omega
 have hl := zJm t.length ((t.flatMap TNode.next).map Int.toNat) (by
   rw [List.nodup_iff_pairwise_ne, List.pairwise_map]
   refine List.Pairwise.imp_of_mem ?_ (List.nodup_iff_pairwise_ne.1 hnd)
   intro a b ha hb2 hab e
   have := hb a ha
   have := hb b hb2
   omega) (fun x hx => by
   obtain ⟨y, hy, rfl⟩ := List.mem_map.1 hx
   have := hb y hy
   omega)
 simpa using hl
/-- A number whose multiple by B is whole. -/
def Dv (B : Nat) (q : Rat) : Prop := ∃ z : Int, q * (B : Rat) = (z : Rat)
theorem Dv.den {B : Nat} {q : Rat} (h : Dv B q) (hB : B ≠ 0) : q.den ∣ B := by
 obtain ⟨z, hz⟩ := h
 have hB' : ((B : Int) : Rat) ≠ 0 := intc_ne (by omega)
 have e : q = Rat.divInt z B := by
   rw [Rat.divInt_eq_div, ← hz, ← Rat.intCast_natCast]
   have h1 := Rat.div_mul_cancel (a := q * ((B : Int) : Rat)) hB'
   refine zM2 hB' ?_
   rw [Rat.mul_comm _ (q * ((B : Int) : Rat) / ((B : Int) : Rat)), h1, Rat.mul_comm]
 rw [e, (zHv z B hB).2.1]
 exact Nat.div_dvd_of_dvd (Nat.gcd_dvd_right _ _)
theorem Dv.of_den {q : Rat} : Dv q.den q := ⟨q.num, num_den q⟩
theorem Dv.mono {A B : Nat} {q : Rat} (h : Dv A q) (hd : A ∣ B) : Dv B q := by
 obtain ⟨z, hz⟩ := h
 obtain ⟨k, rfl⟩ := hd
 refine ⟨z * k, ?_⟩
 rw [Rat.natCast_mul, ← Rat.mul_assoc, hz, Rat.intCast_mul, Rat.intCast_natCast]
theorem Dv.add {B : Nat} {a b : Rat} (ha : Dv B a) (hb : Dv B b) : Dv B (a + b) := by
 obtain ⟨x, hx⟩ := ha
 obtain ⟨y, hy⟩ := hb
 exact ⟨x + y, by rw [Rat.add_mul, hx, hy, Rat.intCast_add]⟩
theorem Dv.mul {A B : Nat} {a b : Rat} (ha : Dv A a) (hb : Dv B b) : Dv (A * B) (a * b) := by
 obtain ⟨x, hx⟩ := ha
 obtain ⟨y, hy⟩ := hb
 refine ⟨x * y, ?_⟩
 rw [Rat.intCast_mul, ← hx, ← hy, Rat.natCast_mul]
 grind
theorem Dv.zero (B : Nat) : Dv B 0 := ⟨0, by rw [Rat.zero_mul]; rfl⟩
theorem Dv.one (B : Nat) : Dv B 1 := ⟨B, by rw [Rat.one_mul, Rat.intCast_natCast]⟩
/-- A number from 0 to 1 is not longer than its denominator. -/
theorem unit_D {B K : Nat} {q : Rat} (h : Dv B q) (hB : B ≠ 0) (h0 : 0 ≤ q) (h1 : q ≤ 1) (hK : B < 10 ^ K) : D K q := by
 have hd := Nat.le_of_dvd (by omega) (h.den hB)
 refine ⟨?_, by omega⟩
 have hn : q.num ≤ q.den := by
   have h2 := Rat.not_lt.2 h1
   rw [Rat.lt_iff] at h2
   have h3 : ¬ ((1 : Int) * (q.den : Int) < q.num * 1) := h2
   omega
 have := Rat.num_nonneg.2 h0
 omega
def zGx : List Nat → Nat
 | [] => 1
 | a :: r => a * zGx r
theorem zKe {l : List Nat} (h : ∀ x ∈ l, 0 < x) : 0 < zGx l := by
 induction l with
 | nil => exact Nat.one_pos
 | cons a r ih => rw [zGx]; exact Nat.mul_pos (h a (by simp)) (ih (fun x hx => h x (by simp [hx])))
theorem zH0 {l : List Nat} {x : Nat} (h : x ∈ l) : x ∣ zGx l := by
 induction l with
 | nil => simp at h
 | cons a r ih =>
   rw [zGx]
   rcases List.mem_cons.1 h with rfl | q
   · exact Nat.dvd_mul_right _ _
   · exact Nat.dvd_trans (ih q) (Nat.dvd_mul_left _ _)
theorem zJD {l : List Nat} {d : Nat} (h : ∀ x ∈ l, x ≤ 10 ^ d) : zGx l ≤ 10 ^ (d * l.length) := by
 induction l with
 | nil => rw [zGx, List.length_nil, Nat.mul_zero, Nat.pow_zero]; exact Nat.le_refl _
 | cons a r ih =>
   rw [zGx, List.length_cons, Nat.mul_add, Nat.mul_one, Nat.add_comm, Nat.pow_add]
   exact Nat.mul_le_mul (h a (by simp)) (ih (fun x hx => h x (by simp [hx])))
def pden (o : Option (List Rat)) : Nat := match o with | none => 1 | some l => zGx (l.map Rat.den)
theorem pden_pos (o : Option (List Rat)) : 0 < pden o := by
 cases o with
 | none => exact Nat.one_pos
 | some l => exact zKe (fun x hx => by obtain ⟨q, _, rfl⟩ := List.mem_map.1 hx; exact q.den_pos)
def Bd (o : z8) : Nat → Nat
 | 0 => 1
 | i + 1 => Bd o i * pden (o i)
theorem zLF (o : z8) : ∀ i, 0 < Bd o i
 | 0 => Nat.one_pos
 | i + 1 => Nat.mul_pos (zLF o i) (pden_pos _)
theorem zG7 (o : z8) {i : Nat} : ∀ d, Bd o i ∣ Bd o (i + d)
 | 0 => Nat.dvd_refl _
 | d + 1 => Nat.dvd_trans (zG7 o d) (Nat.dvd_mul_right _ _)
/-- An end has no probabilities of its own. -/
structure OddsAll (t : zT) (o : z8) (d : Nat) : Prop extends OddsOK t o d where
 none : ∀ i, i < t.length → (t.getD i node0).kind = 0 → o i = none
theorem zJs {t : zT} {i j : Nat} (h : Valid t) (hi : i < t.length) (hk : kid t i j) : ∃ m, m < (t.getD i node0).next.length ∧ ((t.getD i node0).next.getD m 0).toNat = j := by
 obtain ⟨m, hm, he⟩ := List.getElem_of_mem hk
 exact ⟨m, hm, by rw [zAk 0 hm, he]; exact Int.toNat_natCast j⟩
theorem kid_kind {t : zT} {i j : Nat} (h : Valid t) (hi : i < t.length) (hk : kid t i j) : (t.getD i node0).kind ≠ 0 := by
 intro e
 have := zMk h hi e
 have h2 := (zJI h hi).2 hk
 rw [this] at h2; simp at h2
theorem zHA {t : zT} (h : Valid t) {o : z8} {d : Nat} (ho : OddsAll t o d) : ∀ j, j < t.length → Dv (Bd o j) ((zY t o).getD j 0) ∧ 0 ≤ (zY t o).getD j 0 := by
 intro j
 induction j using Nat.strongRecOn with
 | ind j ih =>
   intro hj
   by_cases h0 : j = 0
   · subst h0
     rw [zDF h]
     exact ⟨Dv.one _, by decide +kernel⟩
   · obtain ⟨i, hi, hk⟩ := h.has hj h0
     have hlt := h.kid_lt hi hk
     obtain ⟨m, hm, he⟩ := zJs h hi hk
     obtain ⟨l, l1, l2, l3, l4⟩ := ho.at' i hi (kid_kind h hi hk)
     have hr := zD3 h o hi hm
     rw [he, l1] at hr
     have hr : (zY t o).getD j 0 = (zY t o).getD i 0 * l.getD m 0 := hr
     obtain ⟨g1, g2⟩ := ih i (by omega) hi
     have hq := l4 (l.getD m 0) (zAj 0 (by omega))
     rw [hr]
     refine ⟨?_, Rat.mul_nonneg g2 hq.1⟩
     have h5 : Dv (Bd o (i + 1)) ((zY t o).getD i 0 * l.getD m 0) := by
       refine (g1.mul (Dv.of_den (q := l.getD m 0))).mono ?_
       show _ ∣ Bd o i * pden (o i)
       rw [l1]
       exact Nat.mul_dvd_mul (Nat.dvd_refl _) (zH0 (List.mem_map.2 ⟨_, zAj 0 (by omega), rfl⟩))
     have h6 := zG7 o (i := i + 1) (j - (i + 1))
     rw [show i + 1 + (j - (i + 1)) = j by omega] at h6
     exact h5.mono h6
theorem Bd_le {t : zT} (h : Valid t) {o : z8} {d : Nat} (ho : OddsAll t o d) : ∀ i, i ≤ t.length → Bd o i ≤ 10 ^ (d * ((t.take i).flatMap TNode.next).length)
 | 0, _ => by simp [Bd]
 | i + 1, hi => by
   have ih := Bd_le h ho i (by omega)
   have hi' : i < t.length := by omega
   have hp : pden (o i) ≤ 10 ^ (d * (t.getD i node0).next.length) := by
     by_cases hk : (t.getD i node0).kind = 0
     · rw [ho.none i hi' hk]
       exact Nat.pow_pos (by decide)
     · obtain ⟨l, l1, l2, l3, l4⟩ := ho.at' i hi' hk
       rw [l1, ← l2]
       have := zJD (l := l.map Rat.den) (d := d) (fun x hx => by
         obtain ⟨q, hq, rfl⟩ := List.mem_map.1 hx
         exact Nat.le_of_lt (l4 q hq).2.2)
       rwa [List.length_map] at this
   rw [Bd, List.take_succ_eq_append_getElem hi', List.flatMap_append, List.length_append, Nat.mul_add, Nat.pow_add]
   refine Nat.mul_le_mul ih ?_
   rw [zAk node0 hi'] at hp
   simpa using hp
/-- ReplyEnds. -/
theorem zOu {t : zT} (h : Valid t) {o : z8} {d : Nat} (ho : OddsAll t o d) (hn : t.length ≤ 40) {j : Nat} (hj : j < t.length) : Dv (Bd o t.length) ((zY t o).getD j 0) ∧ Bd o t.length < 10 ^ (d * 40 + 1) := by
 obtain ⟨g1, g2⟩ := zHA h ho j hj
 have h6 := zG7 o (i := j) (t.length - j)
 rw [show j + (t.length - j) = t.length by omega] at h6
 refine ⟨g1.mono h6, ?_⟩
 have h7 := Bd_le h ho t.length (Nat.le_refl _)
 rw [List.take_length] at h7
 have h8 := zJA h
 have h9 : d * (t.flatMap TNode.next).length ≤ d * 40 := Nat.mul_le_mul_left _ (by omega)
 have h10 : 10 ^ (d * (t.flatMap TNode.next).length) ≤ 10 ^ (d * 40) := Nat.pow_le_pow_right (by decide) h9
 have : 0 < 10 ^ (d * 40) := Nat.pow_pos (by decide)
 rw [Nat.pow_succ]
 omega
end Go.Ax.Rt
namespace Go.Ax.Rt
open Go.Ax.Bg
def zAl {α : Type} (v : Nat → α) : List Int → Nat → List α → List α
 | [], _, a => a
 | c :: r, k, a => zAl v r (k + 1) (a.set c.toNat (v k))
theorem zC2 {α : Type} (v : Nat → α) : ∀ (l : List Int) (k : Nat) (a : List α), (zAl v l k a).length = a.length
 | [], _, a => rfl
 | c :: r, k, a => by rw [zAl, zC2 v r]; simp
theorem zDC {α : Type} (v : Nat → α) (x : Int) : ∀ (l : List Int) (k : Nat) (a : List α), zAl v (l ++ [x]) k a = (zAl v l k a).set x.toNat (v (k + l.length))
 | [], k, a => rfl
 | c :: r, k, a => by
   rw [List.cons_append, zAl, zAl, zDC v x r (k + 1)]
   congr 2
   rw [List.length_cons]; omega
theorem zBW {α : Type} (v : Nat → α) (d : α) {j : Nat} : ∀ (l : List Int) (k : Nat) (a : List α), (∀ c ∈ l, c.toNat ≠ j) → (zAl v l k a).getD j d = a.getD j d
 | [], _, a, _ => rfl
 | c :: r, k, a, h => by
   rw [zAl, zBW v d r (k + 1) _ (fun c hc => h c (by simp [hc])), Go.Ax.Dt.getD_set, if_neg]
   exact fun q => h c (by simp) q.1.symm
theorem zLH {α : Type} (v : Nat → α) (d : α) : ∀ (l : List Int) (k : Nat) (a : List α) (m : Nat), m < l.length → (l.map Int.toNat).Nodup → (∀ c ∈ l, c.toNat < a.length) → (zAl v l k a).getD (l.getD m 0).toNat d = v (k + m)
 | [], _, a, m, h, _, _ => absurd h (Nat.not_lt_zero _)
 | c :: r, k, a, m, h, hn, hl => by
   rw [List.map_cons, List.nodup_cons] at hn
   rw [zAl]
   cases m with
   | zero =>
     have : (c :: r).getD 0 0 = c := rfl
     rw [this, zBW, Go.Ax.Dt.getD_set, if_pos ⟨rfl, hl c (by simp)⟩, Nat.add_zero]
     intro x hx e
     exact hn.1 (List.mem_map.2 ⟨x, hx, e⟩)
   | succ m =>
     have : (c :: r).getD (m + 1) 0 = r.getD m 0 := rfl
     rw [this, zLH v d r (k + 1) _ m (by simpa using h) hn.2 (fun x hx => by rw [List.length_set]; exact hl x (by simp [hx]))]
     congr 1; omega
theorem zIP (v : Nat → Int) : ∀ (l : List Int) (k : Nat) (a : List Int), zDQ v l k a = zAl v l k a
 | [], _, a => rfl
 | c :: r, k, a => by rw [zDQ, zAl, zIP v r]
theorem zFE (v : Nat → Way) : ∀ (l : List Int) (k : Nat) (a : List Way), zGi v l k a = zAl v l k a
 | [], _, a => rfl
 | c :: r, k, a => by rw [zGi, zAl, zFE v r]
/-- A table over the nodes, made from parents to children. -/
theorem zMO {α : Type} {t : zT} (h : Valid t) (d : α) (T : Nat → List α) (v : Nat → Nat → α) (hT : ∀ i, i < t.length → T (i + 1) = zAl (v i) (t.getD i node0).next 0 (T i)) {j : Nat} (hj : j < t.length) : ∀ e i, j ≤ i → i + e ≤ t.length → (T (i + e)).getD j d = (T i).getD j d
 | 0, i, _, _ => rfl
 | e + 1, i, h1, h2 => by
   rw [← Nat.add_assoc, hT _ (by omega), zBW, zMO h d T v hT hj e i h1 (by omega)]
   intro c hc e'
   have := h.behind (show i + e < t.length by omega) c hc
   omega
theorem zOM {α : Type} {t : zT} (h : Valid t) (d : α) (T : Nat → List α) (v : Nat → Nat → α) (hl : ∀ i, (T i).length = t.length) (hT : ∀ i, i < t.length → T (i + 1) = zAl (v i) (t.getD i node0).next 0 (T i)) {i m : Nat} (hi : i < t.length) (hm : m < (t.getD i node0).next.length) :
   (T t.length).getD ((t.getD i node0).next.getD m 0).toNat d = v i m := by
 have hb := h.behind hi _ (zAj 0 hm)
 have hc : ((t.getD i node0).next.getD m 0).toNat < t.length := by omega
 have h1 : (T (i + 1)).getD ((t.getD i node0).next.getD m 0).toNat d = v i m := by
   rw [hT i hi, zLH _ d _ _ _ m hm (h.kids_nodup hi) (fun c hc => by rw [hl]; have := h.behind hi c hc; omega), Nat.zero_add]
 have key : ∀ e, i + 1 + e ≤ t.length → (T (i + 1 + e)).getD ((t.getD i node0).next.getD m 0).toNat d = (T (i + 1)).getD ((t.getD i node0).next.getD m 0).toNat d := by
   intro e
   induction e with
   | zero => intro _; rfl
   | succ e ih =>
     intro hd
     rw [← Nat.add_assoc, hT _ (by omega), zBW, ih (by omega)]
     intro c hc2 e'
     have hc3 := h.behind (show i + 1 + e < t.length by omega) c hc2
     have k1 : kid t i ((t.getD i node0).next.getD m 0).toNat := by
       unfold kid
       rw [show ((((t.getD i node0).next.getD m 0).toNat : Nat) : Int) = (t.getD i node0).next.getD m 0 by omega]
       exact zAj 0 hm
     have k2 : kid t (i + 1 + e) ((t.getD i node0).next.getD m 0).toNat := by
       unfold kid
       rw [← e', show ((c.toNat : Nat) : Int) = c by omega]
       exact hc2
     have := h.parent hc (by omega) hi (by omega) k1 k2
     omega
 have h3 := key (t.length - (i + 1)) (by omega)
 rw [show i + 1 + (t.length - (i + 1)) = t.length by omega] at h3
 rw [h3, h1]
theorem zGD {α : Type} {t : zT} (h : Valid t) (d : α) (T : Nat → List α) (v : Nat → Nat → α) (hT : ∀ i, i < t.length → T (i + 1) = zAl (v i) (t.getD i node0).next 0 (T i)) {i : Nat} (hi : i < t.length) : (T i).getD i d = (T t.length).getD i d := by
 have := zMO h d T v hT hi (t.length - i) i (Nat.le_refl _) (by omega)
 rw [show i + (t.length - i) = t.length by omega] at this
 exact this.symm
/-- the sequence of each node -/
def zBm (t : zT) (p : Int) : List Int := (zAE t p t.length).pos
def zDl (t : zT) (p : Int) : List Way := zBJ t p t.length
abbrev zIE (t : zT) (p : Int) : List (Int × Nat) := (zAE t p t.length).first
theorem zF3 (p : Int) (n : TNode) (i : Nat) (f : RForm) : (zAI p n i f).pos = f.pos := by
 unfold zAI; split <;> rfl
theorem zF2 (t : zT) (p : Int) (i : Nat) : (zAE t p (i + 1)).pos = zAl (zGu p (t.getD i node0) i (zAI p (t.getD i node0) i (zAE t p i))) (t.getD i node0).next 0 (zAE t p i).pos := by
 rw [zAE, zIk]
 show zDQ _ _ _ (zAI _ _ _ _).pos = _
 rw [zIP, zF3]
theorem zD6 (t : zT) (p : Int) : ∀ i, (zAE t p i).pos.length = t.length
 | 0 => List.length_replicate
 | i + 1 => by rw [zF2, zC2, zD6 t p i]
theorem zO8 {m m' : List (Int × Nat)} {k : Int} {s : Nat} (h : zBL m k = some s) : zBL (m ++ m') k = some s := by
 unfold zBL at h ⊢
 obtain ⟨x, hx, rfl⟩ := Option.map_eq_some_iff.1 h
 rw [List.find?_append, hx]; rfl
theorem zJd {t : zT} {p : Int} {k : Int} {s : Nat} {i : Nat} : ∀ e, zBL (zAE t p i).first k = some s → zBL (zAE t p (i + e)).first k = some s
 | 0, h => h
 | e + 1, h => by
   rw [← Nat.add_assoc, zAE, zIk]
   show zBL (zAI _ _ _ _).first k = some s
   have := zJd e h
   unfold zAI
   split
   · exact zO8 this
   · exact this
theorem zMj {t : zT} {p : Int} (hv : Valid t) {i : Nat} (hi : i < t.length) (ho : own p (t.getD i node0) = true) : ∃ s, zBL (zAI p (t.getD i node0) i (zAE t p i)).first (t.getD i node0).info = some s ∧ zBL (zIE t p) (t.getD i node0).info = some s := by
 have h := RI.all_n hv p i (by omega)
 obtain ⟨s, hs⟩ := (RI.add hv h hi h h.s0.1).2.2.2.2.2.2.2.2.2 ho
 refine ⟨s, hs, ?_⟩
 have h2 : zBL (zAE t p (i + 1)).first (t.getD i node0).info = some s := hs
 have := zJd (t.length - (i + 1)) h2
 rwa [show i + 1 + (t.length - (i + 1)) = t.length by omega] at this
abbrev zGj (t : zT) (p x : Int) : Nat := (zBL (zIE t p) x).getD 0
theorem zOC {t : zT} (hv : Valid t) (p : Int) {i m : Nat} (hi : i < t.length) (hm : m < (t.getD i node0).next.length) :
   (zBm t p).getD ((t.getD i node0).next.getD m 0).toNat 0 = if own p (t.getD i node0) = true then ((zGj t p (t.getD i node0).info : Nat) : Int) + (m : Int) else (zBm t p).getD i 0 := by
 have hk := zOM hv (0 : Int) (fun i => (zAE t p i).pos) (fun i => zGu p (t.getD i node0) i (zAI p (t.getD i node0) i (zAE t p i))) (zD6 t p) (fun i _ => zF2 t p i) hi hm
 have hp := zGD hv (0 : Int) (fun i => (zAE t p i).pos) _ (fun i _ => zF2 t p i) hi
 refine hk.trans ?_
 unfold zGu
 split
 · rename_i ho
   obtain ⟨s, h1, h2⟩ := zMj hv hi ho
   rw [h1]
   unfold zGj
   rw [h2]
 · rw [zF3]; exact hp
theorem zMU {t : zT} (hv : Valid t) (p : Int) : (zBm t p).getD 0 0 = 0 := by
 have hn := hv.ne
 have := zGD hv (0 : Int) (fun i => (zAE t p i).pos) _ (fun i _ => zF2 t p i) (i := 0) (by omega)
 refine this.symm.trans ?_
 show (List.replicate t.length (0 : Int)).getD 0 0 = 0
 simp only [List.getD, List.getElem?_replicate]
 split <;> rfl
theorem way_kid {t : zT} (hv : Valid t) (p : Int) {i m : Nat} (hi : i < t.length) (hm : m < (t.getD i node0).next.length) :
   (zDl t p).getD ((t.getD i node0).next.getD m 0).toNat [] = zH6 p (t.getD i node0) ((zDl t p).getD i []) m := by
 have hT : ∀ i, i < t.length → zBJ t p (i + 1) = zAl (zH6 p (t.getD i node0) ((zBJ t p i).getD i [])) (t.getD i node0).next 0 (zBJ t p i) := fun i _ => by rw [zBJ, zFE]
 have hk := zOM hv ([] : Way) (fun i => zBJ t p i) (fun i => zH6 p (t.getD i node0) ((zBJ t p i).getD i [])) (zE8 t p) hT hi hm
 have hp := zGD hv ([] : Way) (fun i => zBJ t p i) _ hT hi
 refine hk.trans ?_
 show zH6 p _ ((zBJ t p i).getD i []) m = _
 rw [show (zBJ t p i).getD i [] = (zDl t p).getD i [] from hp]
theorem way_root {t : zT} (hv : Valid t) (p : Int) : (zDl t p).getD 0 [] = [] := by
 have hn := hv.ne
 have hT : ∀ i, i < t.length → zBJ t p (i + 1) = zAl (zH6 p (t.getD i node0) ((zBJ t p i).getD i [])) (t.getD i node0).next 0 (zBJ t p i) := fun i _ => by rw [zBJ, zFE]
 have := zGD hv ([] : Way) (fun i => zBJ t p i) _ hT (i := 0) (by omega)
 refine this.symm.trans ?_
 show (List.replicate t.length ([] : Way)).getD 0 [] = []
 simp only [List.getD, List.getElem?_replicate]
 split <;> rfl
def posW (F : Int → Nat) (w : Way) : Int := match w.getLast? with
 | none => 0
 | some x => ((F x.1 : Nat) : Int) + x.2
theorem zO0 {t : zT} (hv : Valid t) (p : Int) : ∀ j, j < t.length → (zBm t p).getD j 0 = posW (zGj t p) ((zDl t p).getD j []) := by
 intro j
 induction j using Nat.strongRecOn with
 | ind j ih =>
   intro hj
   by_cases h0 : j = 0
   · subst h0
     rw [zMU hv, way_root hv]; rfl
   · obtain ⟨i, hi, hk⟩ := hv.has hj h0
     have hlt := hv.kid_lt hi hk
     obtain ⟨m, hm, he⟩ := zJs hv hi hk
     have h1 := zOC hv p hi hm
     have h2 := way_kid hv p hi hm
     rw [he] at h1 h2
     rw [h1, h2]
     unfold zH6
     split
     · unfold posW
       rw [List.getLast?_append]
       rfl
     · exact ih i (by omega) hi
theorem zEa {t : zT} {p : Int} {x : Int × Nat} {i : Nat} : ∀ e, x ∈ zAv t p i → x ∈ zAv t p (i + e)
 | 0, h => h
 | e + 1, h => by
   rw [← Nat.add_assoc, zAv]
   split
   · exact List.mem_append_left _ (zEa e h)
   · exact zEa e h
theorem zFg (t : zT) (p : Int) : ∀ i, ((zAv t p i).map Prod.fst).Nodup
 | 0 => List.nodup_nil
 | i + 1 => by
   rw [zAv]
   split
   · rename_i hc
     rw [List.map_append, List.nodup_append]
     refine ⟨zFg t p i, by simp, fun a ha b hb e => ?_⟩
     have : b = (t.getD i node0).info := by simpa using hb
     have hno := zG4 hc.2
     rw [← this, ← e] at hno
     exact hno ha
   · exact zFg t p i
theorem zJC {t : zT} {p : Int} {W : List Way} : ∀ {n i : Nat}, zEc t p W n = true → i < n → own p (t.getD i node0) = true → ∃ k, ((t.getD i node0).info, k) ∈ zAv t p n ∧ W.getD i [] = W.getD k []
 | 0, i, _, h, _ => absurd h (Nat.not_lt_zero _)
 | n + 1, i, hp, hi, ho => by
   rw [zEc, Bool.and_eq_true] at hp
   by_cases e : i = n
   · subst e
     have h2 := hp.2
     rw [if_pos ho] at h2
     cases hl : zBL (zAv t p i) (t.getD i node0).info with
     | none =>
       refine ⟨i, ?_, rfl⟩
       rw [zAv, if_pos ⟨ho, hl⟩]
       simp
     | some k =>
       rw [hl] at h2
       exact ⟨k, zEa 1 (zCK hl), by simpa using h2⟩
   · obtain ⟨k, k1, k2⟩ := zJC hp.1 (by omega) ho
     exact ⟨k, zEa 1 k1, k2⟩
/-- With perfect recall, the nodes of a set have the same sequence. -/
theorem perf_pos {t : zT} (hv : Valid t) {p : Int} (hp : zBb t p = true) {i j : Nat} (hi : i < t.length) (hj : j < t.length) (oi : own p (t.getD i node0) = true) (oj : own p (t.getD j node0) = true) (he : (t.getD i node0).info = (t.getD j node0).info) : (zBm t p).getD i 0 = (zBm t p).getD j 0 := by
 obtain ⟨a, a1, a2⟩ := zJC hp hi oi
 obtain ⟨b, b1, b2⟩ := zJC hp hj oj
 have := zOS (zFg t p t.length) a1 b1 he
 have hab : a = b := congrArg Prod.snd this
 rw [zO0 hv p i hi, zO0 hv p j hj]
 show posW _ ((zBJ t p t.length).getD i []) = posW _ ((zBJ t p t.length).getD j [])
 rw [a2, b2, hab]
/-- The blocks of sequences: what stands there, and where it comes from. -/
theorem zMd {t : zT} (hv : Valid t) (p : Int) : ∀ i, i ≤ t.length → ∀ x ∈ (zAE t p i).first, ∃ j, j < i ∧ zA4 p x.1 (t.getD j node0) = true ∧ x.2 + (t.getD j node0).next.length ≤ (zAE t p i).seqs.length ∧
   ∀ c, c < (t.getD j node0).next.length → (zAE t p i).seqs.getD (x.2 + c) zBZ = ⟨x.1, (c : Int), (zBm t p).getD j 0⟩
 | 0, _, x, hx => by simp [zAE] at hx
 | i + 1, hi, x, hx => by
   have ih := zMd hv p i (by omega)
   have hp := zGD hv (0 : Int) (fun i => (zAE t p i).pos) _ (fun i _ => zF2 t p i) (i := i) (by omega)
   have hx : x ∈ (zAI p (t.getD i node0) i (zAE t p i)).first := hx
   show ∃ j, j < i + 1 ∧ _ ∧ _ ≤ (zAI p (t.getD i node0) i (zAE t p i)).seqs.length ∧ ∀ c, _ → (zAI p (t.getD i node0) i (zAE t p i)).seqs.getD (x.2 + c) zBZ = _
   generalize hn : t.getD i node0 = n at *
   unfold zAI at hx ⊢
   split at hx
   · rename_i hc
     rw [if_pos hc]
     rcases List.mem_append.1 hx with q | q
     · obtain ⟨j, j1, j2, j3, j4⟩ := ih x q
       refine ⟨j, by omega, j2, by show _ ≤ (_ ++ _ : List RSeq).length; rw [List.length_append]; omega, fun c hc2 => ?_⟩
       show ((zAE t p i).seqs ++ _).getD (x.2 + c) zBZ = _
       rw [zFT _ (by omega)]
       exact j4 c hc2
     · have hx' : x = (n.info, (zAE t p i).seqs.length) := by simpa using q
       subst hx'
       refine ⟨i, Nat.lt_succ_self _, ?_, ?_, fun c hc2 => ?_⟩
       · rw [hn]; unfold zA4; rw [hc.1]; simp
       · rw [hn]
         show (zAE t p i).seqs.length + n.next.length ≤ ((zAE t p i).seqs ++ zBk n _).length
         rw [List.length_append]; simp [zBk]
       · rw [hn] at hc2
         show ((zAE t p i).seqs ++ zBk n ((zAE t p i).pos.getD i 0)).getD ((zAE t p i).seqs.length + c) zBZ = _
         have e : ((zAE t p i).seqs ++ zBk n ((zAE t p i).pos.getD i 0)).getD ((zAE t p i).seqs.length + c) zBZ = (zBk n ((zAE t p i).pos.getD i 0)).getD c zBZ := by
           simp only [List.getD]
           rw [List.getElem?_append_right (by omega), Nat.add_sub_cancel_left]
         rw [e]
         unfold zBk
         rw [zDY _ _ 0 _ _ (by simpa using hc2)]
         have hp : (zAE t p i).pos.getD i 0 = (zBm t p).getD i 0 := hp
         rw [hp]
         simp [List.getD, hc2]
   · rename_i hc
     rw [if_neg hc]
     obtain ⟨j, j1, j2, j3, j4⟩ := ih x hx
     exact ⟨j, by omega, j2, j3, j4⟩
/-- The plan at a choice. -/
theorem plan_kid {t : zT} (hv : Valid t) {p : Int} (hp : zBb t p = true) (u : Int → List Rat) {i m : Nat} (hi : i < t.length) (ho : own p (t.getD i node0) = true) (hm : m < (t.getD i node0).next.length) :
   (zBh t p u).getD (((zGj t p (t.getD i node0).info : Nat) : Int) + (m : Int)).toNat 0 = (zBh t p u).getD ((zBm t p).getD i 0).toNat 0 * (u (t.getD i node0).info).getD m 0 := by
 obtain ⟨s, _, h2⟩ := zMj hv hi ho
 have hx := zCK h2
 have h := RI.all_n hv p t.length (Nat.le_refl _)
 obtain ⟨j, j1, j2, j3, j4⟩ := zMd hv p t.length (Nat.le_refl _) _ hx
 have hj2 := j2
 unfold zA4 at hj2
 rw [Bool.and_eq_true, decide_eq_true_eq] at hj2
 have hw := hv.width hi j1 ho hj2.1 hj2.2.symm
 have hpos := perf_pos hv hp hi j1 ho hj2.1 hj2.2.symm
 have hst : zGj t p (t.getD i node0).info = s := by unfold zGj; rw [h2]; rfl
 rw [hst]
 obtain ⟨b1, b2⟩ := h.pb ((zBm t p).getD j 0) (zAj 0 (by show j < (zAE t p t.length).pos.length; rw [zD6]; exact j1))
 have hs := j4 m (by omega)
 obtain ⟨q1, q2, b, q3, q4, q5⟩ := h.fst _ hx
 have hww := zDc hv j1 j2
 have hs' := q5 m (by have hww : zd t p (t.getD i node0).info = _ := hww; show m < zd t p (t.getD i node0).info; omega)
 rw [hs] at hs'
 have hb : (zBm t p).getD j 0 = b := congrArg RSeq.before hs'
 have q4 : b < (s : Int) := q4
 have j3 : s + (t.getD j node0).next.length ≤ (zAE t p t.length).seqs.length := j3
 have hs : (ze t p).getD (s + m) zBZ = ⟨(t.getD i node0).info, (m : Int), (zBm t p).getD j 0⟩ := hs
 have hlen : s + m < (ze t p).length := by show s + m < (zAE t p t.length).seqs.length; omega
 rw [show (((s : Nat) : Int) + (m : Int)).toNat = s + m by omega]
 unfold zBh
 rw [zDJ _ _ hlen, hs]
 unfold zDd
 simp only
 rw [if_neg (by omega), Int.toNat_natCast, hpos, zG8 _ _ (show ((zBm t p).getD j 0).toNat < s + m by omega) (show ((zBm t p).getD j 0).toNat < (ze t p).length by omega)]
/-- the probabilities of both players, and chance -/
def zC6 (t : zT) (p : Int) (u : Int → List Rat) (o : z8) : z8 := fun i => if own p (t.getD i node0) = true then some (u (t.getD i node0).info) else o i
theorem zGZ {t : zT} (hv : Valid t) (p : Int) (u : Int → List Rat) : (zBh t p u).getD 0 0 = 1 := by
 obtain ⟨_, h1, h2, _⟩ := zAm hv p
 unfold zBh
 rw [zDJ _ _ h2, h1]
 rfl
theorem zMT {t : zT} (hv : Valid t) {p : Int} (hp : zBb t p = true) (u : Int → List Rat) {o : z8} (ho : ∀ i, i < t.length → own p (t.getD i node0) = true → o i = none) : ∀ j, j < t.length → (zY t (zC6 t p u o)).getD j 0 = (zY t o).getD j 0 * (zBh t p u).getD ((zBm t p).getD j 0).toNat 0 := by
 intro j
 induction j using Nat.strongRecOn with
 | ind j ih =>
   intro hj
   by_cases h0 : j = 0
   · subst h0
     rw [zDF hv, zDF hv, zMU hv, Rat.one_mul]
     exact (zGZ hv p u).symm
   · obtain ⟨i, hi, hk⟩ := hv.has hj h0
     have hlt := hv.kid_lt hi hk
     obtain ⟨m, hm, he⟩ := zJs hv hi hk
     have h1 := zD3 hv (zC6 t p u o) hi hm
     have h2 := zD3 hv o hi hm
     have h3 := zOC hv p hi hm
     have h4 := ih i (by omega) hi
     rw [he] at h1 h2 h3
     rw [h1, h2, h3, h4]
     by_cases how : own p (t.getD i node0) = true
     · have e : zC6 t p u o i = some (u (t.getD i node0).info) := by unfold zC6; rw [if_pos how]
       rw [e, if_pos how, ho i hi how, plan_kid hv hp u hi how hm]
       show _ * _ * _ = (zY t o).getD i 0 * (_ * _)
       rw [Rat.mul_assoc]
     · have e : zC6 t p u o i = o i := by unfold zC6; rw [if_neg how]
       rw [e, if_neg how]
       cases o i with
       | none => rfl
       | some l =>
         show _ * _ * _ = _ * _ * _
         rw [Rat.mul_assoc, Rat.mul_assoc, Rat.mul_comm (l.getD m 0)]
end Go.Ax.Rt
namespace Go.Ax.Rt
open Go.Ax.Bg
def zEn (t : zT) (r : List Rat) (i : Nat) : Rat := r.getD i 0 * zAU (t.getD i node0).pay
/-- what the first player receives on average -/
def zAb (t : zT) (o : z8) : Rat := zAy 0 ((z6 t).map (zEn t (zY t o)))
def endG (t : zT) (p : Int) (r : List Rat) (i : Nat) : Rat := if p = 1 then -(zEn t r i) else zEn t r i
def zFK (g : Nat → Rat) (pos : List Int) : List Nat → List Rat → List Rat
 | [], S => S
 | i :: r, S => zFK g pos r (S.set (pos.getD i 0).toNat (S.getD (pos.getD i 0).toNat 0 + g i))
theorem zKA (g : Nat → Rat) (pos : List Int) (x : Nat) : ∀ (ks : List Nat) (S : List Rat), zFK g pos (ks ++ [x]) S = (zFK g pos ks S).set (pos.getD x 0).toNat ((zFK g pos ks S).getD (pos.getD x 0).toNat 0 + g x)
 | [], S => rfl
 | i :: r, S => by rw [List.cons_append, zFK, zFK, zKA g pos x r]
theorem zIK (g : Nat → Rat) (pos : List Int) : ∀ (ks : List Nat) (S : List Rat), (zFK g pos ks S).length = S.length
 | [], S => rfl
 | i :: r, S => by rw [zFK, zIK g pos r, List.length_set]
def zFs (P S : List Rat) (n : Nat) : Rat := zA6 (fun k => P.getD k 0 * S.getD k 0) n
theorem zOV {P S : List Rat} {n k : Nat} (y : Rat) (hk : k < n) (hS : k < S.length) : zFs P (S.set k (S.getD k 0 + y)) n = zFs P S n + P.getD k 0 * y := by
 unfold zFs
 rw [← zD0 (f := fun _ => P.getD k 0 * y) hk, ← zF9]
 refine zBM (fun j hj => ?_)
 rw [Go.Ax.Dt.getD_set]
 by_cases h : j = k
 · subst h
   rw [if_pos ⟨rfl, hS⟩, if_pos rfl, Rat.mul_add]
 · rw [if_neg (fun q => h q.1), if_neg h, Rat.add_zero]
theorem zMw (P : List Rat) (g : Nat → Rat) (pos : List Int) {n : Nat} : ∀ (ks : List Nat) (S : List Rat), (∀ i ∈ ks, (pos.getD i 0).toNat < n) → n ≤ S.length → zFs P (zFK g pos ks S) n = zFs P S n + zAy 0 (ks.map (fun i => P.getD (pos.getD i 0).toNat 0 * g i))
 | [], S, _, _ => by rw [zFK, List.map_nil, zAy, Rat.add_zero]
 | i :: r, S, h, hS => by
   have hi := h i (by simp)
   rw [zFK, zMw P g pos r _ (fun j hj => h j (by simp [hj])) (by rw [List.length_set]; exact hS), zOV _ hi (by omega), List.map_cons, zAy, Rat.zero_add, zCI _ (P.getD (pos.getD i 0).toNat 0 * g i), Rat.add_assoc]
theorem dot_zero (P : List Rat) (n m : Nat) : zFs P (List.replicate m 0) n = 0 := by
 unfold zFs
 rw [zBM (g := fun _ => 0) (fun j hj => ?_), zGb]
 have : (List.replicate m (0 : Rat)).getD j 0 = 0 := by
   simp only [List.getD, List.getElem?_replicate]
   split <;> rfl
 rw [this, Rat.mul_zero]
theorem zJL (f : Nat → Rat) : ∀ ks : List Nat, zAy 0 (ks.map (fun i => -(f i))) = -(zAy 0 (ks.map f))
 | [] => by rw [List.map_nil, List.map_nil, zAy]; rfl
 | a :: r => by
   rw [List.map_cons, List.map_cons, zAy, zAy, zCI, zCI (r.map f), zJL f r, Rat.zero_add, Rat.zero_add, Rat.neg_add]
theorem pos_lt {t : zT} (hv : Valid t) (p : Int) {j : Nat} (hj : j < t.length) : 0 ≤ (zBm t p).getD j 0 ∧ ((zBm t p).getD j 0).toNat < (ze t p).length := by
 have h := RI.all_n hv p t.length (Nat.le_refl _)
 have := h.pb ((zBm t p).getD j 0) (zAj 0 (by show j < (zAE t p t.length).pos.length; rw [zD6]; exact hj))
 have e : (ze t p).length = (zAE t p t.length).seqs.length := rfl
 omega
theorem zCw {t : zT} {i : Nat} (h : i ∈ z6 t) : i < t.length ∧ (t.getD i node0).kind = 0 := by
 have := List.mem_filter.1 h
 exact ⟨by simpa using this.1, by simpa using this.2⟩
/-- what the sequences are worth, before the choices are made -/
def zFr (t : zT) (p : Int) (o : z8) : List Rat := zFK (endG t p (zY t o)) (zBm t p) (z6 t) (List.replicate (ze t p).length 0)
/-- The value, told by sequences. -/
theorem zIb {t : zT} (hv : Valid t) {p : Int} (hp : zBb t p = true) (u : Int → List Rat) {o : z8} (ho : ∀ i, i < t.length → own p (t.getD i node0) = true → o i = none) :
   zFs (zBh t p u) (zFr t p o) (ze t p).length = if p = 1 then -(zAb t (zC6 t p u o)) else zAb t (zC6 t p u o) := by
 unfold zFr
 rw [zMw _ _ _ _ _ (fun i hi => (pos_lt hv p (zCw hi).1).2) (by rw [List.length_replicate]; exact Nat.le_refl _), dot_zero, Rat.zero_add]
 have e : (z6 t).map (fun i => (zBh t p u).getD ((zBm t p).getD i 0).toNat 0 * endG t p (zY t o) i) = (z6 t).map (fun i => if p = 1 then -(zEn t (zY t (zC6 t p u o)) i) else zEn t (zY t (zC6 t p u o)) i) := by
   refine List.map_congr_left (fun i hi => ?_)
   have hs := zMT hv hp u ho i (zCw hi).1
   unfold endG zEn
   rw [hs]
   have key : ∀ a b c : Rat, a * (b * c) = b * a * c := fun a b c => by rw [← Rat.mul_assoc, Rat.mul_comm a b]
   split
   · rw [← key, Rat.mul_neg]
   · rw [key]
 rw [e]
 unfold zAb
 split
 · exact zJL _ _
 · rfl
def zAX (S : List Rat) (s : Nat) : Nat → Nat
 | 0 => s
 | m + 1 => if S.getD (zAX S s m) 0 < S.getD (s + m) 0 then s + m else zAX S s m
theorem zD2 (S : List Rat) (s : Nat) : ∀ m, s ≤ zAX S s m ∧ zAX S s m < s + m + 1 ∧ (1 ≤ m → zAX S s m < s + m)
 | 0 => ⟨Nat.le_refl _, Nat.lt_succ_self _, fun h => absurd h (by decide)⟩
 | m + 1 => by
   obtain ⟨h1, h2, h3⟩ := zD2 S s m
   rw [zAX]
   split
   · exact ⟨by omega, by omega, fun _ => by omega⟩
   · exact ⟨h1, by omega, fun _ => by omega⟩
theorem zJ4 (S : List Rat) (s : Nat) : ∀ m c, c < m → S.getD (s + c) 0 ≤ S.getD (zAX S s m) 0
 | 0, c, h => absurd h (Nat.not_lt_zero _)
 | m + 1, c, h => by
   rw [zAX]
   have ih := zJ4 S s m
   split
   · rename_i h2
     by_cases e : c = m
     · subst e; exact Rat.le_refl
     · exact Rat.le_trans (ih c (by omega)) (Rat.le_of_lt h2)
   · rename_i h2
     by_cases e : c = m
     · subst e; exact Rat.not_lt.1 h2
     · exact ih c (by omega)
abbrev BSt := Nat × List Rat × List (Int × Int)
def zJb (l : List RSeq) (st : BSt) : BSt :=
 let s := st.1 - 1 - (l.getD (st.1 - 1) zBZ).choice.toNat
 let b := zAX st.2.1 s (st.1 - s)
 let q := l.getD b zBZ
 (s, st.2.1.set q.before.toNat (st.2.1.getD q.before.toNat 0 + st.2.1.getD b 0), st.2.2 ++ [(q.info, q.choice)])
def zDo (l : List RSeq) : Nat → BSt → BSt
 | 0, st => st
 | f + 1, st => if 1 < st.1 then zDo l f (zJb l st) else st
theorem zLn (f : Nat → Rat) (a : Nat) : ∀ w, zA6 f (a + w) = zA6 f a + zA6 (fun c => f (a + c)) w
 | 0 => by rw [Nat.add_zero, zA6, Rat.add_zero]
 | w + 1 => by rw [← Nat.add_assoc, zA6, zLn f a w, zA6, Rat.add_assoc]
theorem zKq {f g : Nat → Rat} : ∀ {n : Nat}, (∀ i, i < n → f i ≤ g i) → zA6 f n ≤ zA6 g n
 | 0, _ => Rat.le_refl
 | n + 1, h => by
   rw [zA6, zA6]
   exact Rat.le_trans ((Rat.add_le_add_right (c := f n)).2 (zKq (fun i hi => h i (by omega)))) ((Rat.add_le_add_left (c := zA6 g n)).2 (h n (by omega)))
/-- The choices from e on belong to whole sets. -/
structure Bnd (t : zT) (p : Int) (e : Nat) : Prop where
 one : 1 ≤ e
 le : e ≤ (ze t p).length
 whole : ∀ x ∈ zIE t p, x.2 < e → x.2 + zd t p x.1 ≤ e
theorem Bnd.top {t : zT} (hv : Valid t) (p : Int) : Bnd t p (ze t p).length :=
 ⟨(zAm hv p).2.2.1, Nat.le_refl _, fun x hx _ => ((RI.all_n hv p t.length (Nat.le_refl _)).fst x hx).2.1⟩
structure Blk (t : zT) (p : Int) (e : Nat) (x : Int × Nat) (b : Nat) : Prop where
 mem : x ∈ zIE t p
 info : x.1 ∈ zf t p
 one : 1 ≤ x.2
 w1 : 1 ≤ zd t p x.1
 fin : x.2 + zd t p x.1 = e
 lt : b < x.2
 bnd : Bnd t p x.2
 seqs : ∀ c, c < zd t p x.1 → (ze t p).getD (x.2 + c) zBZ = ⟨x.1, (c : Int), (b : Int)⟩
theorem Bnd.blk {t : zT} (hv : Valid t) {p : Int} {e : Nat} (h : Bnd t p e) (he : 1 < e) : ∃ x b, Blk t p e x b := by
 have hl := h.le
 obtain ⟨x, b, x0, x1, x2, x3, x4, x5, x6, x7⟩ := seq_at hv (p := p) (k := e - 1) (by omega) (by omega)
 have hw := h.whole x x0 (by omega)
 refine ⟨x, b, x0, x1, x5, by omega, by omega, x4, ⟨x5, by omega, fun y hy hlt => ?_⟩, x7⟩
 rcases Nat.lt_or_ge x.2 (y.2 + zd t p y.1) with q | q
 · obtain ⟨y1, y2, b', b1, b2, b3⟩ := (RI.all_n hv p t.length (Nat.le_refl _)).fst y hy
   have e1 := b3 (x.2 - y.2) (by omega)
   rw [show y.2 + (x.2 - y.2) = x.2 by omega] at e1
   have e2 := x7 0 (by omega)
   rw [Nat.add_zero] at e2
   have e1 : (ze t p).getD x.2 zBZ = ⟨y.1, ((x.2 - y.2 : Nat) : Int), b'⟩ := e1
   rw [e2] at e1
   have := congrArg RSeq.choice e1
   have : ((0 : Nat) : Int) = ((x.2 - y.2 : Nat) : Int) := this
   omega
 · exact q
theorem Blk.step {t : zT} {p : Int} {e : Nat} {x : Int × Nat} {b : Nat} (h : Blk t p e x b) (S : List Rat) (C : List (Int × Int)) :
   zJb (ze t p) (e, S, C) = (x.2, S.set b (S.getD b 0 + S.getD (zAX S x.2 (zd t p x.1)) 0), C ++ [(x.1, ((zAX S x.2 (zd t p x.1) - x.2 : Nat) : Int))]) := by
 have h1 := h.fin
 have h2 := h.w1
 have hs := h.seqs (zd t p x.1 - 1) (by omega)
 rw [show x.2 + (zd t p x.1 - 1) = e - 1 by omega] at hs
 obtain ⟨q1, _, q3⟩ := zD2 S x.2 (zd t p x.1)
 have q3 := q3 h2
 have hb := h.seqs (zAX S x.2 (zd t p x.1) - x.2) (by omega)
 rw [show x.2 + (zAX S x.2 (zd t p x.1) - x.2) = zAX S x.2 (zd t p x.1) by omega] at hb
 have e1 : e - 1 - ((zd t p x.1 - 1 : Nat) : Int).toNat = x.2 := by omega
 unfold zJb
 simp only [hs]
 rw [e1, show e - x.2 = zd t p x.1 by omega, hb]
 simp only [Int.toNat_natCast]
theorem Blk.plan {t : zT} {p : Int} {e : Nat} {x : Int × Nat} {b : Nat} (h : Blk t p e x b) (hl : e ≤ (ze t p).length) (u : Int → List Rat) : ∀ c, c < zd t p x.1 → (zBh t p u).getD (x.2 + c) 0 = (zBh t p u).getD b 0 * (u x.1).getD c 0 := by
 intro c hc
 have h1 := h.fin
 have h2 := h.lt
 unfold zBh
 rw [zDJ _ _ (show x.2 + c < (ze t p).length by omega), h.seqs c hc]
 unfold zDd
 simp only
 rw [if_neg (by omega), Int.toNat_natCast, Int.toNat_natCast, zG8 _ _ (show b < x.2 + c by omega) (show b < (ze t p).length by omega)]
/-- a strategy that need not have short zAm -/
structure Mix (t : zT) (p : Int) (u : Int → List Rat) : Prop where
 len : ∀ x ∈ zf t p, (u x).length = zd t p x
 sum : ∀ x ∈ zf t p, zAy 0 (u x) = 1
 nn : ∀ x ∈ zf t p, ∀ q ∈ u x, 0 ≤ q
theorem plan_nn {t : zT} (hv : Valid t) {p : Int} {u : Int → List Rat} (hu : Mix t p u) : ∀ k, k < (ze t p).length → 0 ≤ (zBh t p u).getD k 0 := by
 intro k
 induction k using Nat.strongRecOn with
 | ind k ih =>
   intro hk
   rcases Nat.eq_zero_or_pos k with e | e
   · subst e
     rw [zGZ hv]; decide +kernel
   · obtain ⟨x, b, x0, x1, x2, x3, x4, x5, x6, x7⟩ := seq_at hv e hk
     have hs := x7 (k - x.2) (by omega)
     rw [show x.2 + (k - x.2) = k by omega] at hs
     have h2 := ih b (by omega) (by omega)
     unfold zBh at h2 ⊢
     rw [zDJ _ _ hk, hs]
     unfold zDd
     simp only
     rw [if_neg (by omega), Int.toNat_natCast, Int.toNat_natCast]
     rw [zG8 _ _ (show b < (ze t p).length by omega) (show b < k by omega)] at h2
     exact Rat.mul_nonneg h2 (hu.nn x.1 x1 _ (zAj 0 (by rw [hu.len x.1 x1]; omega)))
theorem mix_sum {t : zT} {p : Int} {u : Int → List Rat} (hu : Mix t p u) {x : Int} (hx : x ∈ zf t p) : zA6 (fun c => (u x).getD c 0) (zd t p x) = 1 := by
 rw [zIA _ _ (by rw [hu.len x hx]; exact Nat.le_refl _), List.take_of_length_le (by rw [hu.len x hx]; exact Nat.le_refl _), hu.sum x hx]
theorem zOt {t : zT} {p : Int} {e : Nat} {x : Int × Nat} {b : Nat} (h : Blk t p e x b) (hl : e ≤ (ze t p).length) (u : Int → List Rat) (S : List Rat) :
   zFs (zBh t p u) S e = zFs (zBh t p u) S x.2 + (zBh t p u).getD b 0 * zA6 (fun c => (u x.1).getD c 0 * S.getD (x.2 + c) 0) (zd t p x.1) := by
 unfold zFs
 rw [← h.fin, zLn, ← zMl]
 congr 1
 refine zBM (fun c hc => ?_)
 rw [h.plan hl u c hc, Rat.mul_assoc]
theorem zLz {t : zT} {p : Int} {e : Nat} {x : Int × Nat} {b : Nat} (h : Blk t p e x b) (P S : List Rat) (y : Rat) (hS : e ≤ S.length) : zFs P (S.set b (S.getD b 0 + y)) x.2 = zFs P S x.2 + P.getD b 0 * y := by
 have h1 := h.fin
 have h2 := h.lt
 exact zOV y h.lt (by omega)
/-- No strategy gets more. -/
theorem zOx {t : zT} (hv : Valid t) {p : Int} {u : Int → List Rat} (hu : Mix t p u) : ∀ (f e : Nat) (S : List Rat) (C : List (Int × Int)), Bnd t p e → e ≤ f + 1 → S.length = (ze t p).length →
   (zDo (ze t p) f (e, S, C)).1 = 1 ∧ (zDo (ze t p) f (e, S, C)).2.1.length = (ze t p).length ∧ zFs (zBh t p u) S e ≤ zFs (zBh t p u) (zDo (ze t p) f (e, S, C)).2.1 1
 | 0, e, S, C, hb, hf, hS => by
   have := hb.one
   obtain rfl : e = 1 := by omega
   exact ⟨rfl, hS, Rat.le_refl⟩
 | f + 1, e, S, C, hb, hf, hS => by
   rw [zDo]
   split
   · rename_i he
     have he : 1 < e := he
     obtain ⟨x, b, hB⟩ := hb.blk hv he
     have hl := hb.le
     have h1 := hB.fin
     have h2 := hB.w1
     have h3 := hB.lt
     rw [hB.step S C]
     obtain ⟨g1, g2, g3⟩ := zOx hv hu f x.2 (S.set b (S.getD b 0 + S.getD (zAX S x.2 (zd t p x.1)) 0)) (C ++ [(x.1, ((zAX S x.2 (zd t p x.1) - x.2 : Nat) : Int))]) hB.bnd (by omega) (by rw [List.length_set]; exact hS)
     refine ⟨g1, g2, Rat.le_trans ?_ g3⟩
     rw [zLz hB _ _ _ (by omega), zOt hB hl]
     refine (Rat.add_le_add_left (c := _)).2 (Rat.mul_le_mul_of_nonneg_left ?_ (plan_nn hv hu b (by omega)))
     have hm := zKq (n := zd t p x.1) (f := fun c => (u x.1).getD c 0 * S.getD (x.2 + c) 0) (g := fun c => (u x.1).getD c 0 * S.getD (zAX S x.2 (zd t p x.1)) 0) (fun c hc => Rat.mul_le_mul_of_nonneg_left (zJ4 S x.2 _ c hc) (hu.nn x.1 hB.info _ (zAj 0 (by rw [hu.len x.1 hB.info]; exact hc))))
     rw [zK4, mix_sum hu hB.info, Rat.one_mul] at hm
     exact hm
   · rename_i he
     have he : ¬ 1 < e := he
     have := hb.one
     obtain rfl : e = 1 := by omega
     exact ⟨rfl, hS, Rat.le_refl⟩
theorem zML (l : List RSeq) {y : Int × Int} : ∀ (f : Nat) (st : BSt), y ∈ st.2.2 → y ∈ (zDo l f st).2.2
 | 0, st, h => h
 | f + 1, st, h => by
   rw [zDo]
   split
   · exact zML l f _ (List.mem_append_left _ h)
   · exact h
def zEg (w c : Nat) : List Rat := (List.replicate w 0).set c 1
theorem zMy {w c : Nat} (hc : c < w) (M : Nat → Rat) : zA6 (fun j => (zEg w c).getD j 0 * M j) w = M c := by
 rw [← zD0 (f := M) hc]
 refine zBM (fun j hj => ?_)
 unfold zEg
 rw [Go.Ax.Dt.getD_set, List.length_replicate]
 by_cases h : j = c
 · subst h
   rw [if_pos ⟨rfl, hc⟩, if_pos rfl, Rat.one_mul]
 · have : (List.replicate w (0 : Rat)).getD j 0 = 0 := by
     simp only [List.getD, List.getElem?_replicate]
     split <;> rfl
   rw [if_neg (fun q => h q.1), if_neg h, this, Rat.zero_mul]
/-- The strategy of the best choices gets as much. -/
theorem zN4 {t : zT} (hv : Valid t) {p : Int} {u : Int → List Rat} : ∀ (f e : Nat) (S : List Rat) (C : List (Int × Int)), Bnd t p e → e ≤ f + 1 → S.length = (ze t p).length →
   (∀ y ∈ (zDo (ze t p) f (e, S, C)).2.2, u y.1 = zEg (zd t p y.1) y.2.toNat) → zFs (zBh t p u) S e = zFs (zBh t p u) (zDo (ze t p) f (e, S, C)).2.1 1
 | 0, e, S, C, hb, hf, hS, hu => by
   have := hb.one
   obtain rfl : e = 1 := by omega
   rfl
 | f + 1, e, S, C, hb, hf, hS, hu => by
   rw [zDo] at hu ⊢
   split
   · rename_i he
     rw [if_pos he] at hu
     have he : 1 < e := he
     obtain ⟨x, b, hB⟩ := hb.blk hv he
     have hl := hb.le
     have h1 := hB.fin
     have h2 := hB.w1
     have h3 := hB.lt
     rw [hB.step S C] at hu ⊢
     have g3 := zN4 hv (u := u) f x.2 (S.set b (S.getD b 0 + S.getD (zAX S x.2 (zd t p x.1)) 0)) (C ++ [(x.1, ((zAX S x.2 (zd t p x.1) - x.2 : Nat) : Int))]) hB.bnd (by omega) (by rw [List.length_set]; exact hS) hu
     rw [← g3, zLz hB _ _ _ (by omega), zOt hB hl]
     have hux := hu _ (zML _ f _ (List.mem_append_right _ (List.mem_singleton.2 rfl)))
     rw [Int.toNat_natCast] at hux
     obtain ⟨q1, _, q3⟩ := zD2 S x.2 (zd t p x.1)
     have q3 := q3 h2
     have hus := zMy (w := zd t p x.1) (c := zAX S x.2 (zd t p x.1) - x.2) (by omega) (fun c => S.getD (x.2 + c) 0)
     rw [show x.2 + (zAX S x.2 (zd t p x.1) - x.2) = zAX S x.2 (zd t p x.1) by omega] at hus
     have hux : u x.1 = _ := hux
     rw [hux, hus]
   · rename_i he
     have he : ¬ 1 < e := he
     have := hb.one
     obtain rfl : e = 1 := by omega
     rfl
/-- What the found choices are: one for each set. -/
structure Chosen (t : zT) (p : Int) (e : Nat) (C : List (Int × Int)) : Prop where
 nd : (C.map Prod.fst).Nodup
 old : ∀ y ∈ C, ∃ x ∈ zIE t p, x.1 = y.1 ∧ e ≤ x.2
 all : ∀ x ∈ zIE t p, e ≤ x.2 → x.1 ∈ C.map Prod.fst
 rng : ∀ y ∈ C, 0 ≤ y.2 ∧ y.2.toNat < zd t p y.1
theorem Chosen.top {t : zT} (hv : Valid t) (p : Int) : Chosen t p (ze t p).length [] :=
 ⟨List.nodup_nil, fun y hy => by simp at hy, fun x hx h => by
   obtain ⟨h1, h2, _⟩ := (RI.all_n hv p t.length (Nat.le_refl _)).fst x hx
   have hk : x.1 ∈ zf t p := (zBp hv).2 (((RI.all_n hv p t.length (Nat.le_refl _)).keys x.1).1 (List.mem_map.2 ⟨x, hx, rfl⟩))
   obtain ⟨j, hj, hs⟩ := (zBp hv).1 hk
   have hw := zDc hv hj hs
   unfold zA4 at hs
   rw [Bool.and_eq_true] at hs
   have := (hv.mine hj hs.1).2.2
   have e : (ze t p).length = (zAE t p t.length).seqs.length := rfl
   omega, fun y hy => by simp at hy⟩
theorem Blk.new {t : zT} (hv : Valid t) {p : Int} {e : Nat} {x : Int × Nat} {b : Nat} (h : Blk t p e x b) {C : List (Int × Int)} (hC : Chosen t p e C) : x.1 ∉ C.map Prod.fst := by
 intro hm
 obtain ⟨y, hy, hyx⟩ := List.mem_map.1 hm
 obtain ⟨z, hz, hzy, hze⟩ := hC.old y hy
 have := zOS (RI.all_n hv p t.length (Nat.le_refl _)).nd hz h.mem (by rw [hzy, hyx])
 subst this
 have := h.fin
 have := h.w1
 omega
theorem Blk.chosen {t : zT} (hv : Valid t) {p : Int} {e : Nat} {x : Int × Nat} {b c : Nat} (h : Blk t p e x b) {C : List (Int × Int)} (hC : Chosen t p e C) (hc : c < zd t p x.1) : Chosen t p x.2 (C ++ [(x.1, (c : Int))]) := by
 have h1 := h.fin
 have h2 := h.w1
 refine ⟨?_, fun y hy => ?_, fun z hz hle => ?_, fun y hy => ?_⟩
 · rw [List.map_append, List.nodup_append]
   refine ⟨hC.nd, by simp, fun a ha b' hb' e' => ?_⟩
   have : b' = x.1 := by simpa using hb'
   rw [e', this] at ha
   exact h.new hv hC ha
 · rcases List.mem_append.1 hy with q | q
   · obtain ⟨z, z1, z2, z3⟩ := hC.old y q
     exact ⟨z, z1, z2, by omega⟩
   · rw [List.mem_singleton.1 q]
     exact ⟨x, h.mem, rfl, Nat.le_refl _⟩
 · rw [List.map_append, List.mem_append]
   by_cases he : e ≤ z.2
   · exact .inl (hC.all z hz he)
   · right
     -- a set that begins in the block of x is x itself
     obtain ⟨z1, z2, b', b1, b2, b3⟩ := (RI.all_n hv p t.length (Nat.le_refl _)).fst z hz
     have hzi : z.1 ∈ zf t p := (zBp hv).2 (((RI.all_n hv p t.length (Nat.le_refl _)).keys z.1).1 (List.mem_map.2 ⟨z, hz, rfl⟩))
     obtain ⟨j, hj, hs⟩ := (zBp hv).1 hzi
     have hw := zDc hv hj hs
     unfold zA4 at hs
     rw [Bool.and_eq_true] at hs
     have hw1 := (hv.mine hj hs.1).2.2
     have e1 : (ze t p).getD z.2 zBZ = ⟨z.1, ((0 : Nat) : Int), b'⟩ := b3 0 (by omega)
     have e2 := h.seqs (z.2 - x.2) (by omega)
     rw [show x.2 + (z.2 - x.2) = z.2 by omega, e1] at e2
     have := congrArg RSeq.info e2
     have : z.1 = x.1 := this
     simp [this]
 · rcases List.mem_append.1 hy with q | q
   · exact hC.rng y q
   · rw [List.mem_singleton.1 q]
     exact ⟨Int.natCast_nonneg _, by rw [Int.toNat_natCast]; exact hc⟩
theorem zIg {t : zT} (hv : Valid t) {p : Int} : ∀ (f e : Nat) (S : List Rat) (C : List (Int × Int)), Bnd t p e → e ≤ f + 1 → Chosen t p e C → Chosen t p 1 (zDo (ze t p) f (e, S, C)).2.2
 | 0, e, S, C, hb, hf, hC => by
   have := hb.one
   obtain rfl : e = 1 := by omega
   exact hC
 | f + 1, e, S, C, hb, hf, hC => by
   rw [zDo]
   split
   · rename_i he
     have he : 1 < e := he
     obtain ⟨x, b, hB⟩ := hb.blk hv he
     have h1 := hB.fin
     have h2 := hB.w1
     rw [hB.step S C]
     obtain ⟨q1, _, q3⟩ := zD2 S x.2 (zd t p x.1)
     have q3 := q3 h2
     exact zIg hv f x.2 _ _ hB.bnd (by omega) (hB.chosen hv hC (by omega))
   · rename_i he
     have he : ¬ 1 < e := he
     have := hb.one
     obtain rfl : e = 1 := by omega
     exact hC
/-- reply.BestOf -/
def zA9 (t : zT) (p : Int) (o : z8) : BSt := zDo (ze t p) (ze t p).length ((ze t p).length, zFr t p o, [])
def zKm (C : List (Int × Int)) (x : Int) : Option Int := (C.find? (fun y => decide (y.1 = x))).map Prod.snd
theorem zKv {C : List (Int × Int)} (hn : (C.map Prod.fst).Nodup) {y : Int × Int} (hy : y ∈ C) : zKm C y.1 = some y.2 := by
 unfold zKm
 induction C with
 | nil => simp at hy
 | cons a r ih =>
   rw [List.map_cons, List.nodup_cons] at hn
   rw [List.find?_cons]
   rcases List.mem_cons.1 hy with e | q
   · subst e; simp
   · have : ¬ a.1 = y.1 := fun e => hn.1 (List.mem_map.2 ⟨y, q, e.symm⟩)
     rw [decide_eq_false this]
     exact ih hn.2 q
/-- the strategy of the best choices -/
def zFn (t : zT) (p : Int) (o : z8) (x : Int) : List Rat := zEg (zd t p x) ((zKm (zA9 t p o).2.2 x).getD 0).toNat
theorem zIS {t : zT} (hv : Valid t) (p : Int) (o : z8) : Chosen t p 1 (zA9 t p o).2.2 :=
 zIg hv _ _ _ _ (Bnd.top hv p) (by omega) (Chosen.top hv p)
theorem zHz {t : zT} (hv : Valid t) {p : Int} (o : z8) {x : Int} (hx : x ∈ zf t p) : ∃ c : Nat, zKm (zA9 t p o).2.2 x = some (c : Int) ∧ c < zd t p x ∧ (x, (c : Int)) ∈ (zA9 t p o).2.2 := by
 have hC := zIS hv p o
 obtain ⟨j, hj, hs⟩ := (zBp hv).1 hx
 have h := RI.all_n hv p t.length (Nat.le_refl _)
 obtain ⟨z, hz, hzx⟩ := List.mem_map.1 ((h.keys x).2 ⟨j, hj, hs⟩)
 have hm := hC.all z hz (h.fst z hz).1
 obtain ⟨y, hy, hyx⟩ := List.mem_map.1 hm
 have hyx : y.1 = x := by rw [hyx, hzx]
 have hl := zKv hC.nd hy
 obtain ⟨r1, r2⟩ := hC.rng y hy
 obtain ⟨c, hc⟩ := Int.eq_ofNat_of_zero_le r1
 rw [hyx, hc] at hl
 rw [hc, Int.toNat_natCast, hyx] at r2
 refine ⟨c, hl, r2, ?_⟩
 have : y = (x, (c : Int)) := by rw [← hyx, ← hc]
 rwa [← this]
theorem zIY {w c : Nat} (hc : c < w) : (zEg w c).length = w ∧ zAy 0 (zEg w c) = 1 ∧ (∀ q ∈ zEg w c, 0 ≤ q ∧ D 1 q) := by
 have hl : (zEg w c).length = w := by unfold zEg; rw [List.length_set, List.length_replicate]
 refine ⟨hl, ?_, fun q hq => ?_⟩
 · have h1 := zMy hc (fun _ => 1)
   rw [zBM (g := fun j => (zEg w c).getD j 0) (fun j _ => Rat.mul_one _), zIA _ _ (by rw [hl]; exact Nat.le_refl _), List.take_of_length_le (by rw [hl]; exact Nat.le_refl _)] at h1
   exact h1
 · unfold zEg at hq
   rcases List.mem_or_eq_of_mem_set hq with h | h
   · rw [(List.mem_replicate.1 h).2]
     exact ⟨Rat.le_refl, by decide, by decide⟩
   · rw [h]; exact ⟨by decide +kernel, by decide, by decide⟩
theorem best_mix {t : zT} (hv : Valid t) (p : Int) (o : z8) : Mix t p (zFn t p o) := by
 have key : ∀ x ∈ zf t p, ∃ c, c < zd t p x ∧ zFn t p o x = zEg (zd t p x) c := fun x hx => by
   obtain ⟨c, h1, h2, _⟩ := zHz hv o hx
   refine ⟨c, h2, ?_⟩
   unfold zFn; rw [h1]; rfl
 refine ⟨fun x hx => ?_, fun x hx => ?_, fun x hx => ?_⟩ <;> obtain ⟨c, c1, c2⟩ := key x hx <;> obtain ⟨f1, f2, f3⟩ := zIY c1 <;> rw [c2]
 · exact f1
 · exact f2
 · exact fun q hq => (f3 q hq).1
theorem zN5 {P S : List Rat} (h : P.getD 0 0 = 1) : zFs P S 1 = S.getD 0 0 := by
 show (0 : Rat) + P.getD 0 0 * S.getD 0 0 = _
 rw [h, Rat.zero_add, Rat.one_mul]
theorem zH8 (t : zT) (p : Int) (o : z8) : (zFr t p o).length = (ze t p).length := by
 unfold zFr; rw [zIK, List.length_replicate]
/-- ReplyMost -/
theorem zJ8 {t : zT} (hv : Valid t) {p : Int} (hp : zBb t p = true) {u : Int → List Rat} (hu : Mix t p u) {o : z8} (ho : ∀ i, i < t.length → own p (t.getD i node0) = true → o i = none) :
   (if p = 1 then -(zAb t (zC6 t p u o)) else zAb t (zC6 t p u o)) ≤ (zA9 t p o).2.1.getD 0 0 := by
 rw [← zIb hv hp u ho]
 have := (zOx hv hu (ze t p).length (ze t p).length (zFr t p o) [] (Bnd.top hv p) (by omega) (zH8 t p o)).2.2
 rwa [zN5 (zGZ hv p u)] at this
/-- ReplyGets -/
theorem zJ0 {t : zT} (hv : Valid t) {p : Int} (hp : zBb t p = true) {o : z8} (ho : ∀ i, i < t.length → own p (t.getD i node0) = true → o i = none) :
   (if p = 1 then -(zAb t (zC6 t p (zFn t p o) o)) else zAb t (zC6 t p (zFn t p o) o)) = (zA9 t p o).2.1.getD 0 0 := by
 rw [← zIb hv hp (zFn t p o) ho]
 have hC := zIS hv p o
 have := zN4 hv (u := zFn t p o) (ze t p).length (ze t p).length (zFr t p o) [] (Bnd.top hv p) (by omega) (zH8 t p o) (fun y hy => by
   show zEg _ ((zKm (zA9 t p o).2.2 y.1).getD 0).toNat = _
   rw [zKv hC.nd hy]; rfl)
 rwa [zN5 (zGZ hv p _)] at this
end Go.Ax.Rt
namespace Go.Proofs.YtnkealfaldjipaaGreatDoor
open Go.Ax Go.Ax.Bg Go.Ax.Rt Go.RowKit Go.Ax.Idx Go.Ax.Cd
attribute [local irreducible] Ax zAL QOp zM zo
set_option maxRecDepth 100000
set_option maxHeartbeats 4000000
def zBV (n : TNode) : List AV := [.int .i64 n.kind, .int .i64 n.player, .int .i64 n.info, .ro (.ints .i64 n.next) 0 n.next.length, .ro (.strs n.odds) 0 n.odds.length, .str n.pay]
abbrev zc (t : zT) : Cells := zB3 node0 6 zBV t
structure ShortN (n : TNode) : Prop where
 next : n.next.length ≤ 9223372036854775807
 odds : n.odds.length ≤ 9223372036854775807
 each : ∀ s ∈ n.odds, s.length ≤ 9223372036854775807
 pay : n.pay.length ≤ 9223372036854775807
structure ShortT (t : zT) : Prop where
 len : t.length ≤ 9223372036854775807
 node : ∀ n ∈ t, ShortN n
theorem zP6 (t : zT) (i : Nat) (k : Int) (hi : i ≤ 9223372036854775807) (hlen : t.length ≤ 9223372036854775807) : zV Tryz.prog 236 [.int .i64 k, .rp (.box [.int .i64 (i : Nat)]) 0 0, .rp (.box [.ro (zc t) 0 t.length]) 0 0] (.bool (zEX t.length i k)) := by
 refine zM.value0 (zG (P := Tryz.prog) (fn := Tryz.f236) rfl rfl (by kernel_rfl) rfl (fun c hR hfix => ?_)) (fix := fun _ => False) (fun _ h => h) rfl rfl
 repeat (first | refine zB (zH rfl) ?_ | refine zB (zK rfl) ?_ | refine zC ?_ | refine zA ?_ | refine zX ?_ | refine zJ rfl ?_ | refine zB (zHZ rfl rfl) ?_ | refine zB (zAf rfl rfl rfl rfl) ?_)
 refine zt rfl rfl (fun h => ?_) (fun h => ?_)
 · refine rn6 ?_
   refine zI hR rfl ?_
   unfold zEX
   rw [decide_eq_true h]; rfl
 · repeat (first | refine zB (zH rfl) ?_ | refine zB (zK rfl) ?_ | refine zC ?_ | refine zA ?_ | refine zAA rfl rfl ?_ | refine zAG ?_ | refine zB (zC7 rfl rfl) ?_ | refine zB (zAZ rfl rfl) ?_ | refine zB (zBK rfl rfl rfl) ?_ | refine zB (zAf rfl rfl rfl rfl) ?_)
   refine zI hR rfl ?_
   unfold zEX
   rw [decide_eq_false h, Bool.false_or]; rfl
theorem boxT1 (t : zT) : zz (.box [.ro (zc t) 0 t.length]) := by
 intro i j _ hj
 obtain rfl : j = 0 := by have hj : j < 1 := hj; omega
 rfl
theorem boxIU (n : Int) : zz (.box [.int .i64 n]) := by
 intro i j _ hj
 obtain rfl : j = 0 := by have hj : j < 1 := hj; omega
 rfl
theorem refl2 {o1 o2 : AObj} (h1 : zz o1.c) (h2 : zz o2.c) : ∀ (h : Nat) (o : AObj), ([some o1, some o2] : zQ)[h]? = some (some o) → zz o.c := by
 intro h o ho
 match h, ho with
 | 0, ho => cases ho; exact h1
 | 1, ho => cases ho; exact h2
 | _ + 2, ho => simp at ho
theorem zMb (t : zT) (i : Nat) (hi : i < t.length) (hlen : t.length ≤ 9223372036854775807) (hn : (t.getD i node0).next.length ≤ 9223372036854775807) : zV Tryz.prog 214 [.ro (zc t) 0 t.length, .int .i64 (i : Nat)] (.int .i64 (zF7 t.length i (t.getD i node0).next)) := by
 have hc := zKi (t.getD i node0).next 236 [.rp (.box [.int .i64 (i : Nat)]) 0 0, .rp (.box [.ro (zc t) 0 t.length]) 0 0] (zEX t.length i) rfl hn (fun k _ => zP6 t i k (by omega) hlen)
 refine zM.value0 (zG (P := Tryz.prog) (fn := Tryz.f214) rfl rfl (by kernel_rfl) rfl (fun c hR hfix => ?_)) (fix := fun _ => False) (fun _ h => h) rfl rfl
 repeat (first | refine zB (zK rfl) ?_ | refine zC ?_ | refine zA ?_ | refine zX ?_ | refine zJ rfl ?_ | refine zB (zCJ rfl rfl rfl rfl) ?_ | refine zB (zS rfl rfl rfl rfl rfl) ?_ | refine zB (zi rfl rfl rfl rfl (by first | (simp only [Nat.zero_add, Int.toNat_natCast, Int.toNat_zero]; exact rfl) | exact rfl) (by omega)) ?_ | refine zB (zBA rfl rfl rfl rfl rfl rfl) ?_ | refine zEu rfl rfl ?_)
 refine zAd 5 (.ro (.ints .i64 (t.getD i node0).next) 0 (t.getD i node0).next.length) rfl (AEq.of_eq rfl) ?_
 generalize (t.getD i node0).next = l at *
 unfold zF7 at hR
 refine rn4 ?_
 refine zF rfl (fun h1 => ?_) (fun h1 => ?_)
 · rw [if_pos (by omega)] at hR
   refine rn6 ?_
   exact zI hR rfl rfl
 rw [if_neg (by omega)] at hR
 refine rn6 ?_
 refine zF rfl (fun h2 => ?_) (fun h2 => ?_)
 · rw [if_pos (by omega)] at hR
   refine rn6 ?_
   exact zI hR rfl rfl
 rw [if_neg (by omega)] at hR
 repeat (first | refine zB (zH rfl) ?_ | refine zX ?_ | refine zJ rfl ?_ | refine zB (zHu rfl) ?_)
 refine zGI rfl rfl rfl rfl hc (refl2 (o1 := ⟨22, .box [.ro (zc t) 0 t.length]⟩) (o2 := ⟨3, .box [.int .i64 (i : Nat)]⟩) (boxT1 _) (boxIU _)) ⟨trivial, ⟨fun o ho => by simp at ho; subst ho; exact Nat.zero_lt_one, fun o ho => by simp at ho; subst ho; exact Nat.zero_lt_one, trivial⟩, trivial⟩ rfl rfl rfl ?_
 generalize l.any (zEX t.length i) = b at *
 cases b
 · rw [if_neg (by decide)] at hR
   refine rn5 ?_
   exact zI hR rfl rfl
 · rw [if_pos rfl] at hR
   refine rn6 ?_
   exact zI hR rfl rfl
end Go.Proofs.YtnkealfaldjipaaGreatDoor
namespace Go.Proofs.YtnkealfaldjipaaGreatDoor
open Go.Ax Go.Ax.Bg Go.Ax.Rt Go.RowKit Go.Ax.Idx Go.Ax.Cd
attribute [local irreducible] Ax zAL QOp zM zo
set_option maxRecDepth 100000
set_option maxHeartbeats 4000000
theorem node_ok (t : zT) (i : Nat) (hi : i < t.length) (hlen : t.length ≤ 9223372036854775807) (hs : ShortN (t.getD i node0)) : zV Tryz.prog 180 [.ro (zc t) 0 t.length, .int .i64 (i : Nat)] (.int .i64 (zDp t.length i (t.getD i node0))) := by
 have cc := zMb t i hi hlen hs.next
 have cp := zH4 (t.getD i node0).pay hs.pay
 have co := zOy (t.getD i node0).odds hs.odds hs.each
 obtain ⟨s1, s2, s3, s4⟩ := hs
 refine zM.value0 (zG (P := Tryz.prog) (fn := Tryz.f180) rfl rfl (by kernel_rfl) rfl (fun c hR hfix => ?_)) (fix := fun _ => False) (fun _ h => h) rfl rfl
 refine rn6 ?_
 refine zL 10 (.agg (zBV (t.getD i node0))) rfl (AEq.of_eq rfl) ?_
 generalize t.getD i node0 = n at *
 obtain ⟨kd, pl, nf, nx, od, py⟩ := n
 simp only at *
 unfold zDp at hR
 refine zR (c' := .box [.int .i64 kd, .int .i64 pl, .int .i64 nf, .ro (.ints .i64 nx) 0 nx.length, .ro (.strs od) 0 od.length, .str py]) rfl rfl rfl rfl rfl Nat.zero_lt_one rfl rfl (fun i' j' hi' hj' => ?_) ?_
 · rw [if_pos (Nat.lt_one_iff.1 hi')]; rfl
 simp only at hR
 refine rn5 ?_
 refine zF rfl (fun h0 => ?_) (fun h0 => ?_)
 · rw [if_pos h0] at hR
   refine rn5 ?_
   refine zt rfl rfl (fun g1 => ?_) (fun g1 => ?_)
   · rw [if_pos (.inl g1)] at hR
     refine rn6 ?_
     exact zI hR rfl rfl
   refine rn5 ?_
   refine zt rfl rfl (fun g2 => ?_) (fun g2 => ?_)
   · rw [if_pos (.inr (.inl g2))] at hR
     refine rn6 ?_
     exact zI hR rfl rfl
   refine rn6 ?_
   refine zt rfl rfl (fun g3 => ?_) (fun g3 => ?_)
   · rw [if_pos (.inr (.inr (.inl (by rintro rfl; simp at g3))))] at hR
     refine rn6 ?_
     exact zI hR rfl rfl
   refine rn6 ?_
   refine zF rfl (fun g4 => ?_) (fun g4 => ?_)
   · rw [if_pos (.inr (.inr (.inr (by rintro rfl; simp at g4))))] at hR
     refine rn6 ?_
     exact zI hR rfl rfl
   rw [if_neg (by
     rintro (q | q | q | q)
     · exact g1 q
     · exact g2 q
     · have := List.length_pos_iff.2 q; omega
     · have := List.length_pos_iff.2 q; omega)] at hR
   refine rn5 ?_
   refine zD rfl rfl rfl cp ?_
   refine rn6 ?_
   exact zI hR rfl rfl
 rw [if_neg h0] at hR
 refine rn4 ?_
 refine zF rfl (fun h1 => ?_) (fun h1 => ?_)
 · rw [if_pos h1] at hR
   refine rn5 ?_
   refine zt rfl rfl (fun g1 => ?_) (fun g1 => ?_)
   · rw [if_pos (.inl g1)] at hR
     refine rn6 ?_
     exact zI hR rfl rfl
   refine rn5 ?_
   refine zt rfl rfl (fun g2 => ?_) (fun g2 => ?_)
   · rw [if_pos (.inr (.inl g2))] at hR
     refine rn6 ?_
     exact zI hR rfl rfl
   repeat (first | refine zC ?_ | refine zA ?_ | refine zAA rfl rfl ?_ | refine zB (zS rfl rfl rfl rfl rfl) ?_ | refine zB (zAZ rfl rfl) ?_ | refine zB (zF0 rfl rfl) ?_ | refine zB (zP rfl rfl rfl rfl rfl rfl) ?_)
   refine zF rfl (fun g3 => ?_) (fun g3 => ?_)
   · rw [if_pos (.inr (.inr g3))] at hR
     refine rn6 ?_
     exact zI hR rfl rfl
   rw [if_neg (by
     rintro (q | q | q)
     · exact g1 q
     · exact g2 q
     · exact g3 q)] at hR
   refine rn1 ?_
   refine zD rfl rfl rfl cc ?_
   refine rn3 ?_
   refine zF rfl (fun h3 => ?_) (fun h3 => ?_)
   · rw [if_pos h3] at hR
     refine rn6 ?_
     exact zI hR rfl rfl
   rw [if_neg h3] at hR
   refine rn5 ?_
   refine zF rfl (fun h4 => ?_) (fun h4 => ?_)
   · rw [if_pos (by omega)] at hR
     refine rn6 ?_
     exact zI hR rfl rfl
   rw [if_neg (by omega)] at hR
   refine rn5 ?_
   refine zD rfl rfl rfl co ?_
   refine rn6 ?_
   exact zI hR rfl rfl
 rw [if_neg h1] at hR
 refine rn4 ?_
 refine zF rfl (fun h2 => ?_) (fun h2 => ?_)
 · rw [if_pos h2] at hR
   refine rn6 ?_
   refine zt rfl rfl (fun g1 => ?_) (fun g1 => ?_)
   · rw [if_pos (.inl (by rintro rfl; simp at g1))] at hR
     refine rn6 ?_
     exact zI hR rfl rfl
   repeat (first | refine zC ?_ | refine zA ?_ | refine zAA rfl rfl ?_ | refine zB (zS rfl rfl rfl rfl rfl) ?_ | refine zB (zAZ rfl rfl) ?_ | refine zB (zF0 rfl rfl) ?_ | refine zB (zP rfl rfl rfl rfl rfl rfl) ?_)
   refine zF rfl (fun g2 => ?_) (fun g2 => ?_)
   · rw [if_pos (.inr g2)] at hR
     refine rn6 ?_
     exact zI hR rfl rfl
   rw [if_neg (by
     rintro (q | q)
     · have := List.length_pos_iff.2 q; omega
     · exact g2 q)] at hR
   refine rn5 ?_
   refine zt rfl rfl (fun g3 => ?_) (fun g3 => ?_)
   · refine rn5 ?_
     refine zt rfl rfl (fun g4 => ?_) (fun g4 => ?_)
     · rw [if_pos (.inl ⟨g3, g4⟩)] at hR
       refine rn6 ?_
       exact zI hR rfl rfl
     refine rn5 ?_
     refine zt rfl rfl (fun g5 => ?_) (fun g5 => ?_)
     · rw [if_pos (.inr (.inl g5))] at hR
       refine rn6 ?_
       exact zI hR rfl rfl
     repeat (first | refine zC ?_ | refine zA ?_ | refine zAA rfl rfl ?_ | refine zB (zS rfl rfl rfl rfl rfl) ?_ | refine zB (zC7 rfl rfl) ?_ | refine zB (zAZ rfl rfl) ?_ | refine zB (zP rfl rfl rfl rfl rfl rfl) ?_)
     refine zF rfl (fun g6 => ?_) (fun g6 => ?_)
     · rw [if_pos (.inr (.inr g6))] at hR
       refine rn6 ?_
       exact zI hR rfl rfl
     rw [if_neg (by
       rintro (q | q | q)
       · exact g4 q.2
       · exact g5 q
       · exact g6 q)] at hR
     refine rn1 ?_
     refine zD rfl rfl rfl cc ?_
     refine rn6 ?_
     exact zI hR rfl rfl
   · refine rn6 ?_
     refine zt rfl rfl (fun g5 => ?_) (fun g5 => ?_)
     · rw [if_pos (.inr (.inl g5))] at hR
       refine rn6 ?_
       exact zI hR rfl rfl
     repeat (first | refine zC ?_ | refine zA ?_ | refine zAA rfl rfl ?_ | refine zB (zS rfl rfl rfl rfl rfl) ?_ | refine zB (zC7 rfl rfl) ?_ | refine zB (zAZ rfl rfl) ?_ | refine zB (zP rfl rfl rfl rfl rfl rfl) ?_)
     refine zF rfl (fun g6 => ?_) (fun g6 => ?_)
     · rw [if_pos (.inr (.inr g6))] at hR
       refine rn6 ?_
       exact zI hR rfl rfl
     rw [if_neg (by
       rintro (q | q | q)
       · exact g3 q.1
       · exact g5 q
       · exact g6 q)] at hR
     refine rn1 ?_
     refine zD rfl rfl rfl cc ?_
     refine rn6 ?_
     exact zI hR rfl rfl
 · rw [if_neg h2] at hR
   refine rn5 ?_
   exact zI hR rfl rfl
end Go.Proofs.YtnkealfaldjipaaGreatDoor
namespace Go.Proofs.YtnkealfaldjipaaGreatDoor
open Go.Ax Go.Ax.Bg Go.Ax.Rt Go.RowKit Go.Ax.Idx Go.Ax.Cd
attribute [local irreducible] Ax zAL QOp zM zo
set_option maxRecDepth 100000
set_option maxHeartbeats 4000000
theorem chk1_ok (n : Int) : zV Tryz.prog 182 [.int .i64 n] (.bool (decide (n ≠ 1))) := by
 refine zM.value0 (zG (P := Tryz.prog) (fn := Tryz.f182) rfl rfl (by kernel_rfl) rfl (fun c hR hfix => ?_)) (fix := fun _ => False) (fun _ h => h) rfl rfl
 refine rn3 ?_
 exact zI hR rfl rfl
def zIF (e : Int × Int × Nat) : AV := .agg [.int .i64 e.1, .int .i64 e.2.1]
def lenV (e : Int × Int × Nat) : AV := .int .i64 (e.2.2 : Nat)
abbrev szC (S : KSz) : Cells := .mp (S.map zIF) (S.map lenV)
theorem keysV (S : KSz) : ∀ x ∈ S.map zIF, zC1 (.pair .i64) x = true := by
 intro x hx
 obtain ⟨e, _, rfl⟩ := List.mem_map.1 hx
 rfl
theorem set_same {l : List AV} {j : Nat} {v : AV} (h : l[j]? = some v) : l.set j v = l := by
 apply List.ext_getElem?
 intro i
 by_cases e : j = i
 · subst e
   obtain ⟨hj, _⟩ := List.getElem?_eq_some_iff.1 h
   rw [List.getElem?_set_self hj, h]
 · rw [List.getElem?_set_ne e]
theorem zBu {α : Type} {n : Nat} {f : α → AV} (hf : ∀ x, zCq n (f x) = true) : ∀ l : List α, zBq n (l.map f) = true
 | [] => rfl
 | a :: r => by
   show (zCq n (f a) && zBq n (r.map f)) = true
   rw [hf a, zBu hf r]; rfl
theorem zEL {α : Type} {f : α → AV} (hf : ∀ x, noRef (f x) = true) : ∀ l : List α, noRef.noRefs (l.map f) = true
 | [] => rfl
 | a :: r => by
   show (noRef (f a) && noRef.noRefs (r.map f)) = true
   rw [hf a, zEL hf r]; rfl
theorem zDE {n : Nat} {t : TypeId} {c : Cells} (hc : zA2 n c) : ∀ (h : Nat) (o : AObj), ([some ⟨t, c⟩] : zQ)[h]? = some (some o) → zA2 n o.c := by
 intro h o ho
 match h, ho with
 | 0, ho => cases ho; exact hc
 | _ + 1, ho => simp at ho
theorem zJp (S : KSz) (n : Nat) : zA2 n (szC S) := ⟨zBu (fun _ => rfl) S, zBu (fun _ => rfl) S⟩
theorem zKz (t : zT) (hT : ShortT t) : zV Tryz.prog 126 [.ro (zc t) 0 t.length] (.int .i64 (zFk t)) := by
 have hlen := hT.len
 refine zM.value0 (zG (P := Tryz.prog) (fn := Tryz.f126) rfl rfl (by kernel_rfl) rfl (fun c hR hfix => ?_)) (fix := fun _ => False) (fun _ h => h) rfl rfl
 unfold zFk at hR
 refine rn6 ?_
 refine zF rfl (fun h1 => ?_) (fun h1 => ?_)
 · rw [if_pos (by omega)] at hR
   refine rn2 ?_
   exact zI hR rfl rfl
 rw [if_neg (by omega)] at hR
 refine rn4 ?_
 refine zF rfl (fun h2 => ?_) (fun h2 => ?_)
 · rw [if_pos (by omega)] at hR
   refine rn2 ?_
   exact zI hR rfl rfl
 rw [if_neg (by omega)] at hR
 have hN : t.length ≤ 120 := by omega
 have hN0 : t.length ≠ 0 := by omega
 refine rn3 ?_
 refine zCE rfl rfl rfl rfl rfl rfl rfl rfl (by show 0 ≤ _ ∧ _ ≤ _ ∧ (8 : Int) * _ ≤ _ ∧ _; omega) ?_
 refine rn3 ?_
 refine zk (ι := Nat) (fun i => [(0, .ro (zc t) 0 t.length), (3, .sl 0 0 t.length), (23, .ro (zc t) 0 t.length), (24, .int .i64 (t.length : Nat)), (25, .int .i64 (i : Nat))]) (fun i => [some ⟨3, .ints .i64 (zDb t.length (zEN t i))⟩])
   (fun i => i ≤ t.length ∧ zEY t.length 0 t = zEY t.length i (t.drop i) ∧ (zEN t i).length ≤ 6 * i) (fun i => t.length - i) 0 ⟨⟨rfl, rfl, rfl, rfl, rfl, trivial⟩, by show [some (⟨3, .ints .i64 (List.replicate _ 0)⟩ : AObj)] = [some ⟨3, .ints .i64 (zDb t.length [])⟩]; rw [cntT_nil]; rfl, Nat.zero_le _, by rw [List.drop_zero], by simp [zEN]⟩ ?_
 rintro i ⟨hi, hE, hF⟩
 refine rn4 ?_
 refine zF rfl (fun h3 => ?_) (fun h3 => ?_)
 · have hi' : i < t.length := by omega
   have hmem := zA7 node0 hi'
   have cn := node_ok t i hi' hlen (hT.node _ hmem)
   rw [zL3 hi'] at hE
   have hfs := zNZ hi'
   refine rn1 ?_
   refine zD rfl rfl rfl cn ?_
   refine rn3 ?_
   refine zF rfl (fun h4 => ?_) (fun h4 => ?_)
   · rw [if_neg h4] at hE
     rw [if_pos (by rw [hE]; exact h4), hE] at hR
     refine rn6 ?_
     exact zI hR rfl rfl
   rw [if_pos (Classical.not_not.1 h4)] at hE
   obtain ⟨q1, q2⟩ := zM8 (Classical.not_not.1 h4)
   have hl9 : (t.getD i node0).next.length ≤ 9223372036854775807 := by omega
   repeat (first | refine zA ?_ | refine zX ?_ | refine zl ?_)
   refine zJ rfl ?_
   repeat (first | refine zB (zH rfl) ?_ | refine zC ?_ | refine zA ?_ | refine zB (zCJ rfl rfl rfl rfl) ?_ | refine zB (zBK rfl rfl rfl) ?_ | refine zB (zi rfl rfl rfl rfl (by first | (simp only [Nat.zero_add, Int.toNat_natCast, Int.toNat_zero]; exact rfl) | exact rfl) (by omega)) ?_ | refine zB (zBA rfl rfl rfl rfl rfl rfl) ?_)
   refine zAd 38 (.ro (.ints .i64 (t.getD i node0).next) 0 (t.getD i node0).next.length) rfl (AEq.of_eq rfl) ?_
   generalize (t.getD i node0).next = l at *
   repeat (refine zAB ?_)
   refine zk (ι := Nat) (fun j => [(0, .ro (zc t) 0 t.length), (3, .sl 0 0 t.length), (23, .ro (zc t) 0 t.length), (24, .int .i64 (t.length : Nat)), (25, .int .i64 (i : Nat)), (38, .ro (.ints .i64 l) 0 l.length), (39, .int .i64 (l.length : Nat)), (40, .int .i64 (j : Nat))]) (fun j => [some ⟨3, .ints .i64 (zDb t.length (zEN t i ++ l.take j))⟩])
     (fun j => j ≤ l.length) (fun j => l.length - j) 0 ⟨⟨rfl, rfl, rfl, rfl, rfl, rfl, rfl, rfl, trivial⟩, by rw [List.take_zero, List.append_nil], Nat.zero_le _⟩ ?_
   intro j hj
   refine rn4 ?_
   refine zF rfl (fun h5 => ?_) (fun h5 => ?_)
   · have hj' : j < l.length := by omega
     obtain ⟨b1, b2⟩ := q1 _ (zAj 0 hj')
     have hs := zP5 (zEN t i ++ l.take j) (x := l.getD j 0) (by omega) b2
     rw [List.append_assoc, ← zCi hj'] at hs
     have hb := cntT_le t.length (zEN t i ++ l.take j) (l.getD j 0).toNat
     have hll : (zEN t i ++ l.take j).length ≤ 6 * i + 6 := by rw [List.length_append, List.length_take]; omega
     have hcl := zEC t.length (zEN t i ++ l.take j)
     have hlt : (l.getD j 0).toNat < (zDb t.length (zEN t i ++ l.take j)).length := by omega
     generalize zDb t.length (zEN t i ++ l.take j) = C at *
     repeat (first | refine zB (zH rfl) ?_ | refine zB (zK rfl) ?_ | refine zB (zA8 rfl rfl rfl) ?_ | refine zC ?_ | refine zA ?_ | refine zX ?_ | refine zJ rfl ?_ | refine zg ?_ | refine zAB ?_ | refine zl ?_ | refine zB (zC3 rfl rfl (by omega)) ?_ | refine zB (zi rfl rfl rfl rfl (by first | (simp only [Nat.zero_add, Int.toNat_natCast, Int.toNat_zero]; exact rfl) | exact rfl) (by omega)) ?_ | refine zB (zZ rfl rfl rfl rfl rfl (by first | (simp only [Nat.zero_add, Int.toNat_natCast, Int.toNat_zero]; exact rfl) | exact rfl) (by omega)) ?_ | refine zB (zAH rfl rfl rfl rfl (by first | assumption | omega)) ?_ | refine zAh rfl rfl rfl rfl rfl rfl rfl (by first | assumption | (show _ < List.length _; first | assumption | omega)) ?_)
     exact zO ⟨j + 1, by omega, by omega, ⟨rfl, rfl, rfl, rfl, rfl, rfl, rfl, rfl, trivial⟩, by rw [hs]; rfl⟩
   · have hje : j = l.length := by omega
     subst hje
     rw [List.take_length, ← hfs]
     refine rn5 ?_
     exact zO ⟨i + 1, ⟨by omega, hE, by rw [hfs, List.length_append]; omega⟩, by omega, ⟨rfl, rfl, rfl, rfl, rfl, trivial⟩, rfl⟩
 have hie : i = t.length := by omega
 subst hie
 rw [List.drop_length] at hE
 have hE0 : zEY t.length 0 t = 0 := hE
 rw [if_neg (by rw [hE0]; exact fun q => q rfl)] at hR
 have hfl : zEN t t.length = t.flatMap TNode.next := by unfold zEN; rw [List.take_length]
 rw [hfl]
 have hall := zPB hN0
 rw [← hall] at hR
 have hcl := zEC t.length (t.flatMap TNode.next)
 generalize zDb t.length (t.flatMap TNode.next) = C at *
 have cc := zKi (C.drop 1) 182 [] (fun n => decide (n ≠ 1)) rfl (by rw [List.length_drop]; omega) (fun n _ => chk1_ok n)
 repeat (first | refine zA ?_ | refine zX ?_ | refine zA0 ?_ | refine zx ?_ | refine zw ?_ | refine zAN ?_)
 refine zBE 0 3 t.length [(0, .ro (zc t) 0 t.length)] rfl zAR rfl (by show t.length ≤ C.length; omega) ⟨rfl, trivial⟩ ?_
 refine zAz [] [none] [(0, .ro (zc t) 0 t.length), (3, .ro (.ints .i64 C) 0 t.length)] rfl ⟨rfl, rfl, trivial⟩ (fun h hh => by rw [hfix] at hh; exact absurd hh id) (fun h o ho => by simp at ho) rfl ?_
 repeat (first | refine zB (zH rfl) ?_ | refine zJ rfl ?_ | refine zB (zJZ rfl rfl rfl rfl rfl rfl rfl (by omega)) ?_)
 refine zL 53 (.ro (.ints .i64 (C.drop 1)) 0 (C.drop 1).length) rfl (AEq.trans (AEq.drop (k := .i64) (l := C) (i := 1) (n := ((t.length : Int) - 1).toNat)) (AEq.of_eq (by rw [List.length_drop, hcl]; congr 1; omega))) ?_
 refine zD rfl rfl rfl cc ?_
 generalize (C.drop 1).any (fun n => decide (n ≠ 1)) = b at *
 cases b
 case true =>
   rw [if_pos rfl] at hR
   refine rn5 ?_
   exact zI hR rfl rfl
 rw [if_neg (by decide)] at hR
 refine rn4 ?_
 refine zEO ?_
 refine rn3 ?_
 refine zk (ι := Nat × KSz) (fun x => [(0, .ro (zc t) 0 t.length), (8, .mp 0), (56, .ro (zc t) 0 t.length), (57, .int .i64 (t.length : Nat)), (58, .int .i64 (x.1 : Nat))]) (fun x => [some ⟨262, szC x.2⟩])
   (fun x => x.1 ≤ t.length ∧ KInv (t.take x.1) x.2) (fun x => t.length - x.1) (0, []) ⟨⟨rfl, rfl, rfl, rfl, rfl, trivial⟩, rfl, Nat.zero_le _, KInv.nil⟩ ?_
 rintro ⟨k, S⟩ ⟨hk, hK⟩
 simp only at hk hK
 refine rn4 ?_
 refine zF rfl (fun h5 => ?_) (fun h5 => ?_)
 · have hk' : k < t.length := by omega
   have hmem := zA7 node0 hk'
   have hsn := hT.node _ hmem
   have htk := zNT hk'
   have hpre : ∀ a ∈ t.take k, a ∈ t := fun a ha => List.mem_of_mem_take ha
   have hskip := @KInv.skip (t.take k) S (t.getD k node0) hK
   have hhit := fun e => @KInv.hit (t.take k) S (t.getD k node0) e hK
   have hmiss := @KInv.miss (t.take k) S (t.getD k node0) hK
   have hbad := fun e => @KInv.bad (t.take k) t S (t.getD k node0) e hK hpre hmem
   rw [← htk] at hskip hhit hmiss
   obtain ⟨s1, s2, s3, s4⟩ := hsn
   refine rn6 ?_
   refine zL 61 (.agg (zBV (t.getD k node0))) rfl (AEq.of_eq rfl) ?_
   generalize t.getD k node0 = n at *
   obtain ⟨kd, pl, nf, nx, od, py⟩ := n
   simp only at *
   refine zR (c' := .box [.int .i64 kd, .int .i64 pl, .int .i64 nf, .ro (.ints .i64 nx) 0 nx.length, .ro (.strs od) 0 od.length, .str py]) rfl rfl rfl rfl rfl Nat.zero_lt_one rfl rfl (fun i' j' hi' hj' => ?_) ?_
   · rw [if_pos (Nat.lt_one_iff.1 hi')]; rfl
   refine rn5 ?_
   refine zF rfl (fun g1 => ?_) (fun g1 => ?_)
   · repeat (first | refine zA0 ?_ | refine zx ?_ | refine zw ?_)
     refine zA ?_
     refine zAz [some ⟨262, szC S⟩] [some ⟨40, .box [.int .i64 kd, .int .i64 pl, .int .i64 nf, .ro (.ints .i64 nx) 0 nx.length, .ro (.strs od) 0 od.length, .str py]⟩] [(0, .ro (zc t) 0 t.length), (8, .mp 0), (56, .ro (zc t) 0 t.length), (57, .int .i64 (t.length : Nat)), (58, .int .i64 (k : Nat))] rfl ⟨rfl, rfl, rfl, rfl, rfl, trivial⟩ (fun h hh => by rw [hfix] at hh; exact absurd hh id) (zDE (zJp S 1)) rfl ?_
     refine rn3 ?_
     exact zO ⟨(k + 1, S), ⟨by simp only; omega, hskip g1⟩, by simp only; omega, ⟨rfl, rfl, rfl, rfl, rfl, trivial⟩, rfl⟩
   · have hk2 : kd = 2 := Classical.not_not.1 g1
     repeat (first | refine zA ?_ | refine zX ?_ | refine zJ rfl ?_ | refine zl ?_ | refine zB (zS rfl rfl rfl rfl rfl) ?_ | refine zB (zAS rfl rfl rfl rfl rfl rfl) ?_ | refine zB (zP rfl rfl rfl rfl rfl rfl) ?_ | refine zBH rfl rfl rfl ?_)
     refine zL 69 (.agg [.int .i64 pl, .int .i64 nf]) rfl (AEq.of_eq rfl) ?_
     refine zR (c' := .box [.int .i64 pl, .int .i64 nf]) rfl rfl rfl rfl rfl Nat.zero_lt_one rfl rfl (fun i' j' hi' hj' => ?_) ?_
     · rw [if_pos (Nat.lt_one_iff.1 hi')]; rfl
     refine rn6 ?_
     refine zL 72 (zIF (pl, nf, 0)) rfl (AEq.of_eq rfl) ?_
     by_cases hm : ∃ e ∈ S, e.1 = pl ∧ e.2.1 = nf
     · obtain ⟨e, he, e1, e2⟩ := hm
       obtain ⟨j, hj, hje⟩ := List.getElem_of_mem he
       have i1 : (S.map zIF)[j]? = some (zIF (pl, nf, 0)) := by
         rw [List.getElem?_map, List.getElem?_eq_getElem hj, hje]
         show some (zIF e) = _
         unfold zIF; rw [e1, e2]
       have i2 : (S.map lenV)[j]? = some (.int .i64 (e.2.2 : Nat)) := by
         rw [List.getElem?_map, List.getElem?_eq_getElem hj, hje]; rfl
       refine zB (zBR rfl (.pair rfl rfl rfl) rfl rfl rfl rfl (keysV S) j i1 i2) ?_
       refine rn5 ?_
       refine zF rfl (fun h7 => ?_) (fun h7 => ?_)
       · rw [if_pos (hbad e hk2 he e1 e2 (by omega))] at hR
         refine rn6 ?_
         exact zI hR rfl rfl
       · have h8 : e.2.2 = nx.length := by omega
         have hset : (S.map lenV).set j (.int .i64 (nx.length : Nat)) = S.map lenV := set_same (by rw [i2, h8])
         refine rn6 ?_
         refine zL 85 (zIF (pl, nf, 0)) rfl (AEq.of_eq rfl) ?_
         refine zKJ rfl (.pair rfl rfl rfl) rfl rfl rfl rfl rfl (keysV S) j i1 ?_
         refine zAn [some ⟨262, szC (S)⟩, some ⟨40, .box [.int .i64 kd, .int .i64 pl, .int .i64 nf, .ro (.ints .i64 nx) 0 nx.length, .ro (.strs od) 0 od.length, .str py]⟩, some ⟨208, .box [.int .i64 pl, .int .i64 nf]⟩] (by rw [← hset]; rw [hset]; exact (congrArg (fun l => [some (⟨262, .mp (S.map zIF) l⟩ : AObj), some ⟨40, .box [.int .i64 kd, .int .i64 pl, .int .i64 nf, .ro (.ints .i64 nx) 0 nx.length, .ro (.strs od) 0 od.length, .str py]⟩, some ⟨208, .box [.int .i64 pl, .int .i64 nf]⟩]) hset)) ?_
         repeat (first | refine zC ?_ | refine zg ?_)
         refine zA ?_
         refine zAz [some ⟨262, szC (S)⟩] [some ⟨40, .box [.int .i64 kd, .int .i64 pl, .int .i64 nf, .ro (.ints .i64 nx) 0 nx.length, .ro (.strs od) 0 od.length, .str py]⟩, some ⟨208, .box [.int .i64 pl, .int .i64 nf]⟩] [(0, .ro (zc t) 0 t.length), (8, .mp 0), (56, .ro (zc t) 0 t.length), (57, .int .i64 (t.length : Nat)), (58, .int .i64 (k : Nat))] rfl ⟨rfl, rfl, rfl, rfl, rfl, trivial⟩ (fun h hh => by rw [hfix] at hh; exact absurd hh id) (zDE (zJp _ 1)) rfl ?_
         refine rn3 ?_
         exact zO ⟨(k + 1, S), ⟨by simp only; omega, hhit e he e1 e2 h8⟩, by simp only; omega, ⟨rfl, rfl, rfl, rfl, rfl, trivial⟩, rfl⟩
     · have hnew : zIF (pl, nf, 0) ∉ S.map zIF := by
         intro q
         obtain ⟨e, he, ee⟩ := List.mem_map.1 q
         simp only [zIF, AV.agg.injEq, List.cons.injEq, AV.int.injEq, true_and, and_true] at ee
         exact hm ⟨e, he, ee.1, ee.2⟩
       refine zB (zEq rfl (.pair rfl rfl rfl) rfl rfl rfl rfl rfl rfl rfl rfl (keysV S) hnew) ?_
       refine rn6 ?_
       refine zL 85 (zIF (pl, nf, 0)) rfl (AEq.of_eq rfl) ?_
       refine zCR rfl (.pair rfl rfl rfl) rfl rfl rfl rfl rfl (keysV S) hnew ?_
       refine zAn [some ⟨262, szC (S ++ [(pl, nf, nx.length)])⟩, some ⟨40, .box [.int .i64 kd, .int .i64 pl, .int .i64 nf, .ro (.ints .i64 nx) 0 nx.length, .ro (.strs od) 0 od.length, .str py]⟩, some ⟨208, .box [.int .i64 pl, .int .i64 nf]⟩] (by unfold szC; rw [List.map_append, List.map_append]; rfl) ?_
       repeat (first | refine zC ?_ | refine zg ?_)
       refine zA ?_
       refine zAz [some ⟨262, szC (S ++ [(pl, nf, nx.length)])⟩] [some ⟨40, .box [.int .i64 kd, .int .i64 pl, .int .i64 nf, .ro (.ints .i64 nx) 0 nx.length, .ro (.strs od) 0 od.length, .str py]⟩, some ⟨208, .box [.int .i64 pl, .int .i64 nf]⟩] [(0, .ro (zc t) 0 t.length), (8, .mp 0), (56, .ro (zc t) 0 t.length), (57, .int .i64 (t.length : Nat)), (58, .int .i64 (k : Nat))] rfl ⟨rfl, rfl, rfl, rfl, rfl, trivial⟩ (fun h hh => by rw [hfix] at hh; exact absurd hh id) (zDE (zJp _ 1)) rfl ?_
       refine rn3 ?_
       exact zO ⟨(k + 1, S ++ [(pl, nf, nx.length)]), ⟨by simp only; omega, hmiss hk2 (fun e he q => hm ⟨e, he, q⟩)⟩, by simp only; omega, ⟨rfl, rfl, rfl, rfl, rfl, trivial⟩, rfl⟩
 · have hke : k = t.length := by omega
   subst hke
   rw [List.take_length] at hK
   rw [zL1 hK.free, if_neg (by decide)] at hR
   refine rn5 ?_
   exact zI hR rfl rfl
end Go.Proofs.YtnkealfaldjipaaGreatDoor
namespace Go.Ax.Rt
open Go.Ax.Bg Go.Ax.Idx
theorem zKs {α : Type} (p : α → Bool) : ∀ l : List α, l.any p = true → zC5 p l = (l.findIdx p : Nat)
 | [], h => by simp at h
 | x :: r, h => by
   rw [zC5, List.findIdx_cons]
   cases hx : p x
   · have hr : r.any p = true := by simpa [hx] using h
     rw [zKs p r hr]
     simp only [cond_false, Bool.false_eq_true, if_false]
     rw [if_neg (by omega)]
     omega
   · rfl
theorem zQD {α : Type} (p : α → Bool) (l : List α) (h : l.any p = false) : zC5 p l = -1 := by
 have := zFB p l
 rw [h, decide_eq_false_iff_not] at this
 exact zMR p l (by omega)
def zBc (t : zT) (p : Int) (k : Nat) : List Int := ((List.range k).map (fun i : Nat => (i : Int))).filter (fun i => t.any (zA4 p i))
def zDG (t : zT) (p : Int) (k : Nat) : List Int := (zBc t p k).map (fun i => ((zd t p i : Nat) : Int))
theorem zIW (t : zT) (p : Int) (k : Nat) : zBc t p (k + 1) = if t.any (zA4 p (k : Int)) = true then zBc t p k ++ [(k : Int)] else zBc t p k := by
 unfold zBc
 rw [List.range_succ, List.map_append, List.filter_append]
 split
 · rename_i h; simp [h]
 · rename_i h; simp [h]
theorem zLo (t : zT) (p : Int) (k : Nat) : zDG t p (k + 1) = if t.any (zA4 p (k : Int)) = true then zDG t p k ++ [((zd t p (k : Int) : Nat) : Int)] else zDG t p k := by
 unfold zDG
 rw [zIW]
 split
 · simp
 · rfl
theorem zNp (t : zT) (p : Int) (k : Nat) : (zBc t p k).length ≤ k := by
 unfold zBc
 refine Nat.le_trans (List.length_filter_le _ _) (by simp)
theorem zJ6 (t : zT) (p : Int) (k : Nat) : (zDG t p k).length = (zBc t p k).length := by unfold zDG; simp
theorem zNW (t : zT) (p : Int) : zBc t p 10 = zf t p := rfl
theorem zNv (t : zT) (p : Int) : zDG t p 10 = zBY t p := rfl
theorem zNl {t : zT} {p i : Int} (h : t.any (zA4 p i) = true) : zIt t p i < t.length := by
 obtain ⟨x, hx, h2⟩ := List.any_eq_true.1 h
 exact List.findIdx_lt_length_of_exists ⟨x, hx, h2⟩
end Go.Ax.Rt
namespace Go.Proofs.YtnkealfaldjipaaGreatDoor
open Go.Ax Go.Ax.Bg Go.Ax.Rt Go.RowKit Go.Ax.Idx Go.Ax.Cd
attribute [local irreducible] Ax zAL QOp zM zo
set_option maxRecDepth 100000
set_option maxHeartbeats 4000000
theorem zQC (t : zT) (p : Int) (hT : ShortT t) : zV Tryz.prog 71 [.ro (zc t) 0 t.length, .int .i64 p] (.int .i64 (zCC t p)) := by
 have cc := zKz t hT
 refine zM.value0 (zG (P := Tryz.prog) (fn := Tryz.f71) rfl rfl (by kernel_rfl) rfl (fun c hR hfix => ?_)) (fix := fun _ => False) (fun _ h => h) rfl rfl
 unfold zCC at hR
 refine rn0 ?_
 refine zD rfl rfl rfl cc ?_
 refine rn3 ?_
 refine zF rfl (fun h1 => ?_) (fun h1 => ?_)
 · rw [if_pos h1] at hR
   refine rn2 ?_
   exact zI hR rfl rfl
 rw [if_neg h1] at hR
 refine rn3 ?_
 refine zt rfl rfl (fun g1 => ?_) (fun g1 => ?_)
 · refine rn3 ?_
   refine zF rfl (fun g2 => ?_) (fun g2 => ?_)
   · rw [if_pos ⟨g1, g2⟩] at hR
     refine rn2 ?_
     exact zI hR rfl rfl
   · rw [if_neg (fun q => g2 q.2)] at hR
     refine rn1 ?_
     exact zI hR rfl rfl
 · rw [if_neg (fun q => g1 q.1)] at hR
   refine rn6 ?_
   exact zI hR rfl rfl
theorem zJn (l : zT) (g : FuncId) (caps : List AV) (p : TNode → Bool) (hc : noRef.noRefs caps = true) (hlen : l.length ≤ 9223372036854775807) (hp : ∀ x ∈ l, zV Tryz.prog g ([.agg (zBV x)] ++ caps) (.bool (p x))) :
   zV Tryz.prog 127 [.ro (zc l) 0 l.length, .fn g caps] (.int .i64 (zC5 p l)) := by
 refine zM.value0 (zG (P := Tryz.prog) (fn := Tryz.f127) rfl rfl (by kernel_rfl) rfl (fun c hR hfix => ?_)) (fix := fun _ => False) (fun _ h => h) (by simp [noRef.noRefs, noRef, hc]) rfl
 refine rn3 ?_
 refine zk (ι := Nat) (fun k => [(0, .ro (zc l) 0 l.length), (1, .fn g caps), (7, .int .i64 (l.length : Nat)), (8, .int .i64 (k : Nat))]) (fun _ => [])
   (fun k => k ≤ l.length ∧ (l.take k).any p = false) (fun k => l.length - k) 0 ⟨⟨rfl, rfl, rfl, rfl, trivial⟩, rfl, Nat.zero_le _, rfl⟩ ?_
 intro k ⟨hk, hany⟩
 refine rn4 ?_
 refine zF rfl (fun h => ?_) (fun h => ?_)
 · have hk' : k < l.length := by omega
   have hanys := zCb p l node0 k hk'
   refine rn6 ?_
   refine zL 15 (.agg (zBV (l.getD k node0))) rfl (AEq.of_eq rfl) ?_
   refine zD rfl rfl rfl (hp _ (zA7 node0 hk')) ?_
   refine rn0 ?_
   refine zDS rfl (fun h2 => ?_) (fun h2 => ?_)
   · refine rn6 ?_
     refine zI hR rfl ?_
     have := zB4 p l k hany hk
     rw [zB5 l node0 k hk'] at this
     simp only [zC5, h2, if_true] at this
     rw [this]; simp [zBT]
   · refine rn5 ?_
     refine zO ⟨k + 1, ⟨by omega, by rw [hanys, hany, h2]; rfl⟩, by omega, ⟨rfl, rfl, rfl, rfl, trivial⟩, rfl⟩
 · have hk' : k = l.length := by omega
   subst hk'
   refine rn5 ?_
   refine zI hR rfl ?_
   have := zB4 p l l.length hany hk
   rw [List.drop_length] at this
   rw [this]; rfl
theorem sets1_ok (n : TNode) (p i : Int) : zV Tryz.prog 138 [.agg (zBV n), .rp (.box [.int .i64 p]) 0 0, .rp (.box [.int .i64 i]) 0 0] (.bool (zA4 p i n)) := by
 obtain ⟨kd, pl, nf, nx, od, py⟩ := n
 refine zM.value0 (zG (P := Tryz.prog) (fn := Tryz.f138) rfl rfl (by kernel_rfl) rfl (fun c hR hfix => ?_)) (fix := fun _ => False) (fun _ h => h) rfl rfl
 unfold zA4 own at hR
 unfold zBV
 simp only at hR ⊢
 refine rn6 ?_
 refine zt rfl rfl (fun g1 => ?_) (fun g1 => ?_)
 · rw [decide_eq_true g1, Bool.true_and] at hR
   repeat (first | refine zB (zH rfl) ?_ | refine zAA rfl rfl ?_ | refine zB (zS rfl rfl rfl rfl rfl) ?_ | refine zB (zEj rfl rfl) ?_ | refine zB (zAZ rfl rfl) ?_ | refine zB (zAf rfl rfl rfl rfl) ?_ | refine zB (zP rfl rfl rfl rfl rfl rfl) ?_)
   refine zt rfl rfl (fun g2 => ?_) (fun g2 => ?_)
   · rw [decide_eq_true g2, Bool.true_and] at hR
     repeat (first | refine zB (zK rfl) ?_ | refine zC ?_ | refine zA ?_ | refine zAA rfl rfl ?_ | refine zAG ?_ | refine zB (zS rfl rfl rfl rfl rfl) ?_ | refine zB (zEj rfl rfl) ?_ | refine zB (zAZ rfl rfl) ?_ | refine zB (zAf rfl rfl rfl rfl) ?_ | refine zB (zP rfl rfl rfl rfl rfl rfl) ?_)
     exact zI hR rfl rfl
   · rw [decide_eq_false g2, Bool.false_and] at hR
     refine rn6 ?_
     exact zI hR rfl rfl
 · rw [decide_eq_false g1, Bool.false_and, Bool.false_and] at hR
   refine rn6 ?_
   exact zI hR rfl rfl
theorem refl4 {o1 o2 o3 o4 : AObj} (h1 : zz o1.c) (h2 : zz o2.c) (h3 : zz o3.c) (h4 : zz o4.c) : ∀ (h : Nat) (o : AObj), ([some o1, some o2, some o3, some o4] : zQ)[h]? = some (some o) → zz o.c := by
 intro h o ho
 match h, ho with
 | 0, ho => cases ho; exact h1
 | 1, ho => cases ho; exact h2
 | 2, ho => cases ho; exact h3
 | 3, ho => cases ho; exact h4
 | _ + 4, ho => simp at ho
theorem below3 {n : Nat} {o1 o2 o3 : AObj} (h1 : zA2 n o1.c) (h2 : zA2 n o2.c) (h3 : zA2 n o3.c) : ∀ (h : Nat) (o : AObj), ([some o1, some o2, some o3] : zQ)[h]? = some (some o) → zA2 n o.c := by
 intro h o ho
 match h, ho with
 | 0, ho => cases ho; exact h1
 | 1, ho => cases ho; exact h2
 | 2, ho => cases ho; exact h3
 | _ + 3, ho => simp at ho
theorem zCe (k : IntKind) (l : List Int) (n : Nat) : zA2 n (.ints k l) := fun _ _ _ _ => rfl
theorem zJt (x : Int) (n : Nat) : zA2 n (.box [.int .i64 x]) := by
 intro i j _ hj
 obtain rfl : j = 0 := by have hj : j < 1 := hj; omega
 rfl
theorem zOh (t : zT) (p : Int) (hlen : t.length ≤ 9223372036854775807) : zV Tryz.prog 75 [.ro (zc t) 0 t.length, .int .i64 p] (.tup [.ro (.ints .i64 (zf t p)) 0 (zf t p).length, .ro (.ints .i64 (zBY t p)) 0 (zBY t p).length]) := by
 refine zM.value0 (zG (P := Tryz.prog) (fn := Tryz.f75) rfl rfl (by kernel_rfl) rfl (fun c hR hfix => ?_)) (fix := fun _ => False) (fun _ h => h) rfl rfl
 rw [← zNW, ← zNv] at hR
 repeat (first | refine zB (zH rfl) ?_ | refine zB (zK rfl) ?_ | refine zC ?_ | refine zA ?_ | refine zX ?_ | refine zJ rfl ?_ | refine zEu rfl rfl ?_)
 refine zBo 6 ⟨3, .ints .i64 []⟩ rfl rfl ?_
 refine zBo 7 ⟨3, .ints .i64 []⟩ rfl rfl ?_
 repeat (refine zAB ?_)
 refine zk (ι := Nat) (fun k => [(0, .ro (zc t) 0 t.length), (3, .ptr 0 0 0), (6, .sl 1 0 (zBc t p k).length), (7, .sl 2 0 (zBc t p k).length), (10, .int .i64 (k : Nat))]) (fun k => [some ⟨3, .box [.int .i64 p]⟩, some ⟨3, .ints .i64 (zBc t p k)⟩, some ⟨3, .ints .i64 (zDG t p k)⟩])
   (fun k => k ≤ 10) (fun k => 10 - k) 0 ⟨⟨rfl, rfl, rfl, rfl, rfl, trivial⟩, rfl, Nat.zero_le _⟩ ?_
 intro k hk
 refine rn4 ?_
 refine zF rfl (fun h => ?_) (fun h => ?_)
 · have hk' : k < 10 := by omega
   have ci := zJn t 138 [.rp (.box [.int .i64 p]) 0 0, .rp (.box [.int .i64 (k : Nat)]) 0 0] (zA4 p (k : Int)) rfl hlen (fun n _ => sets1_ok n p k)
   have is := zIW t p k
   have ss := zLo t p k
   have hll := zNp t p k
   have hsl := zJ6 t p k
   generalize hI2 : zBc t p (k + 1) = I2 at *
   generalize hS2 : zDG t p (k + 1) = S2 at *
   generalize zBc t p k = I at *
   generalize zDG t p k = S at *
   repeat (first | refine zB (zH rfl) ?_ | refine zC ?_ | refine zA ?_ | refine zX ?_ | refine zJ rfl ?_ | refine zAB ?_ | refine zl ?_ | refine zB (zHu rfl) ?_ | refine zAh rfl rfl rfl rfl rfl rfl rfl Nat.zero_lt_one ?_ | refine zBH rfl rfl rfl ?_)
   refine zAn [some ⟨3, .box [.int .i64 p]⟩, some ⟨3, .ints .i64 I⟩, some ⟨3, .ints .i64 S⟩, some ⟨3, .box [.int .i64 (k : Nat)]⟩] rfl ?_
   refine zL 8 (.ptr 3 0 0) rfl (AEq.of_eq rfl) ?_
   refine zL 14 (.fn 138 [.ptr 0 0 0, .ptr 3 0 0]) rfl (AEq.of_eq rfl) ?_
   refine zGI rfl rfl rfl rfl ci (refl4 (o1 := ⟨3, .box [.int .i64 p]⟩) (o2 := ⟨3, .ints .i64 I⟩) (o3 := ⟨3, .ints .i64 S⟩) (o4 := ⟨3, .box [.int .i64 (k : Nat)]⟩) (boxIU _) zAR zAR (boxIU _)) ⟨trivial, ⟨fun o ho => by simp at ho; subst ho; exact Nat.zero_lt_one, fun o ho => by simp at ho; subst ho; exact Nat.zero_lt_one, trivial⟩, trivial⟩ rfl rfl rfl ?_
   cases hany : t.any (zA4 p (k : Int))
   · rw [hany, if_neg (by decide)] at is ss
     rw [zQD _ _ hany]
     repeat (first | refine zB (zK rfl) ?_ | refine zC ?_)
     refine zA ?_
     refine zAz [some ⟨3, .box [.int .i64 p]⟩, some ⟨3, .ints .i64 I⟩, some ⟨3, .ints .i64 S⟩] [some ⟨3, .box [.int .i64 (k : Nat)]⟩] [(0, .ro (zc t) 0 t.length), (3, .ptr 0 0 0), (6, .sl 1 0 I.length), (7, .sl 2 0 I.length), (9, .int .i64 (-1)), (10, .int .i64 (k : Nat))] rfl ⟨rfl, rfl, rfl, rfl, rfl, rfl, trivial⟩ (fun h hh => by rw [hfix] at hh; exact absurd hh id) (below3 (zJt _ _) (zCe _ _ _) (zCe _ _ _)) rfl ?_
     repeat (first | refine zB (zH rfl) ?_ | refine zC ?_ | refine zA ?_ | refine zX ?_ | refine zJ rfl ?_ | refine zAM rfl ?_ | refine zg ?_ | refine zl ?_ | refine zB (zC7 rfl rfl) ?_ | refine zB (zC3 rfl rfl (by omega)) ?_)
     exact zO ⟨k + 1, by omega, by omega, ⟨rfl, rfl, by rw [hI2, is]; rfl, by rw [hI2, is]; rfl, rfl, trivial⟩, by rw [hI2, hS2, is, ss]⟩
   · rw [hany, if_pos rfl] at is ss
     have hfl := zNl hany
     rw [zKs _ _ hany]
     have hw : zd t p (k : Int) = (t.getD (t.findIdx (zA4 p (k : Int))) node0).next.length := rfl
     have hfl : t.findIdx (zA4 p (k : Int)) < t.length := hfl
     generalize zd t p (k : Int) = wd at *
     generalize t.findIdx (zA4 p (k : Int)) = f at *
     repeat (first | refine zB (zH rfl) ?_ | refine zB (zK rfl) ?_ | refine zC ?_ | refine zA ?_ | refine zX ?_ | refine zJ rfl ?_ | refine zBD rfl ?_ | refine zB (zC7 rfl rfl) ?_)
     refine zm (by kernel_rfl) ?_
     refine zN 0 rfl (by kernel_rfl) (by kernel_rfl) (by kernel_rfl) rfl (zH rfl) rfl ?_
     refine zN 4 rfl (by kernel_rfl) (by kernel_rfl) (by kernel_rfl) rfl (zH rfl) rfl ?_
     refine zN 5 rfl (by kernel_rfl) (by kernel_rfl) (by kernel_rfl) rfl (zH rfl) rfl ?_
     refine zN 6 rfl (by kernel_rfl) (by kernel_rfl) (by kernel_rfl) rfl (zH rfl) rfl ?_
     refine zN 7 rfl (by kernel_rfl) (by kernel_rfl) (by kernel_rfl) rfl (zi rfl rfl rfl rfl (by first | (simp only [Nat.zero_add, Int.toNat_natCast, Int.toNat_zero]; exact rfl) | exact rfl) (by omega)) rfl ?_
     refine zN 8 rfl (by kernel_rfl) (by kernel_rfl) (by kernel_rfl) rfl (zBA rfl rfl rfl rfl rfl rfl) rfl ?_
     apply zCL (H := [some ⟨3, .box [.int .i64 p]⟩, some ⟨3, .ints .i64 (I ++ [(k : Int)])⟩, some ⟨3, .ints .i64 (S ++ [(wd : Int)])⟩, some ⟨3, .box [.int .i64 (k : Nat)]⟩]) [(0, .ro (zc t) 0 t.length), (3, .ptr 0 0 0), (6, .sl 1 0 (I.length + 1)), (7, .sl 2 0 (I.length + 1)), (10, .int .i64 (k : Nat))]
     · intro fin2
       subst hw
       refine zE (is := [1, 9]) (by kernel_rfl) (by simp) rfl ⟨fun o ho => ?_, fun o ho => ?_, trivial⟩
       all_goals (cases ho)
       · refine rn4 ?_
         refine zE (is := [2, 9]) (by kernel_rfl) (by simp) rfl ⟨fun o ho => ?_, fun o ho => ?_, trivial⟩
         all_goals (cases ho)
         · refine rn3 ?_
           refine zE (is := [3, 9]) (by kernel_rfl) (by simp) rfl ⟨fun o ho => ?_, fun o ho => ?_, trivial⟩
           all_goals (cases ho)
           · refine zp rfl rfl rfl rfl rfl rfl rfl rfl rfl rfl rfl rfl (by show 0 + 1 ≤ 1; omega) rfl (by show (I.length + 1) * 8 ≤ _ ∧ _; omega) (fun i j _ _ => rfl) (by rw [hfix]; exact fun h => h) ?_
             refine rn1 ?_
             refine zE (is := [9]) (by kernel_rfl) (by simp) rfl ⟨fun o ho => ?_, trivial⟩
             all_goals (cases ho)
             refine rn6 ?_
             refine zN 10 rfl (by kernel_rfl) (by kernel_rfl) (by kernel_rfl) rfl (zBK rfl rfl rfl) rfl ?_
             refine zE (is := [11]) (by kernel_rfl) (by simp) rfl ⟨fun o ho => ?_, trivial⟩
             all_goals (cases ho)
             refine rn3 ?_
             refine zE (is := [12]) (by kernel_rfl) (by simp) rfl ⟨fun o ho => ?_, trivial⟩
             all_goals (cases ho)
             refine zp rfl rfl rfl rfl rfl rfl rfl rfl rfl hsl rfl rfl (by show 0 + 1 ≤ 1; omega) rfl (by show (I.length + 1) * 8 ≤ _ ∧ _; omega) (fun i j _ _ => rfl) (by rw [hfix]; exact fun h => h) ?_
             refine rn1 ?_
             refine zN 13 rfl (by kernel_rfl) (by kernel_rfl) (by kernel_rfl) rfl (zK rfl) rfl ?_
             refine zN 14 rfl (by kernel_rfl) (by kernel_rfl) (by kernel_rfl) rfl (zK rfl) rfl ?_
             exact fin2 _ ⟨rfl, rfl, rfl, rfl, rfl, trivial⟩
           · refine rn6 ?_
             refine zN 10 rfl (by kernel_rfl) (by kernel_rfl) (by kernel_rfl) rfl (zBK rfl rfl rfl) rfl ?_
             refine zE (is := [3, 11]) (by kernel_rfl) (by simp) rfl ⟨fun o ho => ?_, fun o ho => ?_, trivial⟩
             all_goals (cases ho)
             · refine zp rfl rfl rfl rfl rfl rfl rfl rfl rfl rfl rfl rfl (by show 0 + 1 ≤ 1; omega) rfl (by show (I.length + 1) * 8 ≤ _ ∧ _; omega) (fun i j _ _ => rfl) (by rw [hfix]; exact fun h => h) ?_
               refine rn1 ?_
               refine zE (is := [11]) (by kernel_rfl) (by simp) rfl ⟨fun o ho => ?_, trivial⟩
               all_goals (cases ho)
               refine rn3 ?_
               refine zE (is := [12]) (by kernel_rfl) (by simp) rfl ⟨fun o ho => ?_, trivial⟩
               all_goals (cases ho)
               refine zp rfl rfl rfl rfl rfl rfl rfl rfl rfl hsl rfl rfl (by show 0 + 1 ≤ 1; omega) rfl (by show (I.length + 1) * 8 ≤ _ ∧ _; omega) (fun i j _ _ => rfl) (by rw [hfix]; exact fun h => h) ?_
               refine rn1 ?_
               refine zN 13 rfl (by kernel_rfl) (by kernel_rfl) (by kernel_rfl) rfl (zK rfl) rfl ?_
               refine zN 14 rfl (by kernel_rfl) (by kernel_rfl) (by kernel_rfl) rfl (zK rfl) rfl ?_
               exact fin2 _ ⟨rfl, rfl, rfl, rfl, rfl, trivial⟩
             · refine rn3 ?_
               refine zE (is := [3]) (by kernel_rfl) (by simp) rfl ⟨fun o ho => ?_, trivial⟩
               all_goals (cases ho)
               refine zp rfl rfl rfl rfl rfl rfl rfl rfl rfl rfl rfl rfl (by show 0 + 1 ≤ 1; omega) rfl (by show (I.length + 1) * 8 ≤ _ ∧ _; omega) (fun i j _ _ => rfl) (by rw [hfix]; exact fun h => h) ?_
               refine rn1 ?_
               refine zE (is := [12]) (by kernel_rfl) (by simp) rfl ⟨fun o ho => ?_, trivial⟩
               all_goals (cases ho)
               refine zp rfl rfl rfl rfl rfl rfl rfl rfl rfl hsl rfl rfl (by show 0 + 1 ≤ 1; omega) rfl (by show (I.length + 1) * 8 ≤ _ ∧ _; omega) (fun i j _ _ => rfl) (by rw [hfix]; exact fun h => h) ?_
               refine rn1 ?_
               refine zN 13 rfl (by kernel_rfl) (by kernel_rfl) (by kernel_rfl) rfl (zK rfl) rfl ?_
               refine zN 14 rfl (by kernel_rfl) (by kernel_rfl) (by kernel_rfl) rfl (zK rfl) rfl ?_
               exact fin2 _ ⟨rfl, rfl, rfl, rfl, rfl, trivial⟩
         · refine rn6 ?_
           refine zN 10 rfl (by kernel_rfl) (by kernel_rfl) (by kernel_rfl) rfl (zBK rfl rfl rfl) rfl ?_
           refine zE (is := [2, 11]) (by kernel_rfl) (by simp) rfl ⟨fun o ho => ?_, fun o ho => ?_, trivial⟩
           all_goals (cases ho)
           · refine rn3 ?_
             refine zE (is := [3, 11]) (by kernel_rfl) (by simp) rfl ⟨fun o ho => ?_, fun o ho => ?_, trivial⟩
             all_goals (cases ho)
             · refine zp rfl rfl rfl rfl rfl rfl rfl rfl rfl rfl rfl rfl (by show 0 + 1 ≤ 1; omega) rfl (by show (I.length + 1) * 8 ≤ _ ∧ _; omega) (fun i j _ _ => rfl) (by rw [hfix]; exact fun h => h) ?_
               refine rn1 ?_
               refine zE (is := [11]) (by kernel_rfl) (by simp) rfl ⟨fun o ho => ?_, trivial⟩
               all_goals (cases ho)
               refine rn3 ?_
               refine zE (is := [12]) (by kernel_rfl) (by simp) rfl ⟨fun o ho => ?_, trivial⟩
               all_goals (cases ho)
               refine zp rfl rfl rfl rfl rfl rfl rfl rfl rfl hsl rfl rfl (by show 0 + 1 ≤ 1; omega) rfl (by show (I.length + 1) * 8 ≤ _ ∧ _; omega) (fun i j _ _ => rfl) (by rw [hfix]; exact fun h => h) ?_
               refine rn1 ?_
               refine zN 13 rfl (by kernel_rfl) (by kernel_rfl) (by kernel_rfl) rfl (zK rfl) rfl ?_
               refine zN 14 rfl (by kernel_rfl) (by kernel_rfl) (by kernel_rfl) rfl (zK rfl) rfl ?_
               exact fin2 _ ⟨rfl, rfl, rfl, rfl, rfl, trivial⟩
             · refine rn3 ?_
               refine zE (is := [3]) (by kernel_rfl) (by simp) rfl ⟨fun o ho => ?_, trivial⟩
               all_goals (cases ho)
               refine zp rfl rfl rfl rfl rfl rfl rfl rfl rfl rfl rfl rfl (by show 0 + 1 ≤ 1; omega) rfl (by show (I.length + 1) * 8 ≤ _ ∧ _; omega) (fun i j _ _ => rfl) (by rw [hfix]; exact fun h => h) ?_
               refine rn1 ?_
               refine zE (is := [12]) (by kernel_rfl) (by simp) rfl ⟨fun o ho => ?_, trivial⟩
               all_goals (cases ho)
               refine zp rfl rfl rfl rfl rfl rfl rfl rfl rfl hsl rfl rfl (by show 0 + 1 ≤ 1; omega) rfl (by show (I.length + 1) * 8 ≤ _ ∧ _; omega) (fun i j _ _ => rfl) (by rw [hfix]; exact fun h => h) ?_
               refine rn1 ?_
               refine zN 13 rfl (by kernel_rfl) (by kernel_rfl) (by kernel_rfl) rfl (zK rfl) rfl ?_
               refine zN 14 rfl (by kernel_rfl) (by kernel_rfl) (by kernel_rfl) rfl (zK rfl) rfl ?_
               exact fin2 _ ⟨rfl, rfl, rfl, rfl, rfl, trivial⟩
           · refine rn3 ?_
             refine zE (is := [2]) (by kernel_rfl) (by simp) rfl ⟨fun o ho => ?_, trivial⟩
             all_goals (cases ho)
             refine rn3 ?_
             refine zE (is := [3]) (by kernel_rfl) (by simp) rfl ⟨fun o ho => ?_, trivial⟩
             all_goals (cases ho)
             refine zp rfl rfl rfl rfl rfl rfl rfl rfl rfl rfl rfl rfl (by show 0 + 1 ≤ 1; omega) rfl (by show (I.length + 1) * 8 ≤ _ ∧ _; omega) (fun i j _ _ => rfl) (by rw [hfix]; exact fun h => h) ?_
             refine rn1 ?_
             refine zE (is := [12]) (by kernel_rfl) (by simp) rfl ⟨fun o ho => ?_, trivial⟩
             all_goals (cases ho)
             refine zp rfl rfl rfl rfl rfl rfl rfl rfl rfl hsl rfl rfl (by show 0 + 1 ≤ 1; omega) rfl (by show (I.length + 1) * 8 ≤ _ ∧ _; omega) (fun i j _ _ => rfl) (by rw [hfix]; exact fun h => h) ?_
             refine rn1 ?_
             refine zN 13 rfl (by kernel_rfl) (by kernel_rfl) (by kernel_rfl) rfl (zK rfl) rfl ?_
             refine zN 14 rfl (by kernel_rfl) (by kernel_rfl) (by kernel_rfl) rfl (zK rfl) rfl ?_
             exact fin2 _ ⟨rfl, rfl, rfl, rfl, rfl, trivial⟩
       · refine rn6 ?_
         refine zN 10 rfl (by kernel_rfl) (by kernel_rfl) (by kernel_rfl) rfl (zBK rfl rfl rfl) rfl ?_
         refine zE (is := [1, 11]) (by kernel_rfl) (by simp) rfl ⟨fun o ho => ?_, fun o ho => ?_, trivial⟩
         all_goals (cases ho)
         · refine rn4 ?_
           refine zE (is := [2, 11]) (by kernel_rfl) (by simp) rfl ⟨fun o ho => ?_, fun o ho => ?_, trivial⟩
           all_goals (cases ho)
           · refine rn3 ?_
             refine zE (is := [3, 11]) (by kernel_rfl) (by simp) rfl ⟨fun o ho => ?_, fun o ho => ?_, trivial⟩
             all_goals (cases ho)
             · refine zp rfl rfl rfl rfl rfl rfl rfl rfl rfl rfl rfl rfl (by show 0 + 1 ≤ 1; omega) rfl (by show (I.length + 1) * 8 ≤ _ ∧ _; omega) (fun i j _ _ => rfl) (by rw [hfix]; exact fun h => h) ?_
               refine rn1 ?_
               refine zE (is := [11]) (by kernel_rfl) (by simp) rfl ⟨fun o ho => ?_, trivial⟩
               all_goals (cases ho)
               refine rn3 ?_
               refine zE (is := [12]) (by kernel_rfl) (by simp) rfl ⟨fun o ho => ?_, trivial⟩
               all_goals (cases ho)
               refine zp rfl rfl rfl rfl rfl rfl rfl rfl rfl hsl rfl rfl (by show 0 + 1 ≤ 1; omega) rfl (by show (I.length + 1) * 8 ≤ _ ∧ _; omega) (fun i j _ _ => rfl) (by rw [hfix]; exact fun h => h) ?_
               refine rn1 ?_
               refine zN 13 rfl (by kernel_rfl) (by kernel_rfl) (by kernel_rfl) rfl (zK rfl) rfl ?_
               refine zN 14 rfl (by kernel_rfl) (by kernel_rfl) (by kernel_rfl) rfl (zK rfl) rfl ?_
               exact fin2 _ ⟨rfl, rfl, rfl, rfl, rfl, trivial⟩
             · refine rn3 ?_
               refine zE (is := [3]) (by kernel_rfl) (by simp) rfl ⟨fun o ho => ?_, trivial⟩
               all_goals (cases ho)
               refine zp rfl rfl rfl rfl rfl rfl rfl rfl rfl rfl rfl rfl (by show 0 + 1 ≤ 1; omega) rfl (by show (I.length + 1) * 8 ≤ _ ∧ _; omega) (fun i j _ _ => rfl) (by rw [hfix]; exact fun h => h) ?_
               refine rn1 ?_
               refine zE (is := [12]) (by kernel_rfl) (by simp) rfl ⟨fun o ho => ?_, trivial⟩
               all_goals (cases ho)
               refine zp rfl rfl rfl rfl rfl rfl rfl rfl rfl hsl rfl rfl (by show 0 + 1 ≤ 1; omega) rfl (by show (I.length + 1) * 8 ≤ _ ∧ _; omega) (fun i j _ _ => rfl) (by rw [hfix]; exact fun h => h) ?_
               refine rn1 ?_
               refine zN 13 rfl (by kernel_rfl) (by kernel_rfl) (by kernel_rfl) rfl (zK rfl) rfl ?_
               refine zN 14 rfl (by kernel_rfl) (by kernel_rfl) (by kernel_rfl) rfl (zK rfl) rfl ?_
               exact fin2 _ ⟨rfl, rfl, rfl, rfl, rfl, trivial⟩
           · refine rn3 ?_
             refine zE (is := [2]) (by kernel_rfl) (by simp) rfl ⟨fun o ho => ?_, trivial⟩
             all_goals (cases ho)
             refine rn3 ?_
             refine zE (is := [3]) (by kernel_rfl) (by simp) rfl ⟨fun o ho => ?_, trivial⟩
             all_goals (cases ho)
             refine zp rfl rfl rfl rfl rfl rfl rfl rfl rfl rfl rfl rfl (by show 0 + 1 ≤ 1; omega) rfl (by show (I.length + 1) * 8 ≤ _ ∧ _; omega) (fun i j _ _ => rfl) (by rw [hfix]; exact fun h => h) ?_
             refine rn1 ?_
             refine zE (is := [12]) (by kernel_rfl) (by simp) rfl ⟨fun o ho => ?_, trivial⟩
             all_goals (cases ho)
             refine zp rfl rfl rfl rfl rfl rfl rfl rfl rfl hsl rfl rfl (by show 0 + 1 ≤ 1; omega) rfl (by show (I.length + 1) * 8 ≤ _ ∧ _; omega) (fun i j _ _ => rfl) (by rw [hfix]; exact fun h => h) ?_
             refine rn1 ?_
             refine zN 13 rfl (by kernel_rfl) (by kernel_rfl) (by kernel_rfl) rfl (zK rfl) rfl ?_
             refine zN 14 rfl (by kernel_rfl) (by kernel_rfl) (by kernel_rfl) rfl (zK rfl) rfl ?_
             exact fin2 _ ⟨rfl, rfl, rfl, rfl, rfl, trivial⟩
         · refine rn3 ?_
           refine zE (is := [1]) (by kernel_rfl) (by simp) rfl ⟨fun o ho => ?_, trivial⟩
           all_goals (cases ho)
           refine rn4 ?_
           refine zE (is := [2]) (by kernel_rfl) (by simp) rfl ⟨fun o ho => ?_, trivial⟩
           all_goals (cases ho)
           refine rn3 ?_
           refine zE (is := [3]) (by kernel_rfl) (by simp) rfl ⟨fun o ho => ?_, trivial⟩
           all_goals (cases ho)
           refine zp rfl rfl rfl rfl rfl rfl rfl rfl rfl rfl rfl rfl (by show 0 + 1 ≤ 1; omega) rfl (by show (I.length + 1) * 8 ≤ _ ∧ _; omega) (fun i j _ _ => rfl) (by rw [hfix]; exact fun h => h) ?_
           refine rn1 ?_
           refine zE (is := [12]) (by kernel_rfl) (by simp) rfl ⟨fun o ho => ?_, trivial⟩
           all_goals (cases ho)
           refine zp rfl rfl rfl rfl rfl rfl rfl rfl rfl hsl rfl rfl (by show 0 + 1 ≤ 1; omega) rfl (by show (I.length + 1) * 8 ≤ _ ∧ _; omega) (fun i j _ _ => rfl) (by rw [hfix]; exact fun h => h) ?_
           refine rn1 ?_
           refine zN 13 rfl (by kernel_rfl) (by kernel_rfl) (by kernel_rfl) rfl (zK rfl) rfl ?_
           refine zN 14 rfl (by kernel_rfl) (by kernel_rfl) (by kernel_rfl) rfl (zK rfl) rfl ?_
           exact fin2 _ ⟨rfl, rfl, rfl, rfl, rfl, trivial⟩
     · refine zh (by kernel_rfl) ?_
       repeat (refine zg ?_)
       refine zA ?_
       refine zAz [some ⟨3, .box [.int .i64 p]⟩, some ⟨3, .ints .i64 (I ++ [(k : Int)])⟩, some ⟨3, .ints .i64 (S ++ [(wd : Int)])⟩] [some ⟨3, .box [.int .i64 (k : Nat)]⟩] [(0, .ro (zc t) 0 t.length), (3, .ptr 0 0 0), (6, .sl 1 0 (I.length + 1)), (7, .sl 2 0 (I.length + 1)), (10, .int .i64 (k : Nat))] rfl ⟨rfl, rfl, rfl, rfl, rfl, trivial⟩ (fun h hh => by rw [hfix] at hh; exact absurd hh id) (below3 (zJt _ _) (zCe _ _ _) (zCe _ _ _)) rfl ?_
       refine rn3 ?_
       have il : I2.length = I.length + 1 := by rw [is, List.length_append]; rfl
       exact zO ⟨k + 1, by omega, by omega, ⟨rfl, rfl, by rw [hI2, il]; rfl, by rw [hI2, il]; rfl, rfl, trivial⟩, by rw [hI2, hS2, is, ss]⟩
 · have hke10 : k = 10 := by omega
   subst hke10
   have hsl := zJ6 t p 10
   repeat (first | refine zA ?_ | refine zX ?_ | refine zA0 ?_ | refine zx ?_ | refine zw ?_ | refine zAN ?_)
   refine zBE 1 6 (zBc t p 10).length [(7, .sl 2 0 (zBc t p 10).length)] rfl zAR rfl (by show (zBc t p 10).length ≤ (zBc t p 10).length; exact Nat.le_refl _) ⟨rfl, trivial⟩ ?_
   refine zBE 2 7 (zBc t p 10).length [(6, .ro (.ints .i64 (zBc t p 10)) 0 (zBc t p 10).length)] rfl zAR rfl (by show (zBc t p 10).length ≤ (zDG t p 10).length; omega) ⟨rfl, trivial⟩ ?_
   refine zAd 7 (.ro (.ints .i64 (zDG t p 10)) 0 (zDG t p 10).length) rfl (AEq.of_eq (by rw [hsl])) ?_
   refine rn0 ?_
   exact zI hR rfl rfl
end Go.Proofs.YtnkealfaldjipaaGreatDoor
namespace Go.Proofs.YtnkealfaldjipaaGreatDoor
open Go.Ax Go.Ax.Bg Go.Ax.Rt Go.RowKit
attribute [local irreducible] Ax zAL QOp zM zo
set_option maxRecDepth 100000
set_option maxHeartbeats 4000000
def cellS (r : List zAK) : List AV := [.ro (.strs r) 0 r.length]
def cellR (r : List Rat) : List AV := [.ro (qsC r) 0 r.length]
abbrev rowsT (m : List (List zAK)) : Cells := zB3 [] 1 cellS m
abbrev rowsQ (m : List (List Rat)) : Cells := zB3 [] 1 cellR m
theorem in_ok' (l : List zAK) (hlen : l.length ≤ 1000000) (hs : ∀ s ∈ l, s.length ≤ 9223372036854775807 ∧ zCX s = 0) : zV Tryz.prog 104 [.ro (.strs l) 0 l.length] (.ro (qsC (l.map zAU)) 0 (l.map zAU).length) := by
 have := in_ok l hlen hs
 rwa [List.length_map]
end Go.Proofs.YtnkealfaldjipaaGreatDoor
namespace Go.Proofs.YtnkealfaldjipaaGreatDoor
open Go.Ax Go.Ax.Bg Go.Ax.Rt Go.RowKit
attribute [local irreducible] Ax zAL QOp zM zo
set_option maxRecDepth 100000
set_option maxHeartbeats 4000000
theorem zF5 {m : Nat} {q : Rat} (h : D (9 * m) q) : Sz m q := by
 have key : ∀ n : Nat, n < 10 ^ (9 * m) → (zU n).length ≤ m := fun n hn => by
   refine zAe (Nat.lt_of_lt_of_le hn ?_)
   rw [Nat.pow_mul]
   exact Nat.pow_le_pow_left (by decide) m
 exact ⟨key _ h.1, key _ h.2⟩
end Go.Proofs.YtnkealfaldjipaaGreatDoor
namespace Go.Proofs.YtnkealfaldjipaaGreatDoor
open Go.Ax Go.Ax.Bg Go.Ax.Rt Go.RowKit
attribute [local irreducible] Ax zAL QOp zM zo
set_option maxRecDepth 100000
set_option maxHeartbeats 4000000
end Go.Proofs.YtnkealfaldjipaaGreatDoor
namespace Go.Proofs.YtnkealfaldjipaaGreatDoor
open Go.Ax Go.Ax.Bg Go.Ax.Rt Go.RowKit
attribute [local irreducible] Ax zAL QOp zM zo
set_option maxRecDepth 100000
set_option maxHeartbeats 4000000
def matP (p : List (List zAK) × Int) : AV := .tup [.ro (rowsT p.1) 0 p.1.length, .int .i64 p.2]
theorem zMr (l : List Rat) (hlen : l.length ≤ 1000000) (hs : ∀ q ∈ l, Sz 100000 q) (hall : l.all zCT = true) : zV Tryz.prog 80 [.ro (qsC l) 0 l.length] (.tup [.ro (.strs (l.map zAO)) 0 (l.map zAO).length, .int .i64 0]) := by
 have := zNR l hlen hs hall
 rwa [List.length_map]
end Go.Proofs.YtnkealfaldjipaaGreatDoor
namespace Go.Proofs.YtnkealfaldjipaaGreatDoor
open Go.Ax Go.Ax.Bg Go.Ax.Rt Go.RowKit
attribute [local irreducible] Ax zAL QOp zM zo
set_option maxRecDepth 100000
set_option maxHeartbeats 4000000
end Go.Proofs.YtnkealfaldjipaaGreatDoor
namespace Go.Proofs.YtnkealfaldjipaaGreatDoor
open Go.Ax Go.Ax.Bg Go.Ax.Rt Go.RowKit
attribute [local irreducible] Ax zAL QOp zM zo
set_option maxRecDepth 100000
set_option maxHeartbeats 4000000
def vecP (p : List zAK × Int) : AV := .tup [.ro (.strs p.1) 0 p.1.length, .int .i64 p.2]
theorem zPi (l : List Rat) (hlen : l.length ≤ 1000000) (hs : ∀ q ∈ l, Sz 100000 q) : ∃ r : AV, zV Tryz.prog 80 [.ro (qsC l) 0 l.length] (.tup [r, .int .i64 (zBC l).2]) ∧ AEq r (.ro (.strs (zBC l).1) 0 (zBC l).1.length) := by
 cases h : l.all zCT
 · refine ⟨.nil, ?_, ?_⟩
   · have := zPA l hlen hs h
     unfold zBC; rw [h]; exact this
   · unfold zBC; rw [h]; exact AEq.nil
 · refine ⟨_, ?_, AEq.rfl'⟩
   have := zMr l hlen hs h
   unfold zBC; rw [h]; exact this
end Go.Proofs.YtnkealfaldjipaaGreatDoor
namespace Go.Proofs.YtnkealfaldjipaaGreatDoor
open Go.Ax Go.Ax.Bg Go.Ax.Rt Go.RowKit Go.Ax.Idx Go.Ax.Cd
attribute [local irreducible] Ax zAL QOp zM zo
set_option maxRecDepth 100000
set_option maxHeartbeats 4000000
def longV (n : Int) (v : List zAK) : Bool := decide (n < (v.length : Int)) || v.any (fun s => decide (12 < (s.length : Int)))
def cellM (m : List (List zAK)) : List AV := [.ro (rowsT m) 0 m.length]
abbrev matsT (l : List (List (List zAK))) : Cells := zB3 [] 1 cellM l
end Go.Proofs.YtnkealfaldjipaaGreatDoor
namespace Go.Proofs.YtnkealfaldjipaaGreatDoor
open Go.Ax Go.Ax.Bg Go.Ax.Rt Go.RowKit Go.Ax.Idx Go.Ax.Cd
attribute [local irreducible] Ax zAL QOp zM zo
set_option maxRecDepth 100000
set_option maxHeartbeats 4000000
def colT (m : List (List zAK)) (k : Nat) : List zAK := m.map (fun r => r.getD k [])
end Go.Proofs.YtnkealfaldjipaaGreatDoor
namespace Go.Proofs.YtnkealfaldjipaaGreatDoor
open Go.Ax Go.Ax.Bg Go.Ax.Rt Go.RowKit Go.Ax.Idx Go.Ax.Cd
attribute [local irreducible] Ax zAL QOp zM zo
set_option maxRecDepth 100000
set_option maxHeartbeats 4000000
end Go.Proofs.YtnkealfaldjipaaGreatDoor
namespace Go.Proofs.YtnkealfaldjipaaGreatDoor
open Go.Ax Go.Ax.Bg Go.Ax.Rt Go.RowKit Go.Ax.Idx Go.Ax.Cd
attribute [local irreducible] Ax zAL QOp zM zo
set_option maxRecDepth 100000
set_option maxHeartbeats 4000000
end Go.Proofs.YtnkealfaldjipaaGreatDoor
namespace Go.Proofs.YtnkealfaldjipaaGreatDoor
open Go.Ax Go.Ax.Bg Go.Ax.Rt Go.RowKit Go.Ax.Idx Go.Ax.Cd
attribute [local irreducible] Ax zAL QOp zM zo
set_option maxRecDepth 100000
set_option maxHeartbeats 4000000
def zHG (x : Int × Int) : List AV := [.int .i64 x.1, .int .i64 x.2]
abbrev zBO (l : zCG) : Cells := zB3 (0, 0) 2 zHG l
end Go.Proofs.YtnkealfaldjipaaGreatDoor
namespace Go.Proofs.YtnkealfaldjipaaGreatDoor
open Go.Ax Go.Ax.Bg Go.Ax.Rt Go.RowKit Go.Ax.Idx Go.Ax.Cd
attribute [local irreducible] Ax zAL QOp zM zo
set_option maxRecDepth 100000
set_option maxHeartbeats 4000000
end Go.Proofs.YtnkealfaldjipaaGreatDoor
namespace Go.Proofs.YtnkealfaldjipaaGreatDoor
open Go.Ax Go.Ax.Bg Go.Ax.Rt Go.RowKit Go.Ax.Idx Go.Ax.Cd
attribute [local irreducible] Ax zAL QOp zM zo
set_option maxRecDepth 100000
set_option maxHeartbeats 4000000
end Go.Proofs.YtnkealfaldjipaaGreatDoor
namespace Go.Proofs.YtnkealfaldjipaaGreatDoor
open Go.Ax Go.Ax.Bg Go.Ax.Rt Go.RowKit Go.Ax.Idx Go.Ax.Cd
attribute [local irreducible] Ax zAL QOp zM zo
set_option maxRecDepth 100000
set_option maxHeartbeats 4000000
end Go.Proofs.YtnkealfaldjipaaGreatDoor
namespace Go.Proofs.YtnkealfaldjipaaGreatDoor
open Go.Ax Go.Ax.Bg Go.Ax.Rt Go.RowKit Go.Ax.Idx Go.Ax.Cd
attribute [local irreducible] Ax zAL QOp zM zo
set_option maxRecDepth 100000
set_option maxHeartbeats 4000000
end Go.Proofs.YtnkealfaldjipaaGreatDoor
namespace Go.Proofs.YtnkealfaldjipaaGreatDoor
open Go.Ax Go.Ax.Bg Go.Ax.Rt Go.RowKit Go.Ax.Idx Go.Ax.Cd
attribute [local irreducible] Ax zAL QOp zM zo
set_option maxRecDepth 100000
set_option maxHeartbeats 4000000
def bothA (p : (List zAK × List zAK) × Int) : AV := .tup [.ro (.strs p.1.1) 0 p.1.1.length, .ro (.strs p.1.2) 0 p.1.2.length, .int .i64 p.2]
end Go.Proofs.YtnkealfaldjipaaGreatDoor
namespace Go.Proofs.YtnkealfaldjipaaGreatDoor
open Go.Ax Go.Ax.Bg Go.Ax.Rt Go.RowKit Go.Ax.Idx Go.Ax.Cd
attribute [local irreducible] Ax zAL QOp zM zo
set_option maxRecDepth 100000
set_option maxHeartbeats 4000000
theorem zLK (q : Rat) (j : Nat) : noRef ((zAD q).getD j .any) = true := by
 match j with
 | 0 => rfl
 | 1 => rfl
 | 2 => rfl
 | n + 3 => rfl
end Go.Proofs.YtnkealfaldjipaaGreatDoor
namespace Go.Proofs.YtnkealfaldjipaaGreatDoor
open Go.Ax Go.Ax.Bg Go.Ax.Rt Go.RowKit Go.Ax.Idx Go.Ax.Cd
attribute [local irreducible] Ax zAL QOp zM zo
set_option maxRecDepth 100000
set_option maxHeartbeats 4000000
def averageR (m : List (List zAK)) (l : zCG) : (List zAK × List zAK) × Int :=
 if zKp m l ≠ 0 then (([], []), zKp m l) else if l = [] then (([], []), 8)
 else bothR ((cntQ Prod.fst l m.length).map (fun q => q / (l.length : Rat))) ((cntQ Prod.snd l (zDs m)).map (fun q => q / (l.length : Rat)))
def boundsA (p : (zAK × zAK) × Int) : AV := .tup [.str p.1.1, .str p.1.2, .int .i64 p.2]
end Go.Proofs.YtnkealfaldjipaaGreatDoor
namespace Go.Proofs.YtnkealfaldjipaaGreatDoor
open Go.Ax Go.Ax.Bg Go.Ax.Rt Go.RowKit Go.Ax.Idx Go.Ax.Cd
attribute [local irreducible] Ax zAL QOp zM zo
set_option maxRecDepth 100000
set_option maxHeartbeats 4000000
/-- Numbers that may not be there yet. -/
def zB8 : Option Rat → List AV
 | some q => zAD q
 | none => [.bool false, .nil, .nil]
abbrev zsC (l : List (Option Rat)) : Cells := zB3 none 3 zB8 l
theorem zNw (n : Nat) : CEq (zAT n [.bool false, .nil, .nil]) (zsC (List.replicate n none)) := by
 refine ⟨by simp [zB3, Cells.len, zAT], rfl, fun i j hi hj => ?_⟩
 have hi : i < n := by simpa [Cells.len, zAT] using hi
 show (zB8 ((List.replicate n (none : Option Rat)).getD i none)).getD j .any = _
 rw [zAk none (by simpa using hi), List.getElem_replicate]
 rfl
theorem zD9 {α : Type} (d : α) (n : Nat) (e : α → List AV) (zs : List α) (k : Nat) (a : α) (hk : k < zs.length) (i' j' : Nat) (hi' : i' < zs.length) (hj' : j' < n) : (zB3 d n e (zs.set k a)).at i' j' = if i' = k then (e a).getD j' .any else (zB3 d n e zs).at i' j' := by
 show (e ((zs.set k a).getD i' d)).getD j' .any = if i' = k then (e a).getD j' .any else (e (zs.getD i' d)).getD j' .any
 rw [Go.Ax.Dt.getD_set]
 by_cases h : i' = k
 · rw [if_pos h, if_pos ⟨h, hk⟩]
 · rw [if_neg h, if_neg (fun q => h q.1)]
def histA (p : zCG × Int) : AV := .tup [.ro (zBO p.1) 0 p.1.length, .int .i64 p.2]
theorem zGt (l : zCG) : zz (zBO l) := by
 intro i j _ hj
 have hj : j < 2 := hj
 match j, hj with
 | 0, _ => rfl
 | 1, _ => rfl
end Go.Proofs.YtnkealfaldjipaaGreatDoor
namespace Go.Ax
variable [Pins]
open Go.RowKit
def eqIs (P : Program) (e : TypeId) (L M : List AV) : List Nat → Option Bool
 | [] => some true
 | i :: is => match eqIs P e L M is, L[i]?, M[i]? with
   | some r, some x, some y => (sclEq P e x y).map (· && r)
   | _, _, _ => none
theorem zMF {P : Program} {w w' : World} {S : Nat → Prop} {σ : Nat → Option Blk} {L M : List AV} {xs ys : Array Value} {d : Nat} {e : TypeId} (h1 : xs.size = L.length) (h2 : ∀ i, i < L.length → VR w S σ (L.getD i .any) (xs.getD i undef)) (h3 : ys.size = M.length) (h4 : ∀ i, i < M.length → VR w S σ (M.getD i .any) (ys.getD i undef)) :
   ∀ (is : List Nat) (b : Bool), eqIs P e L M is = some b → (Op.eqItems (d + 1) e 1 xs ys is).run P w' = .ok b w'
 | [], b, h => by simp [eqIs] at h; subst h; simp [Op.eqItems]
 | i :: is, b, h => by
   simp only [eqIs] at h
   split at h
   · rename_i r x y hr hL hM
     have ih := zMF (d := d) (w' := w') h1 h2 h3 h4 is r hr
     obtain ⟨v1, e1, r1⟩ := zOL h1 h2 hL
     obtain ⟨v2, e2, r2⟩ := zOL h3 h4 hM
     obtain ⟨q, hq, hb⟩ := Option.map_eq_some_iff.1 h
     obtain ⟨hp, hrun⟩ := zPv (w' := w') hq r1 r2 d
     simp only [Op.eqItems, Nat.mul_one]
     simp only [Sem.run_bind, run_part_plain w' hp e1, Result.andThen_ok, run_part_plain w' hp e2, hrun]
     subst hb
     cases q with
     | false => simp
     | true => simpa using ih
   · cases h
section
variable {P : Program} {fn : Func} {c : Ctx} {fr : Fr} {H : zQ} {k : List It} {ind : Bool} {d : Option Nat} {ty : TypeId} {pos : String} {after : Array Edge} {g : Option (Nat × Bool)}
theorem q_arrneq {x y : Operand} {t t' e : TypeId} {n : Nat} {inf : TypeInfo} {L M : List AV} {b : Bool} (hx : ev fr x = some (.agg L)) (hy : ev fr y = some (.agg M)) (ht : P.underlying t = some (.array n e)) (hi : P.info? e = some inf) (hc : P.cellsOf e = 1) (hg : P.eqGuardType P.depth t = false)
   (he : eqIs P e L M (List.range n) = some b) : QOp ind P fn c fr H ⟨d, .binOp .neq t x y t', ty, pos, after, g⟩ (.bool (!b)) := by
 intro w a σ S hr
 have h1 := hr.evAt hx
 have h2 := hr.evAt hy
 generalize hz : a.eval x = z at h1
 generalize hzy : a.eval y = zy at h2
 cases h1 with
 | agg _ _ xs a1 a2 a3 =>
   cases h2 with
   | agg _ _ ys b1 b2 b3 =>
     refine ⟨_, .bool _ _, fun w' _ => ?_⟩
     have hr := zMF (d := 9998) (w' := w') a1 a2 b1 b2 _ b he
     simp only [execOp, hz, hzy, Sem.run_bind, run_eqGuard_agg w' _ _ _ _ _ _ hg, Result.andThen_ok, run_neq_struct, show (10000 : Nat) = 9999 + 1 from rfl, run_equalIn_array w' 9999 _ _ ht hi, hc, hr]
     rfl
end
end Go.Ax
namespace Go.Proofs.YtnkealfaldjipaaGreatDoor
open Go.Ax Go.Ax.Bg Go.Ax.Rt Go.RowKit Go.Ax.Idx Go.Ax.Cd
attribute [local irreducible] Ax zAL QOp zM zo
set_option maxRecDepth 100000
set_option maxHeartbeats 4000000
theorem equalP (a b : zCG) (hlen : a.length ≤ 9223372036854775807) (hlb : b.length ≤ 9223372036854775807) : zV Tryz.prog 131 [.ro (zBO a) 0 a.length, .ro (zBO b) 0 b.length] (.bool (decide (a = b))) := by
 refine zM.value0 (zG (P := Tryz.prog) (fn := Tryz.f131) rfl rfl (by kernel_rfl) rfl (fun c hR hfix => ?_)) (fix := fun _ => False) (fun _ h => h) rfl rfl
 refine rn3 ?_
 refine zF rfl (fun h => ?_) (fun h => ?_)
 · refine rn2 ?_
   refine zI hR rfl ?_
   have : ¬ a = b := by rintro rfl; exact h rfl
   simp [zBT, this]
 have hab : a.length = b.length := by omega
 refine rn3 ?_
 refine zk (ι := Nat) (fun k => [(0, .ro (zBO a) 0 a.length), (1, .ro (zBO b) 0 b.length), (12, .int .i64 (a.length : Nat)), (13, .int .i64 (k : Nat))]) (fun _ => [])
   (fun k => k ≤ a.length ∧ a.take k = b.take k) (fun k => a.length - k) 0 ⟨⟨rfl, rfl, rfl, rfl, trivial⟩, rfl, Nat.zero_le _, rfl⟩ ?_
 intro k ⟨hk, heq⟩
 refine rn4 ?_
 refine zF rfl (fun h2 => ?_) (fun h2 => ?_)
 · have hk' : k < a.length := by omega
   have hkb : k < b.length := by omega
   have ha := zAr a (0, 0) k hk'
   have hb := zAr b (0, 0) k hkb
   refine rn1 ?_
   refine zm (by kernel_rfl) ?_
   refine z7 (fuel := 0) [0, 1, 2, 3, 4, 5, 6, 7, 8] [(0, .ro (zBO a) 0 a.length), (1, .ro (zBO b) 0 b.length), (5, .int .i64 (k : Nat)), (12, .int .i64 (a.length : Nat)), (13, .int .i64 (k : Nat))] ⟨rfl, rfl, rfl, rfl, rfl, trivial⟩ (by kernel_rfl) (by decide) rfl rfl ?_
   refine zW rfl rfl (zH rfl) ?_
   refine zW rfl rfl (zH rfl) ?_
   refine zW rfl rfl (zi rfl rfl rfl rfl (by first | (simp only [Nat.zero_add, Int.toNat_natCast, Int.toNat_zero]; exact rfl) | exact rfl) (by omega)) ?_
   refine zW rfl rfl (zCU rfl rfl rfl rfl rfl rfl) ?_
   refine zW rfl rfl (zH rfl) ?_
   refine zW rfl rfl (zH rfl) ?_
   refine zW rfl rfl (zi rfl rfl rfl rfl (by first | (simp only [Nat.zero_add, Int.toNat_natCast, Int.toNat_zero]; exact rfl) | exact rfl) (by omega)) ?_
   refine zW rfl rfl (zCU rfl rfl rfl rfl rfl rfl) ?_
   refine zW rfl rfl (q_arrneq (L := zHG (a.getD k (0, 0))) (M := zHG (b.getD k (0, 0))) (b := decide ((a.getD k (0, 0)).1 = (b.getD k (0, 0)).1) && (decide ((a.getD k (0, 0)).2 = (b.getD k (0, 0)).2) && true)) rfl rfl rfl rfl (by kernel_rfl) (by kernel_rfl) rfl) ?_
   refine zAg ?_
   refine zh (by kernel_rfl) ?_
   repeat (refine zA ?_)
   by_cases h3 : a.getD k (0, 0) = b.getD k (0, 0)
   · rw [h3, decide_eq_true rfl, decide_eq_true rfl]
     refine rn5 ?_
     exact zO ⟨k + 1, ⟨by omega, by rw [ha, hb, heq, h3]⟩, by omega, ⟨rfl, rfl, rfl, rfl, trivial⟩, rfl⟩
   · have h4 : (decide ((a.getD k (0, 0)).1 = (b.getD k (0, 0)).1) && (decide ((a.getD k (0, 0)).2 = (b.getD k (0, 0)).2) && true)) = false := by
       rw [Bool.and_true, ← Bool.not_eq_true, Bool.and_eq_true, decide_eq_true_eq, decide_eq_true_eq]
       rintro ⟨e1, e2⟩
       exact h3 (Prod.ext e1 e2)
     rw [h4]
     refine rn6 ?_
     refine zI hR rfl ?_
     have : ¬ a = b := by rintro rfl; exact h3 rfl
     simp [zBT, this]
 · have hk' : k = a.length := by omega
   subst hk'
   rw [List.take_length, hab, List.take_length] at heq
   refine rn5 ?_
   refine zI hR rfl ?_
   simp [zBT, heq]
def pennT : List (List zAK) := [[[49], [45, 49]], [[45, 49], [49]]]
def allQ : List zAK → List Rat → Bool
 | [], [] => true
 | s :: r, q :: t => decide (IsQ s q) && allQ r t
 | _, _ => false
def histT : zCG := [(0, 0), (0, 1)]
end Go.Proofs.YtnkealfaldjipaaGreatDoor
