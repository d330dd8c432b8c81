import Derived.Test.YtnkealfaldjipaaGreatDoorY3
set_option linter.unusedVariables false
set_option linter.unusedSimpArgs false
namespace Go.Ax.Rt
open Go.Ax.Bg
def zBf (f : Nat → Rat) : Nat → Rat
 | 0 => 0
 | n + 1 => zBf f n + f n
theorem zBQ {f g : Nat → Rat} : ∀ {n : Nat}, (∀ i, i < n → f i = g i) → zBf f n = zBf g n
 | 0, _ => rfl
 | n + 1, h => by rw [zBf, zBf, zBQ (fun i hi => h i (by omega)), h n (by omega)]
theorem zGc : ∀ n : Nat, zBf (fun _ => 0) n = 0
 | 0 => rfl
 | n + 1 => by rw [zBf, zGc n, Rat.add_zero]
theorem zGE (f g : Nat → Rat) : ∀ n : Nat, zBf (fun i => f i + g i) n = zBf f n + zBf g n
 | 0 => by rw [zBf, zBf, zBf, Rat.add_zero]
 | n + 1 => by
   rw [zBf, zBf, zBf, zGE f g n]
   rw [Rat.add_assoc, Rat.add_assoc, ← Rat.add_assoc (zBf g n), Rat.add_comm (zBf g n) (f n), Rat.add_assoc]
theorem zMa (c : Rat) (f : Nat → Rat) : ∀ n : Nat, zBf (fun i => c * f i) n = c * zBf f n
 | 0 => by rw [zBf, zBf, Rat.mul_zero]
 | n + 1 => by rw [zBf, zBf, zMa c f n, Rat.mul_add]
/-- The sum of the products. -/
def dotQ (a b : List Rat) : Rat := zBf (fun i => a.getD i 0 * b.getD i 0) a.length
def colQ (m : List (List Rat)) (k : Nat) : List Rat := m.map (fun row => row.getD k 0)
def colsQ (m : List (List Rat)) (w : Nat) : List (List Rat) := (List.range w).map (colQ m)
def mulQ (a b : List (List Rat)) (w : Nat) : List (List Rat) := a.map (fun row => (colsQ b w).map (dotQ row))
def applyQ (m : List (List Rat)) (v : List Rat) : List Rat := m.map (fun row => dotQ row v)
theorem zP4 (m : List (List Rat)) (w : Nat) : (colsQ m w).length = w := by simp [colsQ]
theorem zDb {α β : Type} (f : α → β) (l : List α) (d : α) (e : β) (i : Nat) (hi : i < l.length) : (l.map f).getD i e = f (l.getD i d) := by simp [List.getD, hi]
end Go.Ax.Rt
namespace Go.Ax.Rt
open Go.Ax.Bg
abbrev zAK := List UInt8
def zIa (v : List zAK) : Int := if 40 < v.length then 2 else zDs v
def rowsE (w : Nat) : List (List zAK) → Int
 | [] => 0
 | r :: rs => if r.length = w then (if zIa r = 0 then rowsE w rs else zIa r) else 3
def zDr (m : List (List zAK)) : Nat := (m.getD 0 []).length
/-- matrix.Check -/
def zHI (m : List (List zAK)) : Int := if 40 < m.length then 2 else rowsE (zDr m) m
def inM (m : List (List zAK)) : List (List Rat) := m.map (fun r => r.map zAQ)
def outM (q : List (List Rat)) : List (List zAK) × Int := if q.all (fun r => r.all zCR) then (q.map (fun r => r.map zAJ), 0) else ([], 2)
def dotR (a b : List zAK) : zAK × Int := if zIa a ≠ 0 then ([], zIa a) else if zIa b ≠ 0 then ([], zIa b) else if a.length = b.length then zDm (dotQ (a.map zAQ) (b.map zAQ)) else ([], 3)
def applyR (m : List (List zAK)) (v : List zAK) : List zAK × Int := if zHI m ≠ 0 then ([], zHI m) else if zIa v ≠ 0 then ([], zIa v) else if m ≠ [] ∧ zDr m ≠ v.length then ([], 3) else zBD (applyQ (inM m) (v.map zAQ))
def mulR (a b : List (List zAK)) : List (List zAK) × Int := if zHI a ≠ 0 then ([], zHI a) else if zHI b ≠ 0 then ([], zHI b) else if zDr a = b.length then outM (mulQ (inM a) (inM b) (zDr b)) else ([], 3)
def transT (m : List (List zAK)) : List (List zAK) := (List.range (zDr m)).map (fun k => m.map (fun r => r.getD k []))
def transR (m : List (List zAK)) : List (List zAK) × Int := if zHI m ≠ 0 then ([], zHI m) else (transT m, 0)
/-- A valid matrix of so many rows and columns. -/
structure IsM (m : List (List zAK)) (p q : Nat) : Prop where
 rows : m.length = p
 cols : ∀ r ∈ m, r.length = q
 sp : p ≤ 40
 sq : m ≠ [] → q ≤ 40
 ok : ∀ r ∈ m, ∀ s ∈ r, zCU s = 0
theorem IsM.wid {m : List (List zAK)} {p q : Nat} (h : IsM m p q) (hne : m ≠ []) : zDr m = q := by
 obtain ⟨a, m', rfl⟩ := List.exists_cons_of_ne_nil hne
 exact h.cols a (by simp)
/-- Short texts. -/
def tiny (n k : Nat) (m : List (List zAK)) : Bool := decide (m.length ≤ n) && m.all (fun v => decide (v.length ≤ n) && v.all (fun s => decide (s.length ≤ k)))
end Go.Ax.Rt
namespace Go.Ax.Rt
open Go.Ax.Bg
/-- The product of short valid matrices. -/
structure Prod (a b : List (List zAK)) (t : List (List zAK)) (p q r K : Nat) : Prop where
 res : mulR a b = (t, 0)
 ok : IsM t p r
 val : inM t = mulQ (inM a) (inM b) r
 dig : ∀ x ∈ inM t, ∀ y ∈ x, D K y
end Go.Ax.Rt
namespace Go.Ax.Dt
def zCE (f : Nat → Int) : Nat → Int
 | 0 => 0
 | n + 1 => zCE f n + f n
theorem zBR {f g : Nat → Int} : ∀ {n : Nat}, (∀ i, i < n → f i = g i) → zCE f n = zCE g n
 | 0, _ => rfl
 | n + 1, h => by rw [zCE, zCE, zBR (fun i hi => h i (by omega)), h n (by omega)]
theorem zKa {f : Nat → Int} : ∀ {n : Nat}, (∀ i, i < n → f i = 0) → zCE f n = 0
 | 0, _ => rfl
 | n + 1, h => by rw [zCE, zKa (fun i hi => h i (by omega)), h n (by omega)]; rfl
theorem zDX (f g : Nat → Int) : ∀ n, zCE (fun i => f i + g i) n = zCE f n + zCE g n
 | 0 => rfl
 | n + 1 => by rw [zCE, zCE, zCE, zDX f g n]; omega
theorem zFz (c : Int) (f : Nat → Int) : ∀ n, zCE (fun i => c * f i) n = c * zCE f n
 | 0 => by rw [zCE, zCE, Int.mul_zero]
 | n + 1 => by rw [zCE, zCE, zFz c f n, Int.mul_add]
theorem zDY {f : Nat → Int} {n : Nat} (k : Nat) (hk : k < n) (h : ∀ i, i < n → i ≠ k → f i = 0) : zCE f n = f k := by
 induction n with
 | zero => omega
 | succ n ih =>
   rw [zCE]
   by_cases hkn : k = n
   · subst hkn
     rw [zKa (fun i hi => h i (by omega) (by omega))]; omega
   · rw [ih (by omega) (fun i hi hne => h i (by omega) hne), h n (by omega) (fun e => hkn e.symm)]; omega
theorem sumZ_two {f : Nat → Int} {n : Nat} (k l : Nat) (hk : k < n) (hl : l < n) (hkl : k ≠ l) (h : ∀ i, i < n → i ≠ k → i ≠ l → f i = 0) : zCE f n = f k + f l := by
 have e : zCE f n = zCE (fun i => (if i = k then f k else 0) + (if i = k then 0 else f i)) n := by
   refine zBR (fun i hi => ?_)
   by_cases hik : i = k
   · subst hik; simp
   · simp [hik]
 rw [e, zDX]
 rw [zDY k hk (fun i hi hne => by simp [hne]), zDY l hl (fun i hi hne => by
   by_cases hik : i = k
   · simp [hik]
   · simp [hik]; exact h i hi hik hne)]
 have : ¬ l = k := fun e => hkl e.symm
 simp [this]
abbrev V := Nat → Int
abbrev Mx := Nat → V
def sg : Nat → Int
 | 0 => 1
 | n + 1 => -sg n
def skip (i : Nat) (D : Mx) : Mx := fun a c => D (if a < i then a else a + 1) (c + 1)
def det : Nat → Mx → Int
 | 0, _ => 1
 | n + 1, D => zCE (fun i => sg i * (D i 0 * det n (skip i D))) (n + 1)
def put (D : Mx) (r : Nat) (v : V) : Mx := fun a => if a = r then v else D a
theorem zGQ : ∀ {n : Nat} {D E : Mx}, (∀ a c, a < n → c < n → D a c = E a c) → det n D = det n E
 | 0, _, _, _ => rfl
 | n + 1, D, E, h => by
   rw [det, det]
   refine zBR (fun i hi => ?_)
   rw [h i 0 hi (by omega), zGQ (D := skip i D) (E := skip i E) (fun a c ha hc => ?_)]
   unfold skip
   exact h _ _ (by split <;> omega) (by omega)
theorem zCe (D : Mx) (r : Nat) (v : V) : skip r (put D r v) = skip r D := by
 funext a c
 unfold skip put
 have : ¬ (if a < r then a else a + 1) = r := by split <;> omega
 rw [if_neg this]
theorem zGG {D : Mx} {i r : Nat} {v : V} (h : i ≠ r) : skip i (put D r v) = put (skip i D) (if r < i then r else r - 1) (fun c => v (c + 1)) := by
 funext a c
 unfold skip put
 by_cases hri : r < i
 · rw [if_pos hri]
   by_cases ha : a = r
   · subst ha; rw [if_pos hri]; simp
   · by_cases hai : a < i
     · simp [hai, ha]
     · have : ¬ a + 1 = r := by omega
       simp [hai, ha, this]
 · rw [if_neg hri]
   by_cases ha : a = r - 1
   · subst ha
     have h1 : ¬ r - 1 < i := by omega
     have h2 : r - 1 + 1 = r := by omega
     simp [h1, h2]
   · by_cases hai : a < i
     · have : ¬ a = r := by omega
       simp [hai, ha, this]
     · have : ¬ a + 1 = r := by omega
       simp [hai, ha, this]
/-- The determinant is linear in each row. -/
theorem zGU : ∀ (n : Nat) (D : Mx) (r : Nat) (u v : V), r < n → det n (put D r (fun c => u c + v c)) = det n (put D r u) + det n (put D r v)
 | 0, _, _, _, _, h => absurd h (Nat.not_lt_zero _)
 | n + 1, D, r, u, v, h => by
   rw [det, det, det, ← zDX]
   refine zBR (fun i hi => ?_)
   by_cases hir : i = r
   · subst hir
     rw [zCe, zCe, zCe]
     have e : ∀ w : V, put D i w i 0 = w 0 := fun w => by simp [put]
     rw [e, e, e, Int.add_mul, Int.mul_add]
   · have e : ∀ w : V, put D r w i 0 = D i 0 := fun w => by simp [put, hir]
     rw [zGG hir, zGG hir, zGG hir, e, e, e, zGU n _ _ _ _ (by split <;> omega), Int.mul_add, Int.mul_add]
theorem zFw : ∀ (n : Nat) (D : Mx) (r : Nat) (k : Int) (v : V), r < n → det n (put D r (fun c => k * v c)) = k * det n (put D r v)
 | 0, _, _, _, _, h => absurd h (Nat.not_lt_zero _)
 | n + 1, D, r, k, v, h => by
   rw [det, det, ← zFz]
   refine zBR (fun i hi => ?_)
   by_cases hir : i = r
   · subst hir
     rw [zCe, zCe]
     have e : ∀ w : V, put D i w i 0 = w 0 := fun w => by simp [put]
     rw [e, e, Int.mul_left_comm k, Int.mul_assoc]
   · have e : ∀ w : V, put D r w i 0 = D i 0 := fun w => by simp [put, hir]
     rw [zGG hir, zGG hir, e, e, zFw n _ _ _ _ (by split <;> omega), Int.mul_left_comm k, Int.mul_left_comm k]
theorem zLF (n : Nat) (D : Mx) (r : Nat) (h : r < n) : det n (put D r (fun _ => 0)) = 0 := by
 have := zFw n D r 0 (fun _ => 0) h
 simpa using this
/-- Two rows beside each other that are equal. -/
theorem zK1 : ∀ (n : Nat) (D : Mx) (r : Nat), r + 1 < n → (∀ c, c < n → D r c = D (r + 1) c) → det n D = 0
 | 0, _, _, h, _ => absurd h (Nat.not_lt_zero _)
 | n + 1, D, r, h, he => by
   rw [det, sumZ_two r (r + 1) (by omega) h (by omega) (fun i hi h1 h2 => ?_)]
   · have e : det n (skip r D) = det n (skip (r + 1) D) := zGQ (fun a c ha hc => by
       unfold skip
       by_cases h1 : a < r
       · rw [if_pos h1, if_pos (by omega)]
       · rw [if_neg h1]
         by_cases h2 : a < r + 1
         · have : a = r := by omega
           subst this
           rw [if_pos h2]; exact (he _ (by omega)).symm
         · rw [if_neg h2])
     rw [e, he 0 (by omega), sg, Int.neg_mul]
     omega
   · have := zK1 n (skip i D) (if r < i then r else r - 1) (by split <;> omega) (fun c hc => by
       unfold skip
       by_cases hri : r < i
       · rw [if_pos hri, if_pos (show r < i from hri), if_pos (show r + 1 < i by omega)]
         exact he _ (by omega)
       · have e1 : ¬ r - 1 < i := by omega
         have e2 : ¬ r - 1 + 1 < i := by omega
         rw [if_neg hri, if_neg e1, if_neg e2, show r - 1 + 1 = r by omega]
         exact he _ (by omega))
     rw [this, Int.mul_zero, Int.mul_zero]
theorem zER (D : Mx) {r s : Nat} (u v : V) (h : r ≠ s) : put (put D r u) s v = put (put D s v) r u := by
 funext a
 unfold put
 by_cases h1 : a = s
 · have : ¬ a = r := fun e => h (e.symm.trans h1)
   simp [h1]
   intro e; exact absurd e.symm h
 · simp [h1]
theorem zFp (D : Mx) (r : Nat) : put D r (D r) = D := by
 funext a; unfold put; split
 · rename_i h; rw [h]
 · rfl
/-- Exchange of two rows beside each other. -/
theorem det_swap (n : Nat) (D : Mx) (r : Nat) (u v : V) (h : r + 1 < n) : det n (put (put D r u) (r + 1) v) = - det n (put (put D r v) (r + 1) u) := by
 have key : ∀ w : V, det n (put (put D r w) (r + 1) w) = 0 := fun w => zK1 n _ r h (fun c _ => by unfold put; simp)
 have h0 := key (fun c => u c + v c)
 have add0 : ∀ w : V, det n (put (put D r (fun c => u c + v c)) (r + 1) w) = det n (put (put D r u) (r + 1) w) + det n (put (put D r v) (r + 1) w) := fun w => by
   rw [zER D _ w (by omega), zGU n _ _ _ _ (by omega), zER D u w (by omega), zER D v w (by omega)]
 rw [zGU n _ _ _ _ h, add0, add0] at h0
 have h1 := key u
 have h2 := key v
 omega
theorem zMq : ∀ (k : Nat) (n : Nat) (D : Mx) (r : Nat), r + (k + 1) < n → (∀ c, c < n → D r c = D (r + (k + 1)) c) → det n D = 0
 | 0, n, D, r, h, he => zK1 n D r h he
 | k + 1, n, D, r, h, he => by
   have e : D = put (put D (r + (k + 1)) (D (r + (k + 1)))) (r + (k + 1) + 1) (D (r + (k + 1) + 1)) := by
     rw [zFp, zFp]
   rw [e, det_swap n D (r + (k + 1)) _ _ (by omega), zMq k n _ r (by omega) (fun c hc => ?_)]
   · rfl
   · have h1 : ¬ r = r + (k + 1) + 1 := by omega
     have h2 : ¬ r = r + (k + 1) := by omega
     have h3 : ¬ r + (k + 1) = r + (k + 1) + 1 := by omega
     unfold put
     rw [if_neg h1, if_neg h2, if_neg h3, if_pos rfl]
     exact he c hc
theorem zOi (n : Nat) (D : Mx) {r s : Nat} (hr : r < n) (hs : s < n) (hne : r ≠ s) : det n (put D r (D s)) = 0 := by
 rcases Nat.lt_or_gt_of_ne hne with h | h
 · refine zMq (s - r - 1) n _ r (by omega) (fun c _ => ?_)
   rw [show r + (s - r - 1 + 1) = s by omega]
   have : ¬ s = r := fun e => hne e.symm
   simp [put, this]
 · refine zMq (r - s - 1) n _ s (by omega) (fun c _ => ?_)
   rw [show s + (r - s - 1 + 1) = r by omega]
   have : ¬ s = r := fun e => hne e.symm
   simp [put, this]
/-- A row that is a sum of multiples of the rows. -/
theorem zMV (n : Nat) (D : Mx) (r : Nat) (hr : r < n) (t : V) : ∀ k, k ≤ n → det n (put D r (fun c => zCE (fun i => t i * D i c) k)) = if r < k then t r * det n D else 0
 | 0, _ => by
   rw [if_neg (Nat.not_lt_zero _)]
   exact zLF n D r hr
 | k + 1, hk => by
   have ih := zMV n D r hr t k (by omega)
   have e : (fun c => zCE (fun i => t i * D i c) (k + 1)) = (fun c => (fun c => zCE (fun i => t i * D i c) k) c + (fun c => t k * D k c) c) := rfl
   rw [e, zGU n D r _ _ hr, ih, zFw n D r _ _ hr]
   by_cases hkr : k = r
   · subst hkr
     rw [if_neg (by omega), if_pos (by omega), zFp]; omega
   · rw [zOi n D hr (by omega) (fun e => hkr e.symm), Int.mul_zero, Int.add_zero]
     by_cases h1 : r < k
     · rw [if_pos h1, if_pos (by omega)]
     · rw [if_neg h1, if_neg (by omega)]
theorem zHQ {n : Nat} {D : Mx} {r : Nat} (hr : r < n) {t w : V} (h : ∀ c, c < n → w c = zCE (fun i => t i * D i c) n) : det n (put D r w) = t r * det n D := by
 have := zMV n D r hr t n (Nat.le_refl _)
 rw [if_pos hr] at this
 rw [← this]
 refine zGQ (fun a c _ hc => ?_)
 unfold put
 split
 · exact h c hc
 · rfl
def zGo : Mx := fun a c => if a = c then 1 else 0
theorem zMg : ∀ n : Nat, det n zGo = 1
 | 0 => rfl
 | n + 1 => by
   rw [det, zDY 0 (by omega) (fun i hi hne => by simp [zGo, hne])]
   have : det n (skip 0 zGo) = det n zGo := zGQ (fun a c _ _ => by simp [skip, zGo])
   rw [this, zMg n]; simp [sg, zGo]
def fct : Nat → Nat
 | 0 => 1
 | n + 1 => (n + 1) * fct n
/-- A column of the table, and the column of the beginning that it stands for. -/
def Sol (n : Nat) (D : Mx) (d : Int) (t0 t : V) : Prop := ∀ c, c < n → zCE (fun i => t i * D i c) n = d * t0 c
theorem sol_det {n : Nat} {D : Mx} {d s : Int} {t0 t : V} (hd : d ≠ 0) (hs : s * s = 1) (hD : det n D = s * d) (h : Sol n D d t0 t) {i : Nat} (hi : i < n) : t i = s * det n (put D i t0) := by
 have h1 := zHQ (w := fun c => d * t0 c) hi (fun c hc => (h c hc).symm)
 rw [zFw n D i d t0 hi, hD] at h1
 have h2 : d * det n (put D i t0) = d * (s * t i) := by rw [h1, Int.mul_left_comm, Int.mul_comm (t i) d, Int.mul_left_comm]
 have h3 := Int.eq_of_mul_eq_mul_left hd h2
 rw [h3, ← Int.mul_assoc, hs, Int.one_mul]
/-- The pivot: the determinant of the new rows, and exact quotients. -/
theorem zKd {n : Nat} {D : Mx} {d s : Int} {t0 t : V} (hd : d ≠ 0) (hs : s * s = 1) (hD : det n D = s * d) (h : Sol n D d t0 t) {r : Nat} (hr : r < n) : det n (put D r t0) = s * t r := by
 rw [sol_det hd hs hD h hr, ← Int.mul_assoc, hs, Int.one_mul]
theorem sumZ_put {n : Nat} {D : Mx} {r : Nat} (hr : r < n) (v : V) (t : V) (c : Nat) : zCE (fun i => t i * put D r v i c) n = zCE (fun i => t i * D i c) n - t r * D r c + t r * v c := by
 have e : ∀ i, i < n → t i * put D r v i c = t i * D i c + (if i = r then t r * v c - t r * D r c else 0) := by
   intro i hi
   by_cases hir : i = r
   · subst hir; simp [put]; omega
   · simp [put, hir]
 rw [zBR e, zDX, zDY (f := fun i => if i = r then t r * v c - t r * D r c else 0) r hr (fun i hi hne => by simp [hne])]
 simp; omega
theorem zKm {n : Nat} {D : Mx} {d s : Int} {tc0 tc tj0 tj : V} (hd : d ≠ 0) (hs : s * s = 1) (hD : det n D = s * d) (hc : Sol n D d tc0 tc) (hj : Sol n D d tj0 tj) {r : Nat} (hr : r < n) (hp : tc r ≠ 0) :
   (∀ i, i < n → i ≠ r → d ∣ tj i * tc r - tc i * tj r) ∧ Sol n (put D r tc0) (tc r) tj0 (fun i => if i = r then tj r else (tj i * tc r - tc i * tj r) / d) := by
 have hD' := zKd hd hs hD hc hr
 -- the numerators are a solution of d times the new equation
 let N : V := fun i => if i = r then d * tj r else tj i * tc r - tc i * tj r
 have hN : ∀ c, c < n → zCE (fun i => N i * put D r tc0 i c) n = d * tc r * tj0 c := by
   intro c hcn
   rw [sumZ_put hr]
   have e : ∀ i, i < n → N i * D i c = (tc r * (tj i * D i c) + (-(tj r)) * (tc i * D i c)) + (if i = r then d * tj r * D r c else 0) := by
     intro i hi
     by_cases hir : i = r
     · subst hir
       simp only [N, if_true]
       have : tc i * (tj i * D i c) + -tj i * (tc i * D i c) = 0 := by
         rw [Int.neg_mul, Int.mul_left_comm]; omega
       omega
     · simp only [N, hir, if_false, Int.add_zero]
       rw [Int.sub_mul, Int.neg_mul, Int.mul_comm (tj i) (tc r), Int.mul_assoc, Int.mul_comm (tc i) (tj r), Int.mul_assoc]; omega
   rw [zBR e, zDX, zDX, zFz, zFz, hj c hcn, hc c hcn, zDY (f := fun i => if i = r then d * tj r * D r c else 0) r hr (fun i hi hne => by simp [hne])]
   simp only [N, if_true]
   have e1 : tc r * (d * tj0 c) = d * tc r * tj0 c := by rw [← Int.mul_assoc, Int.mul_comm (tc r) d]
   have e2 : -tj r * (d * tc0 c) = -(d * tj r * tc0 c) := by rw [Int.neg_mul, ← Int.mul_assoc, Int.mul_comm (tj r) d]
   rw [e1, e2]; omega
 have hex : ∀ i, i < n → N i = d * (s * det n (put (put D r tc0) i tj0)) := by
   intro i hi
   have h1 := zHQ (D := put D r tc0) (w := fun c => d * tc r * tj0 c) hi (fun c hcn => (hN c hcn).symm)
   rw [zFw n _ i (d * tc r) tj0 hi, hD'] at h1
   have h2 : tc r * (d * (s * det n (put (put D r tc0) i tj0))) = tc r * N i := by
     have h3 : s * (d * tc r * det n (put (put D r tc0) i tj0)) = s * (N i * (s * tc r)) := by rw [h1]
     have h4 : s * (N i * (s * tc r)) = tc r * N i := by
       rw [Int.mul_left_comm, ← Int.mul_assoc s s, hs, Int.one_mul, Int.mul_comm]
     rw [h4] at h3
     rw [← h3]
     rw [Int.mul_assoc d, Int.mul_left_comm s d, Int.mul_left_comm s (tc r), Int.mul_left_comm d (tc r)]
   exact (Int.eq_of_mul_eq_mul_left hp h2).symm
 refine ⟨fun i hi hne => ?_, ?_⟩
 · have := hex i hi
   simp only [N, hne, if_false] at this
   exact ⟨_, this⟩
 · intro c hcn
   have h1 := hN c hcn
   have h2 : ∀ i, i < n → N i * put D r tc0 i c = d * ((fun i => if i = r then tj r else (tj i * tc r - tc i * tj r) / d) i * put D r tc0 i c) := by
     intro i hi
     by_cases hir : i = r
     · subst hir; simp only [N, if_true]; rw [Int.mul_assoc]
     · have h3 := hex i hi
       simp only [N, hir, if_false] at h3 ⊢
       have h4 : (tj i * tc r - tc i * tj r) / d = s * det n (put (put D r tc0) i tj0) := by rw [h3, Int.mul_ediv_cancel_left _ hd]
       rw [h4, ← Int.mul_assoc, ← h3]
   rw [zBR h2, zFz, Int.mul_assoc d] at h1
   exact Int.eq_of_mul_eq_mul_left hd h1
end Go.Ax.Dt
namespace Go.Ax.Dt
/-- The quotient of the absolute values, with the sign of the quotient. -/
def zJr (x d : Int) : Int := if (decide (x < 0) != decide (d < 0)) = true then -((x.natAbs / d.natAbs : Nat) : Int) else ((x.natAbs / d.natAbs : Nat) : Int)
theorem zPe {q d : Int} (hd : d ≠ 0) : zJr (d * q) d = q := by
 have hn : (d * q).natAbs / d.natAbs = q.natAbs := by rw [Int.natAbs_mul, Nat.mul_div_cancel_left _ (by omega)]
 unfold zJr
 rw [hn]
 rcases Int.lt_trichotomy q 0 with hq | hq | hq
 · rcases Int.lt_or_gt_of_ne hd with h | h
   · have h1 : ¬ d * q < 0 := Int.not_lt.2 (Int.le_of_lt (Int.mul_pos_of_neg_of_neg h hq))
     simp [h, h1]; omega
   · have h1 : d * q < 0 := Int.mul_neg_of_pos_of_neg h hq
     have h2 : ¬ d < 0 := by omega
     simp [h1, h2]; omega
 · subst hq; simp
 · rcases Int.lt_or_gt_of_ne hd with h | h
   · have h1 : d * q < 0 := Int.mul_neg_of_neg_of_pos h hq
     simp [h, h1]; omega
   · have h1 : ¬ d * q < 0 := Int.not_lt.2 (Int.le_of_lt (Int.mul_pos h hq))
     have h2 : ¬ d < 0 := by omega
     simp [h1, h2]; omega
theorem zPk {x d : Int} (hd : d ≠ 0) (h : d ∣ x) : zJr x d = x / d := by
 obtain ⟨q, rfl⟩ := h
 rw [zPe hd, Int.mul_ediv_cancel_left _ hd]
abbrev Tab := List (List Int)
def at2 (T : Tab) (i j : Nat) : Int := (T.getD i []).getD j 0
/-- The first row at or behind i that has no 0 in a column. -/
def zFN (T : Tab) (c : Nat) : Nat → Nat → Nat
 | 0, i => i
 | f + 1, i => if at2 T i c = 0 then zFN T c f (i + 1) else i
theorem zHo (T : Tab) (c : Nat) : ∀ f i, i ≤ zFN T c f i ∧ zFN T c f i ≤ i + f ∧ (∀ a, i ≤ a → a < zFN T c f i → at2 T a c = 0) ∧ (zFN T c f i < i + f → at2 T (zFN T c f i) c ≠ 0)
 | 0, i => ⟨Nat.le_refl _, Nat.le_refl _, fun a h1 h2 => absurd h2 (by rw [zFN]; omega), fun h => absurd h (by rw [zFN]; omega)⟩
 | f + 1, i => by
   rw [zFN]
   by_cases h : at2 T i c = 0
   · rw [if_pos h]
     obtain ⟨h1, h2, h3, h4⟩ := zHo T c f (i + 1)
     refine ⟨by omega, by omega, fun a ha hb => ?_, fun hb => h4 (by omega)⟩
     by_cases e : a = i
     · rw [e]; exact h
     · exact h3 a (by omega) hb
   · rw [if_neg h]
     exact ⟨Nat.le_refl _, by omega, fun a h1 h2 => absurd h2 (by omega), fun _ => h⟩
def zBB (T : Tab) (i k : Nat) : Tab := (T.set i (T.getD k [])).set k (T.getD i [])
def swp (i k a : Nat) : Nat := if a = k then i else if a = i then k else a
def zHG (R K : List Int) (p f d : Int) : List Int := (List.range R.length).map (fun j => zJr (R.getD j 0 * p - f * K.getD j 0) d)
def zC8 (T : Tab) (k c : Nat) (d : Int) : Tab := (List.range T.length).map (fun i => if i = k then T.getD k [] else zHG (T.getD i []) (T.getD k []) (at2 T k c) (at2 T i c) d)
structure Red where
 T : Tab
 piv : List Nat
 last : Int
 neg : Bool
def zHp (r : Red) (c : Nat) : Red :=
 if r.T.length ≤ r.piv.length then r
 else if zFN r.T c (r.T.length - r.piv.length) r.piv.length = r.T.length then r
 else ⟨zC8 (zBB r.T (zFN r.T c (r.T.length - r.piv.length) r.piv.length) r.piv.length) r.piv.length c r.last, r.piv ++ [c], at2 (zBB r.T (zFN r.T c (r.T.length - r.piv.length) r.piv.length) r.piv.length) r.piv.length c, if zFN r.T c (r.T.length - r.piv.length) r.piv.length = r.piv.length then r.neg else !r.neg⟩
def redN (M : Tab) : Nat → Red
 | 0 => ⟨M, [], 1, false⟩
 | c + 1 => zHp (redN M c) c
theorem getD_set {α : Type} (l : List α) (d x : α) (i j : Nat) : (l.set i x).getD j d = if j = i ∧ i < l.length then x else l.getD j d := by
 by_cases h : j = i
 · subst h
   by_cases h2 : j < l.length
   · simp [List.getD, h2]
   · have : l.length ≤ j := by omega
     simp [List.getD, h2, this]
 · have : ¬ i = j := fun e => h e.symm
   simp [List.getD, h, List.getElem?_set, this]
theorem zFD (T : Tab) (i k : Nat) : (zBB T i k).length = T.length := by simp [zBB]
theorem zH3 (T : Tab) {i k : Nat} (hi : i < T.length) (hk : k < T.length) (a : Nat) : (zBB T i k).getD a [] = T.getD (swp i k a) [] := by
 unfold zBB swp
 rw [getD_set, List.length_set, getD_set]
 by_cases h1 : a = k
 · simp [h1, hk]
 · by_cases h2 : a = i
   · have h3 : ¬ i = k := fun e => h1 (h2.trans e)
     simp [h1, h2, hi, h3]
   · simp [h1, h2]
theorem zNH (T : Tab) {k : Nat} (hk : k < T.length) : zBB T k k = T := by
 refine List.ext_getElem (zFD _ _ _) (fun a h1 h2 => ?_)
 have := zH3 T hk hk a
 have e : swp k k a = a := by unfold swp; split <;> simp_all
 rw [e] at this
 simpa [List.getD, h1, h2] using this
theorem zEO (T : Tab) {i k : Nat} (hi : i < T.length) (hk : k < T.length) (a j : Nat) : at2 (zBB T i k) a j = at2 T (swp i k a) j := by
 unfold at2; rw [zH3 T hi hk]
theorem zPD (T : Tab) (k c : Nat) (d : Int) : (zC8 T k c d).length = T.length := by simp [zC8]
theorem zPm (T : Tab) (k c : Nat) (d : Int) {i : Nat} (hi : i < T.length) : (zC8 T k c d).getD i [] = if i = k then T.getD k [] else zHG (T.getD i []) (T.getD k []) (at2 T k c) (at2 T i c) d := by
 unfold zC8
 simp [List.getD, hi]
theorem zIv (T : Tab) (k c : Nat) (d : Int) {L : Nat} (hT : ∀ x ∈ T, x.length = L) {i j : Nat} (hi : i < T.length) (hj : j < L) : at2 (zC8 T k c d) i j = if i = k then at2 T k j else zJr (at2 T i j * at2 T k c - at2 T i c * at2 T k j) d := by
 unfold at2
 rw [zPm T k c d hi]
 have hl : (T.getD i []).length = L := hT _ (by simp [List.getD, hi])
 by_cases h : i = k
 · rw [if_pos h, if_pos h]
 · rw [if_neg h, if_neg h]
   unfold zHG
   rw [hl]
   have : ∀ f : Nat → Int, ((List.range L).map f).getD j 0 = f j := fun f => by simp [List.getD, hj]
   rw [this]; rfl
theorem zMe (R K : List Int) (p f d : Int) : (zHG R K p f d).length = R.length := by simp [zHG]
theorem zPJ (T : Tab) (k c : Nat) (d : Int) {L : Nat} (hk : k < T.length) (hT : ∀ x ∈ T, x.length = L) : ∀ x ∈ zC8 T k c d, x.length = L := by
 intro x hx
 obtain ⟨i, hi, rfl⟩ := List.mem_map.1 hx
 have hi : i < T.length := by simpa using hi
 split
 · exact hT _ (by simp [List.getD, hk])
 · rw [zMe]; exact hT _ (by simp [List.getD, hi])
theorem zO4 (T : Tab) {i k : Nat} (hi : i < T.length) (hk : k < T.length) {L : Nat} (hT : ∀ x ∈ T, x.length = L) : ∀ x ∈ zBB T i k, x.length = L := by
 intro x hx
 obtain ⟨a, ha, rfl⟩ := List.getElem_of_mem hx
 have h1 := zH3 T hi hk a
 have h2 : swp i k a < T.length := by rw [zFD] at ha; unfold swp; split; exact hi; split; exact hk; exact ha
 have h3 : (zBB T i k).getD a [] = (zBB T i k)[a] := by simp [List.getD, ha]
 rw [h3] at h1
 rw [h1]; exact hT _ (by simp [List.getD, h2])
/-- Exchange of two rows. -/
theorem det_exch (n : Nat) (D : Mx) {r s : Nat} (hr : r < n) (hs : s < n) (hne : r ≠ s) (u v : V) : det n (put (put D r u) s v) = - det n (put (put D r v) s u) := by
 have key : ∀ w : V, det n (put (put D r w) s w) = 0 := fun w => by
   have := zOi n (put D s w) hr hs hne
   rw [show put D s w s = w by simp [put]] at this
   rwa [zER D w w hne]
 have h0 := key (fun c => u c + v c)
 have add0 : ∀ w : V, det n (put (put D r (fun c => u c + v c)) s w) = det n (put (put D r u) s w) + det n (put (put D r v) s w) := fun w => by
   rw [zER D _ w hne, zGU n _ _ _ _ hr, zER D u w hne, zER D v w hne]
 rw [zGU n _ _ _ _ hs, add0, add0] at h0
 have h1 := key u
 have h2 := key v
 omega
theorem det_swp (n : Nat) (D : Mx) {i k : Nat} (hi : i < n) (hk : k < n) (hne : i ≠ k) : det n (fun a => D (swp i k a)) = - det n D := by
 have e1 : (fun a => D (swp i k a)) = put (put D i (D k)) k (D i) := by
   funext a
   unfold put swp
   by_cases h1 : a = k
   · rw [if_pos h1, if_pos h1]
   · by_cases h2 : a = i
     · rw [if_neg h1, if_pos h2, if_neg h1, if_pos h2]
     · rw [if_neg h1, if_neg h2, if_neg h1, if_neg h2]
 rw [e1, det_exch n D hi hk hne, zFp, zFp]
theorem sumZ_swp (f : Nat → Int) (n : Nat) {i k : Nat} (hi : i < n) (hk : k < n) : zCE (fun a => f (swp i k a)) n = zCE f n := by
 by_cases hne : i = k
 · subst hne
   refine zBR (fun a _ => ?_)
   unfold swp; split <;> simp_all
 have e : ∀ a, a < n → f (swp i k a) = f a + ((if a = i then f k - f i else 0) + (if a = k then f i - f k else 0)) := by
   intro a _
   unfold swp
   by_cases h1 : a = k
   · have h2 : ¬ a = i := fun e => hne (e.symm.trans h1)
     rw [if_pos h1, if_neg h2, if_pos h1, h1]; omega
   · by_cases h2 : a = i
     · rw [if_neg h1, if_pos h2, if_pos h2, if_neg h1, h2]; omega
     · rw [if_neg h1, if_neg h2, if_neg h2, if_neg h1]; omega
 rw [zBR e, zDX, zDX, zDY (f := fun a => if a = i then f k - f i else 0) i hi (fun a _ h => by simp [h]), zDY (f := fun a => if a = k then f i - f k else 0) k hk (fun a _ h => by simp [h])]
 simp; omega
/-- The table during the elimination, after so many columns. -/
structure RInv (n L B : Nat) (M : Tab) (c : Nat) (r : Red) : Prop where
 len : r.T.length = n
 row : ∀ x ∈ r.T, x.length = L
 pl : r.piv.length ≤ n
 pc : r.piv.length ≤ c
 full : r.piv.length = c → r.piv = List.range c
 last : r.last ≠ 0
 zero : ∀ i j, r.piv.length ≤ i → i < n → j < c → at2 r.T i j = 0
 base : ∃ (D : Mx) (s : Int), s * s = 1 ∧ det n D = s * r.last ∧ (∀ j, j < L → Sol n D r.last (fun a => at2 M a j) (fun i => at2 r.T i j)) ∧ (∀ a, a < r.piv.length → ∀ e, D a e = at2 M e (r.piv.getD a 0)) ∧ (∀ a e, a < n → e < n → (D a e).natAbs ≤ B)
theorem RInv.init {n L B : Nat} {M : Tab} (h1 : M.length = n) (h2 : ∀ x ∈ M, x.length = L) (hB : 1 ≤ B) : RInv n L B M 0 (redN M 0) where
 len := h1
 row := h2
 pl := Nat.zero_le _
 pc := Nat.zero_le _
 full := fun _ => rfl
 last := by show (1 : Int) ≠ 0; decide
 zero := fun i j _ _ hj => absurd hj (Nat.not_lt_zero _)
 base := by
   refine ⟨zGo, 1, rfl, by rw [zMg]; rfl, fun j _ e he => ?_, fun a ha => absurd ha (Nat.not_lt_zero _), fun a e _ _ => ?_⟩
   · rw [zDY e he (fun i _ hne => by simp [zGo, hne])]
     simp [zGo, redN]
   · unfold zGo; split <;> simp <;> omega
/-- Rows exchanged. -/
theorem RInv.swap {n L B c : Nat} {M : Tab} {r : Red} (h : RInv n L B M c r) {i : Nat} (hk : r.piv.length < n) (hki : r.piv.length ≤ i) (hi : i < n) : RInv n L B M c { r with T := zBB r.T i r.piv.length } where
 len := by rw [zFD]; exact h.len
 row := zO4 _ (by rw [h.len]; exact hi) (by rw [h.len]; exact hk) h.row
 pl := h.pl
 pc := h.pc
 full := h.full
 last := h.last
 zero := fun a j h1 h2 h3 => by
   show at2 (zBB r.T i r.piv.length) a j = 0
   rw [zEO _ (by rw [h.len]; exact hi) (by rw [h.len]; exact hk)]
   have h1 : r.piv.length ≤ a := h1
   refine h.zero _ j ?_ ?_ h3
   · unfold swp; split; exact hki; split; exact Nat.le_refl _; exact h1
   · unfold swp; split; exact hi; split; exact hk; exact h2
 base := by
   obtain ⟨D, s, hs, hD, hS, hp, hB⟩ := h.base
   by_cases e : i = r.piv.length
   · have : zBB r.T i r.piv.length = r.T := by rw [e]; exact zNH _ (by rw [h.len]; exact hk)
     show ∃ (D : Mx) (s : Int), s * s = 1 ∧ det n D = s * r.last ∧ (∀ j, j < L → Sol n D r.last (fun a => at2 M a j) (fun a => at2 (zBB r.T i r.piv.length) a j)) ∧ (∀ a, a < r.piv.length → ∀ e, D a e = at2 M e (r.piv.getD a 0)) ∧ (∀ a e, a < n → e < n → (D a e).natAbs ≤ B)
     rw [this]
     exact ⟨D, s, hs, hD, hS, hp, hB⟩
   · refine ⟨fun a => D (swp i r.piv.length a), -s, by rw [Int.neg_mul_neg]; exact hs, by rw [det_swp n D hi hk e, hD, Int.neg_mul], fun j hj e he => ?_, fun a ha e => ?_, fun a e ha he => ?_⟩
     · have := hS j hj e he
       show zCE (fun a => at2 (zBB r.T i r.piv.length) a j * D (swp i r.piv.length a) e) n = r.last * at2 M e j
       rw [← this, ← sumZ_swp (fun a => at2 r.T a j * D a e) n hi hk]
       refine zBR (fun a _ => ?_)
       rw [zEO _ (by rw [h.len]; exact hi) (by rw [h.len]; exact hk)]
     · have ha : a < r.piv.length := ha
       have : swp i r.piv.length a = a := by unfold swp; rw [if_neg (by omega), if_neg (by omega)]
       show D (swp i r.piv.length a) e = _
       rw [this]; exact hp a ha e
     · refine hB _ e ?_ he
       unfold swp; split; exact hi; split; exact hk; exact ha
/-- One elimination. -/
theorem RInv.elim {n L B c : Nat} {M : Tab} {r : Red} (h : RInv n L B M c r) (hk : r.piv.length < n) (hc : c < L) (hp : at2 r.T r.piv.length c ≠ 0) (hB : ∀ a j, a < n → j < L → (at2 M a j).natAbs ≤ B) (b : Bool) :
   RInv n L B M (c + 1) ⟨zC8 r.T r.piv.length c r.last, r.piv ++ [c], at2 r.T r.piv.length c, b⟩ ∧
   ∀ i j, i < n → i ≠ r.piv.length → j < L → at2 (zC8 r.T r.piv.length c r.last) i j * r.last = at2 r.T i j * at2 r.T r.piv.length c - at2 r.T i c * at2 r.T r.piv.length j := by
 obtain ⟨D, s, hs, hD, hS, hpv, hBD⟩ := h.base
 have hl := h.len
 have hex : ∀ i j, i < n → i ≠ r.piv.length → j < L → r.last ∣ at2 r.T i j * at2 r.T r.piv.length c - at2 r.T i c * at2 r.T r.piv.length j := fun i j hi hne hj =>
   (zKm h.last hs hD (hS c hc) (hS j hj) hk hp).1 i hi hne
 have hat : ∀ i j, i < n → j < L → at2 (zC8 r.T r.piv.length c r.last) i j = if i = r.piv.length then at2 r.T r.piv.length j else (at2 r.T i j * at2 r.T r.piv.length c - at2 r.T i c * at2 r.T r.piv.length j) / r.last := by
   intro i j hi hj
   rw [zIv _ _ _ _ h.row (by omega) hj]
   by_cases e : i = r.piv.length
   · rw [if_pos e, if_pos e]
   · rw [if_neg e, if_neg e, zPk h.last (hex i j hi e hj)]
 refine ⟨⟨by rw [zPD]; exact hl, zPJ _ _ _ _ (by omega) h.row, by simp; omega, by have := h.pc; simp; omega, fun hf => ?_, hp, fun i j h1 h2 h3 => ?_, ?_⟩, fun i j hi hne hj => ?_⟩
 · have hf : (r.piv ++ [c]).length = c + 1 := hf
   rw [List.length_append, List.length_singleton] at hf
   show r.piv ++ [c] = _
   rw [h.full (by omega), List.range_succ]
 · have h1 : (r.piv ++ [c]).length ≤ i := h1
   rw [List.length_append, List.length_singleton] at h1
   show at2 (zC8 r.T r.piv.length c r.last) i j = 0
   rw [hat i j h2 (by omega), if_neg (by omega)]
   by_cases e : j = c
   · subst e
     rw [Int.sub_self, Int.zero_ediv]
   · rw [h.zero i j (by omega) h2 (by omega), h.zero r.piv.length j (Nat.le_refl _) hk (by omega), Int.zero_mul, Int.mul_zero, Int.sub_self, Int.zero_ediv]
 · refine ⟨put D r.piv.length (fun a => at2 M a c), s, hs, zKd h.last hs hD (hS c hc) hk, fun j hj e he => ?_, fun a ha e => ?_, fun a e ha he => ?_⟩
   · have h1 := (zKm h.last hs hD (hS c hc) (hS j hj) hk hp).2 e he
     rw [← h1]
     refine zBR (fun i hi => ?_)
     show at2 (zC8 r.T r.piv.length c r.last) i j * _ = _
     rw [hat i j hi hj]
   · have ha : a < (r.piv ++ [c]).length := ha
     rw [List.length_append, List.length_singleton] at ha
     show put D r.piv.length (fun a => at2 M a c) a e = at2 M e ((r.piv ++ [c]).getD a 0)
     by_cases e1 : a = r.piv.length
     · subst e1
       simp [put, List.getD]
     · have h2 : a < r.piv.length := by omega
       have h3 := hpv a h2 e
       simp only [put, e1, if_false]
       rw [h3]
       simp [List.getD, List.getElem?_append_left h2]
   · unfold put
     split
     · exact hB e c he hc
     · exact hBD a e ha he
 · rw [hat i j hi hj, if_neg hne, Int.ediv_mul_cancel (hex i j hi hne hj)]
/-- A column without a pivot. -/
theorem RInv.none {n L B c : Nat} {M : Tab} {r : Red} (h : RInv n L B M c r) (hz : ∀ i, r.piv.length ≤ i → i < n → at2 r.T i c = 0) : RInv n L B M (c + 1) r where
 len := h.len
 row := h.row
 pl := h.pl
 pc := by have := h.pc; omega
 full := fun e => absurd e (by have := h.pc; omega)
 last := h.last
 zero := fun i j h1 h2 h3 => by
   by_cases e : j = c
   · subst e; exact hz i h1 h2
   · exact h.zero i j h1 h2 (by omega)
 base := h.base
theorem RInv.col {n L B c : Nat} {M : Tab} {r : Red} (h : RInv n L B M c r) (hc : c < L) (hB : ∀ a j, a < n → j < L → (at2 M a j).natAbs ≤ B) : RInv n L B M (c + 1) (zHp r c) := by
 unfold zHp
 by_cases h1 : r.T.length ≤ r.piv.length
 · rw [if_pos h1]
   exact h.none (fun i h2 h3 => absurd h3 (by have := h.len; omega))
 rw [if_neg h1]
 have hl := h.len
 have hk : r.piv.length < n := by omega
 obtain ⟨p1, p2, p3, p4⟩ := zHo r.T c (r.T.length - r.piv.length) r.piv.length
 rw [show r.piv.length + (r.T.length - r.piv.length) = r.T.length by omega] at p2 p4
 by_cases h2 : zFN r.T c (r.T.length - r.piv.length) r.piv.length = r.T.length
 · rw [if_pos h2]
   exact h.none (fun i h3 h4 => p3 i h3 (by omega))
 rw [if_neg h2]
 have hi : zFN r.T c (r.T.length - r.piv.length) r.piv.length < n := by omega
 have hs := h.swap hk p1 hi
 refine (hs.elim hk hc ?_ hB _).1
 show at2 (zBB r.T _ r.piv.length) r.piv.length c ≠ 0
 rw [zEO _ (by omega) (by omega)]
 have : ∀ i k, swp i k k = i := fun i k => by unfold swp; rw [if_pos rfl]
 rw [this]
 exact p4 (by omega)
theorem RInv.all {n L B w : Nat} {M : Tab} (h1 : M.length = n) (h2 : ∀ x ∈ M, x.length = L) (h3 : 1 ≤ B) (hw : w ≤ L) (hB : ∀ a j, a < n → j < L → (at2 M a j).natAbs ≤ B) : RInv n L B M w (redN M w) := by
 induction w with
 | zero => exact RInv.init h1 h2 h3
 | succ c ih => exact (ih (by omega)).col (by omega) hB
/-- Rows that are proportional have their pivots in the same places. -/
structure Prop2 (n w : Nat) (r r' : Red) : Prop where
 piv : r'.piv = r.piv
 rows : ∀ i, i < n → ∃ α β : Int, α ≠ 0 ∧ β ≠ 0 ∧ ∀ j, j < w → α * at2 r'.T i j = β * at2 r.T i j
theorem zKJ {n : Nat} {T T' : Tab} {c : Nat} (h : ∀ i, i < n → (at2 T' i c = 0 ↔ at2 T i c = 0)) : ∀ f i, i + f ≤ n → zFN T' c f i = zFN T c f i
 | 0, i, _ => rfl
 | f + 1, i, hi => by
   rw [zFN, zFN]
   by_cases e : at2 T i c = 0
   · rw [if_pos e, if_pos ((h i (by omega)).2 e)]
     exact zKJ h f (i + 1) (by omega)
   · rw [if_neg e, if_neg (fun q => e ((h i (by omega)).1 q))]
theorem Prop2.zero {n w : Nat} {r r' : Red} (h : Prop2 n w r r') {i j : Nat} (hi : i < n) (hj : j < w) : at2 r'.T i j = 0 ↔ at2 r.T i j = 0 := by
 obtain ⟨α, β, ha, hb, he⟩ := h.rows i hi
 have := he j hj
 constructor
 · intro e; rw [e, Int.mul_zero] at this
   rcases Int.mul_eq_zero.1 this.symm with q | q
   · exact absurd q hb
   · exact q
 · intro e; rw [e, Int.mul_zero] at this
   rcases Int.mul_eq_zero.1 this with q | q
   · exact absurd q ha
   · exact q
theorem Prop2.col {n w L L' B B' c : Nat} {M M' : Tab} {r r' : Red} (h : Prop2 n w r r') (hr : RInv n L B M c r) (hr' : RInv n L' B' M' c r') (hc : c < w) (hw : w ≤ L) (hw' : w ≤ L')
   (hB : ∀ a j, a < n → j < L → (at2 M a j).natAbs ≤ B) (hB' : ∀ a j, a < n → j < L' → (at2 M' a j).natAbs ≤ B') : Prop2 n w (zHp r c) (zHp r' c) := by
 have hl := hr.len
 have hl' := hr'.len
 have hpp := h.piv
 unfold zHp
 rw [hpp, hl, hl']
 by_cases h1 : n ≤ r.piv.length
 · rw [if_pos h1, if_pos h1]; exact h
 rw [if_neg h1, if_neg h1]
 have hk : r.piv.length < n := by omega
 have hsame := zKJ (fun i hi => h.zero (j := c) hi hc) (n - r.piv.length) r.piv.length (by omega)
 rw [hsame]
 obtain ⟨p1, p2, p3, p4⟩ := zHo r.T c (n - r.piv.length) r.piv.length
 rw [show r.piv.length + (n - r.piv.length) = n by omega] at p2 p4
 generalize zFN r.T c (n - r.piv.length) r.piv.length = i at *
 by_cases h2 : i = n
 · rw [if_pos h2, if_pos h2]; exact h
 rw [if_neg h2, if_neg h2]
 have hi : i < n := by omega
 have hsw : ∀ i k, swp i k k = i := fun i k => by unfold swp; rw [if_pos rfl]
 have hs := hr.swap hk p1 hi
 have hs' := hr'.swap (by rw [hpp]; exact hk) (by rw [hpp]; exact p1) hi
 have n1 : at2 (zBB r.T i r.piv.length) r.piv.length c ≠ 0 := by
   rw [zEO _ (by omega) (by omega), hsw]; exact p4 hi
 have n2 : at2 (zBB r'.T i r'.piv.length) r'.piv.length c ≠ 0 := by
   rw [zEO _ (by omega) (by rw [hpp]; omega), hsw]
   exact fun q => p4 hi ((h.zero hi hc).1 q)
 have e1 := (hs.elim hk (by omega) n1 hB true).2
 have e2 := (hs'.elim (by rw [hpp]; exact hk) (by omega) n2 hB' true).2
 simp only [hpp] at e2 n2
 have hsr : ∀ a, a < n → ∃ α β : Int, α ≠ 0 ∧ β ≠ 0 ∧ ∀ j, j < w → α * at2 (zBB r'.T i r.piv.length) a j = β * at2 (zBB r.T i r.piv.length) a j := by
   intro a ha
   have hb : swp i r.piv.length a < n := by unfold swp; split; exact hi; split; exact hk; exact ha
   obtain ⟨α, β, q1, q2, q3⟩ := h.rows _ hb
   refine ⟨α, β, q1, q2, fun j hj => ?_⟩
   rw [zEO _ (by omega) (by omega), zEO _ (by omega) (by omega)]
   exact q3 j hj
 refine ⟨rfl, fun a ha => ?_⟩
 obtain ⟨α, β, q1, q2, q3⟩ := hsr a ha
 by_cases hak : a = r.piv.length
 · refine ⟨α, β, q1, q2, fun j hj => ?_⟩
   show α * at2 (zC8 (zBB r'.T i r.piv.length) r.piv.length c r'.last) a j = β * at2 (zC8 (zBB r.T i r.piv.length) r.piv.length c r.last) a j
   rw [zIv _ _ _ _ hs.row (by rw [zFD]; omega) (by omega), zIv (zBB r'.T i r.piv.length) _ _ _ (by have := hs'.row; simp only [hpp] at this; exact this) (by rw [zFD]; omega) (by omega : j < L'), if_pos hak, if_pos hak]
   rw [hak] at q3
   exact q3 j hj
 · obtain ⟨γ, δ, k1, k2, k3⟩ := hsr r.piv.length hk
   refine ⟨α * γ * r'.last, β * δ * r.last, Int.mul_ne_zero (Int.mul_ne_zero q1 k1) hr'.last, Int.mul_ne_zero (Int.mul_ne_zero q2 k2) hr.last, fun j hj => ?_⟩
   have z1 := e1 a j ha hak (by omega)
   have z2 := e2 a j ha hak (by omega)
   have aj := q3 j hj
   have ac := q3 c hc
   have kj := k3 j hj
   have kc := k3 c hc
   show α * γ * r'.last * at2 (zC8 (zBB r'.T i r.piv.length) r.piv.length c r'.last) a j = β * δ * r.last * at2 (zC8 (zBB r.T i r.piv.length) r.piv.length c r.last) a j
   generalize at2 (zC8 (zBB r'.T i r.piv.length) r.piv.length c r'.last) a j = X' at *
   generalize at2 (zC8 (zBB r.T i r.piv.length) r.piv.length c r.last) a j = X at *
   generalize at2 (zBB r'.T i r.piv.length) a j = A' at *
   generalize at2 (zBB r.T i r.piv.length) a j = A at *
   generalize at2 (zBB r'.T i r.piv.length) a c = C' at *
   generalize at2 (zBB r.T i r.piv.length) a c = C at *
   generalize at2 (zBB r'.T i r.piv.length) r.piv.length j = K' at *
   generalize at2 (zBB r.T i r.piv.length) r.piv.length j = K at *
   generalize at2 (zBB r'.T i r.piv.length) r.piv.length c = P' at *
   generalize at2 (zBB r.T i r.piv.length) r.piv.length c = P at *
   generalize r'.last = l' at *
   generalize r.last = l at *
   have w1 : α * γ * l' * X' = (α * A') * (γ * P') - (α * C') * (γ * K') := by
     rw [show α * γ * l' * X' = α * γ * (X' * l') by grind, z2]; grind
   have w2 : β * δ * l * X = (β * A) * (δ * P) - (β * C) * (δ * K) := by
     rw [show β * δ * l * X = β * δ * (X * l) by grind, z1]; grind
   rw [w1, w2, aj, ac, kj, kc]
theorem Prop2.all {n w L L' B B' : Nat} {M M' : Tab} (h1 : M.length = n) (h2 : ∀ x ∈ M, x.length = L) (h1' : M'.length = n) (h2' : ∀ x ∈ M', x.length = L') (h3 : 1 ≤ B) (h3' : 1 ≤ B') (hw : w ≤ L) (hw' : w ≤ L')
   (hB : ∀ a j, a < n → j < L → (at2 M a j).natAbs ≤ B) (hB' : ∀ a j, a < n → j < L' → (at2 M' a j).natAbs ≤ B') (hs : ∀ i, i < n → ∃ α β : Int, α ≠ 0 ∧ β ≠ 0 ∧ ∀ j, j < w → α * at2 M' i j = β * at2 M i j) :
   ∀ c, c ≤ w → Prop2 n w (redN M c) (redN M' c)
 | 0, _ => ⟨rfl, hs⟩
 | c + 1, hc => (Prop2.all h1 h2 h1' h2' h3 h3' hw hw' hB hB' hs c (by omega)).col (RInv.all h1 h2 h3 (by omega) hB) (RInv.all h1' h2' h3' (by omega) hB') (by omega) hw hw' hB hB'
end Go.Ax.Dt
namespace Go.Ax.Rt
open Go.Ax.Bg Go.Ax.Dt
theorem zAp {α : Type} {l : List α} {j : Nat} (d : α) (h : j < l.length) : l.getD j d = l[j] := by simp [List.getD, h]
theorem zAl {α : Type} {l : List α} {j : Nat} (d : α) (h : j < l.length) : l.getD j d ∈ l := by rw [zAp d h]; exact List.getElem_mem h
theorem zHD {α : Type} {l r : List α} {j : Nat} (d : α) (h : j < l.length) : (l ++ r).getD j d = l.getD j d := by simp [List.getD, List.getElem?_append_left h]
theorem get_end {α : Type} {l : List α} {x d : α} : (l ++ [x]).getD l.length d = x := by simp [List.getD]
theorem num_den (q : Rat) : q * (q.den : Rat) = (q.num : Rat) := by
 have h : ((q.den : Int) : Rat) ≠ 0 := fun e => q.den_nz (by
   have := congrArg Rat.num e
   simpa using this)
 have h2 := Rat.num_divInt_den q
 rw [Rat.divInt_eq_div] at h2
 conv => lhs; lhs; rw [← h2]
 rw [← Rat.intCast_natCast, Rat.div_mul_cancel h]
/-- The factor that makes a row whole. -/
def facF : Nat → List Rat → Nat
 | f, [] => f
 | f, q :: r => facF (f * (q.den / Nat.gcd f q.den)) r
def wholeL (l : List Rat) : List Int := l.map (fun q => q.num * ((facF 1 l / q.den : Nat) : Int))
/-- SolveOf: rows with the right side at their end. -/
def solT (rows : List (List Rat)) (w : Nat) : Red := redN (rows.map wholeL) w
def zMy (rows : List (List Rat)) (w : Nat) : List Rat × Int :=
 if ((solT rows w).T.drop (solT rows w).piv.length).any (fun r => decide (r.getD w 0 ≠ 0)) then ([], 8)
 else if (solT rows w).piv.length < w then ([], 18)
 else ((List.range w).map (fun k => Rat.divInt (at2 (solT rows w).T k w) (at2 (solT rows w).T k k)), 0)
def augQ (m : List (List Rat)) (b : List Rat) : List (List Rat) := (List.range m.length).map (fun i => m.getD i [] ++ [b.getD i 0])
/-- matrix.Solve -/
def solveR (m : List (List zAK)) (b : List zAK) : List zAK × Int :=
 if zHI m ≠ 0 then ([], zHI m) else if zIa b ≠ 0 then ([], zIa b) else if b.length ≠ m.length then ([], 3)
 else if (zMy (augQ (inM m) (b.map zAQ)) (zDr m)).2 ≠ 0 then ([], (zMy (augQ (inM m) (b.map zAQ)) (zDr m)).2) else zBD (zMy (augQ (inM m) (b.map zAQ)) (zDr m)).1
def zOq : Nat → List (List Rat) → Nat
 | f, [] => f
 | f, r :: rs => zOq (f * facF 1 r) rs
def detQ (rows : List (List Rat)) : Rat := Rat.divInt (if (solT rows rows.length).neg then -(solT rows rows.length).last else (solT rows rows.length).last) (zOq 1 rows : Nat)
/-- matrix.Det -/
def detR (m : List (List zAK)) : zAK × Int :=
 if zHI m ≠ 0 then ([], zHI m) else if m.length ≠ zDr m then ([], 3)
 else if (solT (inM m) m.length).piv.length < m.length then ([48], 0) else zDm (detQ (inM m))
theorem zNF {a x y : Rat} (ha : a ≠ 0) (h : a * x = a * y) : x = y := by
 have h1 : a⁻¹ * (a * x) = a⁻¹ * (a * y) := by rw [h]
 rwa [← Rat.mul_assoc, ← Rat.mul_assoc, Rat.inv_mul_cancel a ha, Rat.one_mul, Rat.one_mul] at h1
theorem intc_ne {x : Int} (h : x ≠ 0) : (x : Rat) ≠ 0 := fun e => h (by
 have := congrArg Rat.num e
 simpa using this)
end Go.Ax.Rt
namespace Go.Ax.Rt
open Go.Ax.Bg Go.Ax.Dt
theorem dig_D {k : Nat} {q : Rat} (h1 : (Lib.decDigits q.num.natAbs).length ≤ k) (h2 : (Lib.decDigits q.den).length ≤ k) : D k q :=
 ⟨Nat.lt_of_lt_of_le (zDz _) (Nat.pow_le_pow_right (by decide) h1), Nat.lt_of_lt_of_le (zDz _) (Nat.pow_le_pow_right (by decide) h2)⟩
end Go.Ax.Rt
namespace Go.Ax.Rt
open Go.Ax.Bg
structure TNode where
 kind : Int
 player : Int
 info : Int
 next : List Int
 odds : List zAK
 pay : zAK
 deriving DecidableEq
def node0 : TNode := ⟨0, 0, 0, [], [], []⟩
abbrev zT := List TNode
def zEE (N i : Nat) (k : Int) : Bool := decide (k ≤ (i : Int)) || decide ((N : Int) ≤ k)
/-- the error of the children of a node -/
def zF0 (N i : Nat) (l : List Int) : Int := if l.length = 0 then 3 else if 6 < l.length then 2 else if l.any (zEE N i) = true then 3 else 0
def zDk (N i : Nat) (n : TNode) : Int :=
 if n.kind = 0 then (if n.player ≠ 0 ∨ n.info ≠ 0 ∨ n.next ≠ [] ∨ n.odds ≠ [] then 3 else zCU n.pay)
 else if n.kind = 1 then (if n.player ≠ 0 ∨ n.info ≠ 0 ∨ n.pay ≠ [] then 3 else if zF0 N i n.next ≠ 0 then zF0 N i n.next else if n.odds.length ≠ n.next.length then 3 else zCa n.odds)
 else if n.kind = 2 then (if n.odds ≠ [] ∨ n.pay ≠ [] then 3 else if (n.player ≠ 0 ∧ n.player ≠ 1) ∨ n.info < 0 ∨ 10 ≤ n.info then 4 else zF0 N i n.next)
 else 1
def zD5 (N : Nat) : Nat → zT → Int
 | _, [] => 0
 | i, n :: r => if zDk N i n = 0 then zD5 N (i + 1) r else zDk N i n
/-- how often a node is named -/
def named (t : zT) (k : Nat) : Nat := ((t.flatMap TNode.next).filter (fun x => decide (x = (k : Int)))).length
def zGl (a b : TNode) : Bool := decide (a.kind = 2) && (decide (b.kind = 2) && (decide (a.player = b.player) && (decide (a.info = b.info) && decide (a.next.length ≠ b.next.length))))
def zE8 (t : zT) : Int :=
 if 120 < t.length then 2 else if t.length = 0 then 8 else if zD5 t.length 0 t ≠ 0 then zD5 t.length 0 t
 else if (List.range t.length).any (fun k => decide (k ≠ 0) && decide (named t k ≠ 1)) = true then 3
 else if t.any (fun a => t.any (zGl a)) = true then 3 else 0
def zBl (t : zT) (p : Int) : Int := if zE8 t ≠ 0 then zE8 t else if p ≠ 0 ∧ p ≠ 1 then 4 else 0
/-- Is it the player's move, in an information set? -/
def own (p : Int) (n : TNode) : Bool := decide (n.kind = 2) && decide (n.player = p)
def zAx (p i : Int) (n : TNode) : Bool := own p n && decide (n.info = i)
/-- the first node of an information set -/
def zIn (t : zT) (p i : Int) : Nat := t.findIdx (zAx p i)
def zc (t : zT) (p : Int) : List Int := ((List.range 10).map (fun i : Nat => (i : Int))).filter (fun i => t.any (zAx p i))
def ze (t : zT) (p i : Int) : Nat := (t.getD (zIn t p i) node0).next.length
def zBO (t : zT) (p : Int) : List Int := (zc t p).map (fun i => ((ze t p i : Nat) : Int))
/-- What a valid game is. -/
structure Valid (t : zT) : Prop where
 le : t.length ≤ 120
 ne : t.length ≠ 0
 nodes : ∀ i, i < t.length → zDk t.length i (t.getD i node0) = 0
 once : ∀ k, k < t.length → k ≠ 0 → named t k = 1
 same : ∀ a ∈ t, ∀ b ∈ t, zGl a b = false
theorem zKI (N : Nat) : ∀ (t : zT) (i : Nat), zD5 N i t = 0 → ∀ j, j < t.length → zDk N (i + j) (t.getD j node0) = 0
 | [], i, _, j, hj => absurd hj (Nat.not_lt_zero _)
 | n :: r, i, h, j, hj => by
   rw [zD5] at h
   split at h
   · rename_i h0
     cases j with
     | zero => exact h0
     | succ j =>
       have := zKI N r (i + 1) h j (by simpa using hj)
       rw [show i + (j + 1) = i + 1 + j by omega]
       exact this
   · rename_i h0; exact absurd h h0
theorem zI1 {t : zT} (h : zE8 t = 0) : Valid t := by
 unfold zE8 at h
 split at h
 · cases h
 split at h
 · cases h
 split at h
 · rename_i h3; exact absurd h h3
 split at h
 · cases h
 split at h
 · cases h
 rename_i h1 h2 h3 h4 h5
 refine ⟨by omega, h2, fun i hi => ?_, fun k hk h0 => ?_, fun a ha b hb => ?_⟩
 · have := zKI t.length t 0 (Classical.not_not.1 h3) i hi
   rwa [Nat.zero_add] at this
 · rw [Bool.not_eq_true, List.any_eq_false] at h4
   have := h4 k (by simpa using hk)
   simp only [Bool.and_eq_true, decide_eq_true_eq, not_and] at this
   exact Classical.not_not.1 (this h0)
 · rw [Bool.not_eq_true, List.any_eq_false] at h5
   have := h5 a ha
   rw [List.any_eq_true] at this
   cases hc : zGl a b
   · rfl
   · exact absurd ⟨b, hb, hc⟩ this
/-- The children stand behind their parent. -/
theorem zCM {N i : Nat} {l : List Int} (h : zF0 N i l = 0) : 1 ≤ l.length ∧ l.length ≤ 6 ∧ ∀ k ∈ l, (i : Int) < k ∧ k < N := by
 unfold zF0 at h
 split at h
 · cases h
 split at h
 · cases h
 split at h
 · cases h
 rename_i h1 h2 h3
 refine ⟨by omega, by omega, fun k hk => ?_⟩
 rw [Bool.not_eq_true, List.any_eq_false] at h3
 have := h3 k hk
 unfold zEE at this
 simp only [Bool.or_eq_true, decide_eq_true_eq, not_or] at this
 omega
theorem Valid.child {t : zT} (h : Valid t) {i : Nat} (hi : i < t.length) : ((t.getD i node0).kind = 0 ∧ (t.getD i node0).next = []) ∨ (((t.getD i node0).kind = 1 ∨ (t.getD i node0).kind = 2) ∧ zF0 t.length i (t.getD i node0).next = 0) := by
 have hn := h.nodes i hi
 unfold zDk at hn
 split at hn
 · rename_i h0
   split at hn
   · cases hn
   · rename_i h1
     simp only [not_or] at h1
     exact .inl ⟨h0, Classical.not_not.1 h1.2.2.1⟩
 · split at hn
   · rename_i h1
     split at hn
     · cases hn
     split at hn
     · rename_i h2; exact absurd hn h2
     rename_i h2 h3
     exact .inr ⟨.inl h1, Classical.not_not.1 h3⟩
   · split at hn
     · rename_i h2
       split at hn
       · cases hn
       split at hn
       · cases hn
       exact .inr ⟨.inr h2, hn⟩
     · cases hn
theorem Valid.behind {t : zT} (h : Valid t) {i : Nat} (hi : i < t.length) : ∀ k ∈ (t.getD i node0).next, (i : Int) < k ∧ k < t.length := by
 rcases h.child hi with ⟨_, h2⟩ | ⟨_, h2⟩
 · rw [h2]; intro k hk; simp at hk
 · exact (zCM h2).2.2
theorem Valid.few {t : zT} (h : Valid t) {i : Nat} (hi : i < t.length) : (t.getD i node0).next.length ≤ 6 := by
 rcases h.child hi with ⟨_, h2⟩ | ⟨_, h2⟩
 · rw [h2]; exact Nat.zero_le _
 · exact (zCM h2).2.1
theorem Valid.mine {t : zT} (h : Valid t) {i : Nat} (hi : i < t.length) {p : Int} (ho : own p (t.getD i node0) = true) : 0 ≤ (t.getD i node0).info ∧ (t.getD i node0).info < 10 ∧ 1 ≤ (t.getD i node0).next.length := by
 unfold own at ho
 rw [Bool.and_eq_true, decide_eq_true_eq, decide_eq_true_eq] at ho
 have hn := h.nodes i hi
 unfold zDk at hn
 rw [if_neg (by rw [ho.1]; decide), if_neg (by rw [ho.1]; decide), if_pos ho.1] at hn
 split at hn
 · cases hn
 split at hn
 · cases hn
 rename_i h1 h2
 simp only [not_or] at h2
 have := zCM hn
 exact ⟨by omega, by omega, this.1⟩
/-- Nodes of one set have equally many choices. -/
theorem Valid.width {t : zT} (h : Valid t) {i j : Nat} (hi : i < t.length) (hj : j < t.length) {p : Int} (hio : own p (t.getD i node0) = true) (hjo : own p (t.getD j node0) = true) (he : (t.getD i node0).info = (t.getD j node0).info) : (t.getD i node0).next.length = (t.getD j node0).next.length := by
 have hc := h.same _ (zAl node0 hi) _ (zAl node0 hj)
 unfold own at hio hjo
 rw [Bool.and_eq_true, decide_eq_true_eq, decide_eq_true_eq] at hio hjo
 unfold zGl at hc
 rw [decide_eq_true hio.1, decide_eq_true hjo.1, decide_eq_true (by rw [hio.2, hjo.2]), decide_eq_true he, Bool.true_and, Bool.true_and, Bool.true_and, Bool.true_and, decide_eq_false_iff_not] at hc
 exact Classical.not_not.1 hc
end Go.Ax.Rt
namespace Go.Ax.Rt
open Go.Ax.Bg
/-- how often 0, 1, .. N-1 occur -/
def zDa (N : Nat) (l : List Int) : List Int := (List.range N).map (fun k : Nat => (((l.filter (fun x => decide (x = (k : Int)))).length : Nat) : Int))
theorem zET (N : Nat) (l : List Int) : (zDa N l).length = N := by simp [zDa]
theorem zJD {N : Nat} {l : List Int} {k : Nat} (hk : k < N) : (zDa N l).getD k 0 = (((l.filter (fun x => decide (x = (k : Int)))).length : Nat) : Int) := by simp [zDa, List.getD, hk]
theorem cntT_nil (N : Nat) : zDa N [] = List.replicate N 0 := by
 apply List.ext_getElem (by simp [zDa])
 intro i h1 h2
 simp [zDa]
theorem zPc {N : Nat} (l : List Int) {x : Int} (h0 : 0 ≤ x) (h1 : x < N) : zDa N (l ++ [x]) = (zDa N l).set x.toNat ((zDa N l).getD x.toNat 0 + 1) := by
 rw [zJD (by omega)]
 apply List.ext_getElem (by simp [zDa])
 intro i i1 i2
 rw [List.getElem_set]
 have hi : i < N := by simpa [zDa] using i1
 simp only [zDa, List.getElem_map, List.getElem_range, List.filter_append, List.length_append]
 by_cases h : x.toNat = i
 · rw [if_pos h, h]
   have : x = (i : Int) := by omega
   simp [this]
 · rw [if_neg h]
   have : ¬ x = (i : Int) := by omega
   simp [this]
theorem cntT_le (N : Nat) (l : List Int) (k : Nat) : 0 ≤ (zDa N l).getD k 0 ∧ (zDa N l).getD k 0 ≤ l.length := by
 by_cases hk : k < N
 · rw [zJD hk]
   have := List.length_filter_le (fun x => decide (x = (k : Int))) l
   omega
 · have : (zDa N l).getD k 0 = 0 := by simp [zDa, List.getD, hk]
   rw [this]; omega
theorem zJK (t : zT) {k : Nat} (hk : k < t.length) : (zDa t.length (t.flatMap TNode.next)).getD k 0 = ((named t k : Nat) : Int) := zJD hk
/-- All but the first are named once. -/
theorem zP2 {t : zT} (h0 : t.length ≠ 0) : ((zDa t.length (t.flatMap TNode.next)).drop 1).any (fun n => decide (n ≠ 1)) = (List.range t.length).any (fun k => decide (k ≠ 0) && decide (named t k ≠ 1)) := by
 rw [Bool.eq_iff_iff, List.any_eq_true, List.any_eq_true]
 constructor
 · rintro ⟨x, hx, h⟩
   obtain ⟨i, hi, rfl⟩ := List.mem_iff_getElem.1 hx
   rw [List.length_drop, zET] at hi
   refine ⟨1 + i, by simp; omega, ?_⟩
   rw [List.getElem_drop] at h
   have e := zJK t (k := 1 + i) (by omega)
   rw [zAp 0 (by rw [zET]; omega)] at e
   rw [e] at h
   simp only [Bool.and_eq_true, decide_eq_true_eq] at h ⊢
   exact ⟨by omega, by omega⟩
 · rintro ⟨k, hk, h⟩
   have hk : k < t.length := by simpa using hk
   simp only [Bool.and_eq_true, decide_eq_true_eq] at h
   have e := zJK t hk
   refine ⟨_, List.mem_iff_getElem.2 ⟨k - 1, by rw [List.length_drop, zET]; omega, rfl⟩, ?_⟩
   rw [List.getElem_drop]
   rw [zAp 0 (by rw [zET]; omega)] at e
   have e2 : (zDa t.length (t.flatMap TNode.next))[1 + (k - 1)]'(by rw [zET]; omega) = ((named t k : Nat) : Int) := by
     rw [← e]; congr 1; omega
   rw [e2, decide_eq_true_eq]
   omega
/-- the sizes of the information sets, as the loop finds them -/
abbrev KSz := List (Int × Int × Nat)
def kstep (S : KSz) (n : TNode) : KSz := if n.kind = 2 ∧ ∀ e ∈ S, ¬ (e.1 = n.player ∧ e.2.1 = n.info) then S ++ [(n.player, n.info, n.next.length)] else S
def ktab (t : zT) : KSz := t.foldl kstep []
def zIj (t : zT) : Prop := ∀ a ∈ t, ∀ b ∈ t, zGl a b = false
structure KInv (t : zT) (S : KSz) : Prop where
 free : zIj t
 from_ : ∀ e ∈ S, ∃ b ∈ t, b.kind = 2 ∧ b.player = e.1 ∧ b.info = e.2.1 ∧ b.next.length = e.2.2
 all : ∀ a ∈ t, a.kind = 2 → ∃ e ∈ S, e.1 = a.player ∧ e.2.1 = a.info
theorem zMP {a b : TNode} : zGl a b = true ↔ a.kind = 2 ∧ b.kind = 2 ∧ a.player = b.player ∧ a.info = b.info ∧ a.next.length ≠ b.next.length := by
 unfold zGl
 simp only [Bool.and_eq_true, decide_eq_true_eq]
theorem zJB {a b : TNode} : zGl a b = false ↔ (a.kind = 2 → b.kind = 2 → a.player = b.player → a.info = b.info → a.next.length = b.next.length) := by
 rw [← Bool.not_eq_true, zMP]
 constructor
 · intro h h1 h2 h3 h4
   exact Classical.not_not.1 (fun h5 => h ⟨h1, h2, h3, h4, h5⟩)
 · rintro h ⟨h1, h2, h3, h4, h5⟩
   exact h5 (h h1 h2 h3 h4)
theorem KInv.nil : KInv [] [] := ⟨fun a ha => by simp at ha, fun e he => by simp at he, fun a ha => by simp at ha⟩
theorem zFT {t : zT} {n : TNode} (h : zIj t) (hn : ∀ a ∈ t, n.kind = 2 → a.kind = 2 → a.player = n.player → a.info = n.info → a.next.length = n.next.length) : zIj (t ++ [n]) := by
 intro a ha0 b hb0
 rw [zJB]
 intro k1 k2 k3 k4
 rcases List.mem_append.1 ha0 with ha | ha <;> rcases List.mem_append.1 hb0 with hb | hb
 · exact zJB.1 (h a ha b hb) k1 k2 k3 k4
 · have e := List.mem_singleton.1 hb
   rw [e] at k2 k3 k4 ⊢
   exact hn a ha k2 k1 k3 k4
 · have e := List.mem_singleton.1 ha
   rw [e] at k1 k3 k4 ⊢
   exact (hn b hb k1 k2 k3.symm k4.symm).symm
 · rw [List.mem_singleton.1 ha, List.mem_singleton.1 hb]
theorem KInv.skip {t : zT} {S : KSz} {n : TNode} (h : KInv t S) (hk : n.kind ≠ 2) : KInv (t ++ [n]) S :=
 ⟨zFT h.free (fun a _ h1 => absurd h1 hk), fun e he => by
   obtain ⟨b, hb, q⟩ := h.from_ e he
   exact ⟨b, List.mem_append_left _ hb, q⟩, fun a ha h1 => by
   rcases List.mem_append.1 ha with ha | ha
   · exact h.all a ha h1
   · rw [List.mem_singleton.1 ha] at h1; exact absurd h1 hk⟩
theorem KInv.hit {t : zT} {S : KSz} {n : TNode} {e : Int × Int × Nat} (h : KInv t S) (he : e ∈ S) (h1 : e.1 = n.player) (h2 : e.2.1 = n.info) (h3 : e.2.2 = n.next.length) : KInv (t ++ [n]) S :=
 ⟨zFT h.free (fun a ha q1 q2 q3 q4 => by
   obtain ⟨b, hb, p1, p2, p3, p4⟩ := h.from_ e he
   have := zJB.1 (h.free a ha b hb) q2 p1 (by rw [q3, p2, h1]) (by rw [q4, p3, h2])
   rw [this, p4, h3]), fun e he => by
   obtain ⟨b, hb, q⟩ := h.from_ e he
   exact ⟨b, List.mem_append_left _ hb, q⟩, fun a ha q1 => by
   rcases List.mem_append.1 ha with ha | ha
   · exact h.all a ha q1
   · rw [List.mem_singleton.1 ha]; exact ⟨e, he, h1, h2⟩⟩
theorem KInv.miss {t : zT} {S : KSz} {n : TNode} (h : KInv t S) (hk : n.kind = 2) (hm : ∀ e ∈ S, ¬ (e.1 = n.player ∧ e.2.1 = n.info)) : KInv (t ++ [n]) (S ++ [(n.player, n.info, n.next.length)]) :=
 ⟨zFT h.free (fun a ha q1 q2 q3 q4 => by
   obtain ⟨e, he, p1, p2⟩ := h.all a ha q2
   exact absurd ⟨by rw [p1, q3], by rw [p2, q4]⟩ (hm e he)), fun e he => by
   rcases List.mem_append.1 he with he | he
   · obtain ⟨b, hb, q⟩ := h.from_ e he
     exact ⟨b, List.mem_append_left _ hb, q⟩
   · rw [List.mem_singleton.1 he]
     exact ⟨n, by simp, hk, rfl, rfl, rfl⟩, fun a ha q1 => by
   rcases List.mem_append.1 ha with ha | ha
   · obtain ⟨e, he, q⟩ := h.all a ha q1
     exact ⟨e, List.mem_append_left _ he, q⟩
   · rw [List.mem_singleton.1 ha]; exact ⟨_, List.mem_append_right _ (List.mem_singleton.2 rfl), rfl, rfl⟩⟩
theorem KInv.bad {t T : zT} {S : KSz} {n : TNode} {e : Int × Int × Nat} (h : KInv t S) (hT : ∀ a ∈ t, a ∈ T) (hn : n ∈ T) (hk : n.kind = 2) (he : e ∈ S) (h1 : e.1 = n.player) (h2 : e.2.1 = n.info) (h3 : e.2.2 ≠ n.next.length) : T.any (fun a => T.any (zGl a)) = true := by
 obtain ⟨b, hb, p1, p2, p3, p4⟩ := h.from_ e he
 rw [List.any_eq_true]
 refine ⟨b, hT b hb, ?_⟩
 rw [List.any_eq_true]
 exact ⟨n, hn, zMP.2 ⟨p1, hk, by rw [p2, h1], by rw [p3, h2], by rw [p4]; exact h3⟩⟩
theorem zMh {t : zT} (h : zIj t) : t.any (fun a => t.any (zGl a)) = false := by
 rw [List.any_eq_false]
 intro a ha h1
 obtain ⟨b, hb, h2⟩ := List.any_eq_true.1 h1
 rw [h a ha b hb] at h2
 cases h2
theorem zL2 {N i : Nat} {t : zT} (hi : i < t.length) : zD5 N i (t.drop i) = if zDk N i (t.getD i node0) = 0 then zD5 N (i + 1) (t.drop (i + 1)) else zDk N i (t.getD i node0) := by
 rw [List.drop_eq_getElem_cons hi, ← zAp node0 hi, zD5]
theorem zNP {N i : Nat} {n : TNode} (h : zDk N i n = 0) : (∀ k ∈ n.next, (i : Int) < k ∧ k < N) ∧ n.next.length ≤ 6 := by
 unfold zDk at h
 split at h
 · split at h
   · cases h
   · rename_i h1
     simp only [not_or] at h1
     have := Classical.not_not.1 h1.2.2.1
     rw [this]
     exact ⟨fun k hk => by simp at hk, Nat.zero_le _⟩
 · split at h
   · split at h
     · cases h
     split at h
     · rename_i h2; exact absurd h h2
     rename_i h2 h3
     obtain ⟨q1, q2, q3⟩ := zCM (Classical.not_not.1 h3)
     exact ⟨q3, q2⟩
   · split at h
     · split at h
       · cases h
       split at h
       · cases h
       obtain ⟨q1, q2, q3⟩ := zCM h
       exact ⟨q3, q2⟩
     · cases h
/-- the nodes named by the first nodes -/
def zEU (t : zT) (i : Nat) : List Int := (t.take i).flatMap TNode.next
theorem zNE {t : zT} {i : Nat} (hi : i < t.length) : zEU t (i + 1) = zEU t i ++ (t.getD i node0).next := by
 unfold zEU
 rw [List.take_succ_eq_append_getElem hi, List.flatMap_append, zAp node0 hi]
 simp
theorem zCi {l : List Int} {j : Nat} (hj : j < l.length) : l.take (j + 1) = l.take j ++ [l.getD j 0] := by
 rw [List.take_succ_eq_append_getElem hj, zAp 0 hj]
theorem zNZ {l : zT} {j : Nat} (hj : j < l.length) : l.take (j + 1) = l.take j ++ [l.getD j node0] := by
 rw [List.take_succ_eq_append_getElem hj, zAp node0 hj]
def keyA (e : Int × Int × Nat) : Int × Int := (e.1, e.2.1)
end Go.Ax.Rt
namespace Go.Ax.Rt
open Go.Ax.Bg
structure RSeq where
 info : Int
 choice : Int
 before : Int
 deriving DecidableEq
def zBa : RSeq := ⟨-1, -1, -1⟩
structure RForm where
 seqs : List RSeq
 pos : List Int
 first : List (Int × Nat)
def zBM (m : List (Int × Nat)) (k : Int) : Option Nat := (m.find? (fun x => decide (x.1 = k))).map Prod.snd
def zBk (n : TNode) (b : Int) : List RSeq := (List.range n.next.length).map (fun k : Nat => ⟨n.info, (k : Int), b⟩)
def zAI (p : Int) (n : TNode) (i : Nat) (f : RForm) : RForm :=
 if own p n = true ∧ zBM f.first n.info = none then ⟨f.seqs ++ zBk n (f.pos.getD i 0), f.pos, f.first ++ [(n.info, f.seqs.length)]⟩ else f
def zDR (v : Nat → Int) : List Int → Nat → List Int → List Int
 | [], _, a => a
 | c :: r, k, a => zDR v r (k + 1) (a.set c.toNat (v k))
def zGm (p : Int) (n : TNode) (i : Nat) (f : RForm) (k : Nat) : Int := if own p n = true then (((zBM f.first n.info).getD 0 : Nat) : Int) + (k : Int) else f.pos.getD i 0
def zIZ (p : Int) (n : TNode) (i : Nat) (f : RForm) : RForm := ⟨(zAI p n i f).seqs, zDR (zGm p n i (zAI p n i f)) n.next 0 (zAI p n i f).pos, (zAI p n i f).first⟩
def zAE (t : zT) (p : Int) : Nat → RForm
 | 0 => ⟨[zBa], List.replicate t.length 0, []⟩
 | i + 1 => zIZ p (t.getD i node0) i (zAE t p i)
theorem zG1 {m : List (Int × Nat)} {k : Int} (h : zBM m k = none) : k ∉ m.map Prod.fst := by
 unfold zBM at h
 rw [Option.map_eq_none_iff, List.find?_eq_none] at h
 intro hk
 obtain ⟨x, hx, rfl⟩ := List.mem_map.1 hk
 exact h x hx (by simp)
theorem zCI {m : List (Int × Nat)} {k : Int} {s : Nat} (h : zBM m k = some s) : (k, s) ∈ m := by
 unfold zBM at h
 obtain ⟨x, hx, rfl⟩ := Option.map_eq_some_iff.1 h
 have h1 := List.mem_of_find?_eq_some hx
 have h2 := List.find?_some hx
 have h3 : x.1 = k := by simpa using h2
 rw [← h3]; exact h1
theorem zIF (v : Nat → Int) : ∀ (l : List Int) (k : Nat) (a : List Int), (zDR v l k a).length = a.length
 | [], _, a => rfl
 | c :: r, k, a => by rw [zDR, zIF v r]; simp
theorem zIP {v : Nat → Int} {P : Int → Prop} : ∀ (l : List Int) (k : Nat) (a : List Int), (∀ x ∈ a, P x) → (∀ j, k ≤ j → j < k + l.length → P (v j)) → ∀ x ∈ zDR v l k a, P x
 | [], _, a, h, _ => h
 | c :: r, k, a, h, hv => by
   rw [zDR]
   refine zIP r (k + 1) _ (fun x hx => ?_) (fun j h1 h2 => hv j (by omega) (by simp; omega))
   rcases List.mem_or_eq_of_mem_set hx with q | q
   · exact h x q
   · rw [q]; exact hv k (Nat.le_refl _) (by simp)
theorem zCf {t : zT} (h : Valid t) {p x : Int} {i : Nat} (hi : i < t.length) (hs : zAx p x (t.getD i node0) = true) : ze t p x = (t.getD i node0).next.length := by
 have hex : ∃ y ∈ t, zAx p x y = true := ⟨_, zAl node0 hi, hs⟩
 have hlt : zIn t p x < t.length := List.findIdx_lt_length_of_exists hex
 have hin : zAx p x (t.getD (zIn t p x) node0) = true := by
   rw [zAp node0 hlt]
   exact List.findIdx_getElem
 unfold zAx at hs hin
 rw [Bool.and_eq_true, decide_eq_true_eq] at hs hin
 exact h.width hlt hi hin.1 hs.1 (by rw [hin.2, hs.2])
structure RI (t : zT) (p : Int) (i : Nat) (f : RForm) : Prop where
 s0 : f.seqs.getD 0 zBa = zBa ∧ 0 < f.seqs.length
 pl : f.pos.length = t.length
 pb : ∀ x ∈ f.pos, 0 ≤ x ∧ x < f.seqs.length
 keys : ∀ x, x ∈ f.first.map Prod.fst ↔ ∃ j, j < i ∧ zAx p x (t.getD j node0) = true
 nd : (f.first.map Prod.fst).Nodup
 sl : f.seqs.length = 1 + (f.first.map (fun x => ze t p x.1)).sum
 fst : ∀ x ∈ f.first, 1 ≤ x.2 ∧ x.2 + ze t p x.1 ≤ f.seqs.length ∧ ∃ b : Int, 0 ≤ b ∧ b < x.2 ∧ ∀ k, k < ze t p x.1 → f.seqs.getD (x.2 + k) zBa = ⟨x.1, k, b⟩
 all : ∀ k, 1 ≤ k → k < f.seqs.length → ∃ x ∈ f.first, x.2 ≤ k ∧ k < x.2 + ze t p x.1
theorem RI.init (t : zT) (p : Int) : RI t p 0 (zAE t p 0) where
 s0 := ⟨rfl, Nat.zero_lt_one⟩
 pl := List.length_replicate
 pb := fun x hx => by
   obtain ⟨_, rfl⟩ := List.mem_replicate.1 hx
   exact ⟨by decide, by show (0 : Int) < ((1 : Nat) : Int); decide⟩
 keys := fun x => ⟨fun h => by simp [zAE] at h, fun ⟨j, hj, _⟩ => absurd hj (Nat.not_lt_zero _)⟩
 nd := List.nodup_nil
 sl := rfl
 fst := fun x hx => by simp [zAE] at hx
 all := fun k h1 h2 => by
   have : (zAE t p 0).seqs.length = 1 := rfl
   omega
/-- A new information set. -/
theorem RI.add {t : zT} (hv : Valid t) {p : Int} {i : Nat} {f : RForm} (h : RI t p i f) (hi : i < t.length) :
   RI t p i f → (f.seqs.getD 0 zBa = zBa) → let n := t.getD i node0; let g := zAI p n i f
   g.seqs.getD 0 zBa = zBa ∧ 0 < g.seqs.length ∧ g.pos = f.pos ∧ f.seqs.length ≤ g.seqs.length ∧ (∀ x, x ∈ g.first.map Prod.fst ↔ ∃ j, j < i + 1 ∧ zAx p x (t.getD j node0) = true) ∧ (g.first.map Prod.fst).Nodup ∧
   g.seqs.length = 1 + (g.first.map (fun x => ze t p x.1)).sum ∧
   (∀ x ∈ g.first, 1 ≤ x.2 ∧ x.2 + ze t p x.1 ≤ g.seqs.length ∧ ∃ b : Int, 0 ≤ b ∧ b < x.2 ∧ ∀ k, k < ze t p x.1 → g.seqs.getD (x.2 + k) zBa = ⟨x.1, k, b⟩) ∧
   (∀ k, 1 ≤ k → k < g.seqs.length → ∃ x ∈ g.first, x.2 ≤ k ∧ k < x.2 + ze t p x.1) ∧ (own p n = true → ∃ s, zBM g.first n.info = some s) := by
 intro _ _
 obtain ⟨h0, h0l⟩ := h.s0
 intro n g
 have hkey : ∀ x, (∃ j, j < i + 1 ∧ zAx p x (t.getD j node0) = true) ↔ ((∃ j, j < i ∧ zAx p x (t.getD j node0) = true) ∨ zAx p x n = true) := by
   intro x
   constructor
   · rintro ⟨j, h1, h2⟩
     by_cases e : j = i
     · subst e; exact .inr h2
     · exact .inl ⟨j, by omega, h2⟩
   · rintro (⟨j, h1, h2⟩ | h2)
     · exact ⟨j, by omega, h2⟩
     · exact ⟨i, by omega, h2⟩
 by_cases hc : own p n = true ∧ zBM f.first n.info = none
 · have eg : g = ⟨f.seqs ++ zBk n (f.pos.getD i 0), f.pos, f.first ++ [(n.info, f.seqs.length)]⟩ := by
     show zAI p n i f = _
     unfold zAI; rw [if_pos hc]
   have hin : zAx p n.info n = true := by unfold zAx; rw [hc.1]; simp
   have hw : ze t p n.info = n.next.length := zCf hv hi hin
   have hnl : (zBk n (f.pos.getD i 0)).length = n.next.length := by simp [zBk]
   have hno := zG1 hc.2
   have hb := h.pb (f.pos.getD i 0) (zAl 0 (by rw [h.pl]; exact hi))
   rw [eg]
   refine ⟨by rw [zHD _ h0l]; exact h0, by rw [List.length_append]; omega, rfl, by rw [List.length_append]; omega, fun x => ?_, ?_, ?_, fun x hx => ?_, fun k h1 h2 => ?_, fun _ => ?_⟩
   · rw [hkey, List.map_append, List.mem_append, h.keys x]
     constructor
     · rintro (q | q)
       · exact .inl q
       · right
         have : x = n.info := by simpa using q
         rw [this]; exact hin
     · rintro (q | q)
       · exact .inl q
       · right
         unfold zAx at q
         rw [Bool.and_eq_true, decide_eq_true_eq] at q
         simp [q.2]
   · rw [List.map_append, List.nodup_append]
     refine ⟨h.nd, by simp, fun a ha b hb e => ?_⟩
     have : b = n.info := by simpa using hb
     rw [← this, ← e] at hno
     exact hno ha
   · rw [List.length_append, hnl, List.map_append, List.sum_append, h.sl]
     simp [hw]
     omega
   · rcases List.mem_append.1 hx with q | q
     · obtain ⟨a1, a2, b, b1, b2, b3⟩ := h.fst x q
       refine ⟨a1, by rw [List.length_append]; omega, b, b1, b2, fun k hk => ?_⟩
       rw [zHD _ (by omega)]
       exact b3 k hk
     · have hx' : x = (n.info, f.seqs.length) := by simpa using q
       subst hx'
       refine ⟨h0l, by rw [List.length_append, hnl]; show _ + ze t p n.info ≤ _; omega, f.pos.getD i 0, hb.1, hb.2, fun k hk => ?_⟩
       have hk : k < n.next.length := by
         have : k < ze t p n.info := hk
         omega
       show (f.seqs ++ zBk n (f.pos.getD i 0)).getD (f.seqs.length + k) zBa = _
       have e : (f.seqs ++ zBk n (f.pos.getD i 0)).getD (f.seqs.length + k) zBa = (zBk n (f.pos.getD i 0)).getD k zBa := by
         simp only [List.getD]
         rw [List.getElem?_append_right (by omega), Nat.add_sub_cancel_left]
       rw [e]
       unfold zBk
       rw [zDb _ _ 0 _ _ (by simpa using hk)]
       simp [List.getD, hk]
   · rw [List.length_append, hnl] at h2
     by_cases hk : k < f.seqs.length
     · obtain ⟨x, x1, x2, x3⟩ := h.all k h1 hk
       exact ⟨x, List.mem_append_left _ x1, x2, x3⟩
     · refine ⟨(n.info, f.seqs.length), by simp, by show f.seqs.length ≤ k; omega, by show k < f.seqs.length + ze t p n.info; omega⟩
   · refine ⟨f.seqs.length, ?_⟩
     unfold zBM at hc ⊢
     rw [Option.map_eq_none_iff] at hc
     rw [List.find?_append, hc.2]
     simp
 · have eg : g = f := by
     show zAI p n i f = _
     unfold zAI; rw [if_neg hc]
   rw [eg]
   have hold : own p n = true → ∃ s, zBM f.first n.info = some s := by
     intro ho
     cases e : zBM f.first n.info with
     | none => exact absurd ⟨ho, e⟩ hc
     | some s => exact ⟨s, rfl⟩
   refine ⟨h0, h0l, rfl, Nat.le_refl _, fun x => ?_, h.nd, h.sl, h.fst, h.all, hold⟩
   rw [hkey, h.keys x]
   constructor
   · exact .inl
   · rintro (q | q)
     · exact q
     · unfold zAx at q
       rw [Bool.and_eq_true, decide_eq_true_eq] at q
       obtain ⟨s, hs⟩ := hold q.1
       refine (h.keys x).1 ?_
       rw [← q.2]
       exact List.mem_map.2 ⟨_, zCI hs, rfl⟩
theorem RI.step {t : zT} (hv : Valid t) {p : Int} {i : Nat} {f : RForm} (h : RI t p i f) (hi : i < t.length) : RI t p (i + 1) (zIZ p (t.getD i node0) i f) := by
 obtain ⟨a1, a2, a3, a4, a5, a6, a7, a8, a9, a10⟩ := RI.add hv h hi h h.s0.1
 generalize hn : t.getD i node0 = n at *
 generalize hg : zAI p n i f = g at *
 have est : zIZ p n i f = ⟨g.seqs, zDR (zGm p n i g) n.next 0 g.pos, g.first⟩ := by unfold zIZ; rw [hg]
 rw [est]
 refine ⟨⟨a1, a2⟩, by rw [zIF, a3]; exact h.pl, zIP _ _ _ (fun x hx => ?_) (fun j h1 h2 => ?_), a5, a6, a7, a8, a9⟩
 · rw [a3] at hx
   have := h.pb x hx
   show 0 ≤ x ∧ x < ((g.seqs.length : Nat) : Int)
   omega
 · show 0 ≤ zGm p n i g j ∧ zGm p n i g j < ((g.seqs.length : Nat) : Int)
   unfold zGm
   split
   · rename_i ho
     obtain ⟨s, hs⟩ := a10 ho
     obtain ⟨b1, b2, _⟩ := a8 _ (zCI hs)
     have hw : ze t p n.info = n.next.length := by
       rw [← hn]
       refine zCf hv hi ?_
       unfold zAx
       rw [hn, ho]; simp
     rw [hs]
     simp only [Option.getD_some] at *
     omega
   · rw [a3]
     have := h.pb (f.pos.getD i 0) (zAl 0 (by rw [h.pl]; exact hi))
     omega
theorem RI.all_n {t : zT} (hv : Valid t) (p : Int) : ∀ i, i ≤ t.length → RI t p i (zAE t p i)
 | 0, _ => RI.init t p
 | i + 1, hi => (RI.all_n hv p i (by omega)).step hv (by omega)
def zf (t : zT) (p : Int) : List RSeq := (zAE t p t.length).seqs
theorem zBA {t : zT} (hv : Valid t) {p x : Int} : x ∈ zc t p ↔ ∃ j, j < t.length ∧ zAx p x (t.getD j node0) = true := by
 unfold zc
 rw [List.mem_filter, List.any_eq_true]
 constructor
 · rintro ⟨_, y, hy, h2⟩
   obtain ⟨j, hj, rfl⟩ := List.getElem_of_mem hy
   exact ⟨j, hj, by rw [zAp node0 hj]; exact h2⟩
 · rintro ⟨j, hj, h2⟩
   refine ⟨?_, t.getD j node0, zAl node0 hj, h2⟩
   unfold zAx at h2
   rw [Bool.and_eq_true, decide_eq_true_eq] at h2
   have hm := hv.mine hj h2.1
   rw [h2.2] at hm
   refine List.mem_map.2 ⟨x.toNat, List.mem_range.2 (by omega), by omega⟩
theorem zEX (t : zT) (p : Int) : (zc t p).Nodup := by
 unfold zc
 refine List.Nodup.sublist List.filter_sublist ?_
 rw [List.nodup_iff_pairwise_ne, List.pairwise_map]
 exact (List.nodup_iff_pairwise_ne.1 List.nodup_range).imp (fun h => by omega)
/-- RecallNumbers: how the sequences are numbered. -/
theorem zAh {t : zT} (hv : Valid t) (p : Int) :
   (zf t p).length = 1 + ((zc t p).map (ze t p)).sum ∧ (zf t p).getD 0 zBa = zBa ∧ 0 < (zf t p).length ∧
   ∀ k, k + 1 < (zf t p).length → ((zf t p).getD (k + 1) zBa).info ∈ zc t p ∧ 0 ≤ ((zf t p).getD (k + 1) zBa).before ∧ ((zf t p).getD (k + 1) zBa).before ≤ k ∧
     (0 < ((zf t p).getD (k + 1) zBa).choice → (zf t p).getD k zBa = ⟨((zf t p).getD (k + 1) zBa).info, ((zf t p).getD (k + 1) zBa).choice - 1, ((zf t p).getD (k + 1) zBa).before⟩) := by
 have h := RI.all_n hv p t.length (Nat.le_refl _)
 have hperm : ((zAE t p t.length).first.map Prod.fst).Perm (zc t p) :=
   (List.perm_ext_iff_of_nodup h.nd (zEX t p)).2 (fun x => by rw [h.keys x, zBA hv])
 refine ⟨?_, h.s0.1, h.s0.2, fun k hk => ?_⟩
 · show (zAE t p t.length).seqs.length = _
   rw [h.sl, ← (hperm.map (ze t p)).sum_nat, List.map_map]
   rfl
 · obtain ⟨x, x1, x2, x3⟩ := h.all (k + 1) (by omega) hk
   obtain ⟨y1, y2, b, b1, b2, b3⟩ := h.fst x x1
   have e1 := b3 (k + 1 - x.2) (by omega)
   rw [show x.2 + (k + 1 - x.2) = k + 1 by omega] at e1
   have e1' : (zf t p).getD (k + 1) zBa = ⟨x.1, ((k + 1 - x.2 : Nat) : Int), b⟩ := e1
   rw [e1']
   refine ⟨hperm.mem_iff.1 (List.mem_map.2 ⟨x, x1, rfl⟩), b1, by show b ≤ (k : Int); omega, fun hc => ?_⟩
   have hc : (0 : Int) < ((k + 1 - x.2 : Nat) : Int) := hc
   have e2 := b3 (k - x.2) (by omega)
   rw [show x.2 + (k - x.2) = k by omega] at e2
   have e2' : (zf t p).getD k zBa = ⟨x.1, ((k - x.2 : Nat) : Int), b⟩ := e2
   rw [e2']
   show (⟨x.1, _, b⟩ : RSeq) = ⟨x.1, ((k + 1 - x.2 : Nat) : Int) - 1, b⟩
   congr 1
   omega
end Go.Ax.Rt
namespace Go.Ax.Rt
open Go.Ax.Bg
/-- What is left of a number that may be negative. -/
def posQ (q : Rat) : Rat := if q.num < 0 then 0 else q
def zAu : Rat → List Rat → Rat
 | acc, [] => acc
 | acc, q :: r => zAu (acc + q) r
def matchQ (x : List Rat) : List Rat :=
 if zAu 0 (x.map posQ) = 0 then (x.map posQ).map (fun _ => Rat.divInt 1 x.length) else (x.map posQ).map (fun q => q / zAu 0 (x.map posQ))
/-- regret.Match -/
def matchR (v : List zAK) : List zAK × Int :=
 if v = [] then ([], 8) else if 12 < v.length then ([], 2) else if zIa v ≠ 0 then ([], zIa v) else zBD (matchQ (v.map zAQ))
theorem zKL : ∀ (qs : List Rat) (acc : Rat), (zF5 acc qs).2 = 0 → (zF5 acc qs).1 = zAu acc qs
 | [], acc, _ => rfl
 | q :: r, acc, h => by
   rw [zF5] at h ⊢
   rw [zAu]
   split at h
   · rename_i hf; rw [if_pos hf]; exact zKL r _ h
   · cases h
theorem zMO : ∀ (qs : List Rat) (acc : Rat) (j k : Nat), D j acc → (∀ q ∈ qs, D k q) → j + (k + 1) * qs.length ≤ 2000 → (zF5 acc qs).2 = 0 ∧ D (j + (k + 1) * qs.length) (zF5 acc qs).1
 | [], acc, j, k, h, _, hb => ⟨rfl, h⟩
 | q :: r, acc, j, k, h, hq, hb => by
   rw [List.length_cons, Nat.mul_add] at hb ⊢
   rw [zF5]
   have h1 := h.add (hq q (by simp))
   rw [if_pos (h1.fit (by omega))]
   have := zMO r (acc + q) (j + k + 1) k h1 (fun x hx => hq x (by simp [hx])) (by omega)
   exact ⟨this.1, this.2.mono (by omega)⟩
theorem zNt : ∀ (qs : List Rat) (acc : Rat), (∀ q ∈ qs, 0 ≤ q) → acc ≤ zAu acc qs
 | [], acc, _ => Rat.le_refl
 | q :: r, acc, h => by
   rw [zAu]
   refine Rat.le_trans ?_ (zNt r _ (fun x hx => h x (by simp [hx])))
   have := (Rat.add_le_add_left (c := acc)).2 (h q (by simp))
   rwa [Rat.add_zero] at this
/-- Texts of zAh that are not negative and add up to 1. -/
theorem odds_of {qs : List Rat} {k : Nat} (hn : qs.length ≤ 256) (hd : ∀ q ∈ qs, D k q) (hb : 1 + (k + 1) * qs.length ≤ 2000) (hk : k ≤ 2000) (h0 : ∀ q ∈ qs, 0 ≤ q) (h1 : zAu 0 qs = 1) : zCa (qs.map zAJ) = 0 := by
 have hf : ∀ q ∈ qs, zCR q = true := fun q hq => (hd q hq).fit hk
 have v1 : (qs.map zAJ).map zAQ = qs := by
   rw [List.map_map]
   conv => rhs; rw [← List.map_id qs]
   exact List.map_congr_left (fun q hq => (zIs (hf q hq)).2)
 have v2 : zDs (qs.map zAJ) = 0 := zLL (fun s hs => by
   obtain ⟨q, hq, rfl⟩ := List.mem_map.1 hs
   exact (zIs (hf q hq)).1)
 have hs := zMO qs 0 1 k ⟨by decide, by decide⟩ hd hb
 have v3 : zEK (qs.map zAJ) = (1, 0) := by
   unfold zEK
   rw [if_neg (by rw [List.length_map]; omega), if_pos v2, v1]
   have := zKL qs 0 hs.1
   rw [h1] at this
   exact Prod.ext this hs.1
 have v4 : (qs.map zAJ).any zCq = false := by
   rw [List.any_eq_false]
   intro s hs'
   obtain ⟨q, hq, rfl⟩ := List.mem_map.1 hs'
   have e := zIs (hf q hq)
   have := (zKn e.1).2 (by rw [e.2]; exact h0 q hq)
   simp [this]
 unfold zCa posE
 rw [v3, v4]; rfl
structure Matched (v p : List zAK) : Prop where
 res : matchR v = (p, 0)
 len : p.length = v.length
 odds : zCa p = 0
 zero : (∃ s ∈ v, 0 < zAQ s) → ∀ i, i < v.length → (p.getD i [] ≠ [48] ↔ 0 < zAQ (v.getD i []))
 good : ∀ s ∈ v, zCU s = 0
end Go.Ax.Rt
namespace Go.Ax.Rt
open Go.Ax.Bg
abbrev zCF := List (Int × Int)
/-- matgame.Check -/
def gameE (m : List (List zAK)) : Int := if 12 < m.length then 2 else if zHI m ≠ 0 then zHI m else if zDr m = 0 then 8 else if 12 < zDr m then 2 else 0
def outside (m : List (List zAK)) (x : Int × Int) : Bool := decide (x.1 < 0) || (decide ((m.length : Int) ≤ x.1) || (decide (x.2 < 0) || decide ((zDr m : Int) ≤ x.2)))
/-- regret.Check -/
def zKX (m : List (List zAK)) (l : zCF) : Int := if gameE m ≠ 0 then gameE m else if 200 < l.length then 2 else if l.any (outside m) = true then 4 else 0
/-- How often a row, a column was played. -/
def cnt (f : Int × Int → Int) (l : zCF) (i : Nat) : Nat := (l.filter (fun x => decide (f x = (i : Int)))).length
def cntQ (f : Int × Int → Int) (l : zCF) (n : Nat) : List Rat := (List.range n).map (fun i => ((cnt f l i : Nat) : Rat))
def rowsS (m : List (List Rat)) (l : zCF) (w : Nat) : List Rat := m.map (fun r => dotQ r (cntQ Prod.snd l w))
def colsS (m : List (List Rat)) (l : zCF) (w : Nat) : List Rat := (colsQ m w).map (fun c => dotQ c (cntQ Prod.fst l m.length))
def elQ (m : List (List Rat)) (x : Int × Int) : Rat := (m.getD x.1.toNat []).getD x.2.toNat 0
def gotQ (m : List (List Rat)) (l : zCF) : Rat := zAu 0 (l.map (elQ m))
def regA (m : List (List Rat)) (l : zCF) (w : Nat) : List Rat := (rowsS m l w).map (fun q => q - gotQ m l)
def regB (m : List (List Rat)) (l : zCF) (w : Nat) : List Rat := (colsS m l w).map (fun q => gotQ m l - q)
def bothR (a b : List Rat) : (List zAK × List zAK) × Int := if (zBD a).2 ≠ 0 then (([], []), 2) else if (zBD b).2 ≠ 0 then (([], []), 2) else ((a.map zAJ, b.map zAJ), 0)
/-- regret.Regrets -/
def regretsR (m : List (List zAK)) (l : zCF) : (List zAK × List zAK) × Int := if zKX m l ≠ 0 then (([], []), zKX m l) else bothR (regA (inM m) l (zDr m)) (regB (inM m) l (zDr m))
/-- The first greatest number, or the first least one. -/
def zKS (sg : Int) (x : List Rat) : Nat → Nat
 | 0 => 0
 | k + 1 => if 0 < zJb (x.getD k 0) (x.getD (zKS sg x k) 0) * sg then k else zKS sg x k
def lowQ (m : List (List Rat)) (l : zCF) (w : Nat) : Rat := (colsS m l w).getD (zKS (-1) (colsS m l w) w) 0
def highQ (m : List (List Rat)) (l : zCF) (w : Nat) : Rat := (rowsS m l w).getD (zKS 1 (rowsS m l w) m.length) 0
/-- regret.Bounds -/
def boundsR (m : List (List zAK)) (l : zCF) : (zAK × zAK) × Int :=
 if zKX m l ≠ 0 then (([], []), zKX m l) else if l = [] then (([], []), 8)
 else if zCR (lowQ (inM m) l (zDr m) / (l.length : Nat)) && zCR (highQ (inM m) l (zDr m) / (l.length : Nat)) then ((zAJ (lowQ (inM m) l (zDr m) / (l.length : Nat)), zAJ (highQ (inM m) l (zDr m) / (l.length : Nat))), 0) else (([], []), 2)
/-- The law. -/
structure Zero (m : List (List zAK)) (l : zCF) (a b : List zAK) (lo hi : zAK) : Prop where
 reg : regretsR m l = ((a, b), 0)
 bnd : boundsR m l = ((lo, hi), 0)
 ga : ∀ s ∈ a, zCU s = 0
 gb : ∀ s ∈ b, zCU s = 0
 la : a.length = m.length
 lb : b.length = zDr m
 best : ∃ i k s q, zCs a = (((i : Nat) : Int), 0) ∧ zCs b = (((k : Nat) : Int), 0) ∧ i < a.length ∧ k < b.length ∧ twoR (fun x y => x + y) (a.getD i []) (b.getD k []) = (s, 0) ∧ divR s (zAJ ((l.length : Nat) : Rat)) = (q, 0) ∧ twoR (fun x y => x - y) hi lo = (q, 0)
/-- One round more. -/
structure PlaySt where
 rows : List Rat
 cols : List Rat
 out : List (Nat × Nat)
def playStep (m : List (List Rat)) (s : PlaySt) : PlaySt :=
 let i := zKS 1 s.rows s.rows.length
 let k := zKS (-1) s.cols s.cols.length
 ⟨(List.range s.rows.length).map (fun j => s.rows.getD j 0 + (m.getD j []).getD k 0), (List.range s.cols.length).map (fun j => s.cols.getD j 0 + (m.getD i []).getD j 0), s.out ++ [(i, k)]⟩
def playN (m : List (List Rat)) (w : Nat) : Nat → PlaySt
 | 0 => ⟨List.replicate m.length 0, List.replicate w 0, []⟩
 | n + 1 => playStep m (playN m w n)
def histOf (l : List (Nat × Nat)) : zCF := l.map (fun x => ((x.1 : Int), (x.2 : Int)))
/-- regret.Play -/
def playR (m : List (List zAK)) (n : Int) : zCF × Int := if gameE m ≠ 0 then ([], gameE m) else if n < 0 ∨ 200 < n then ([], 4) else (histOf (playN (inM m) (zDr m) n.toNat).out, 0)
end Go.Ax.Rt
namespace Go.Ax.Rt
open Go.Ax.Bg
theorem zHw (q : Rat) : ∀ (l : List Rat) (acc : Rat), zAu acc (l ++ [q]) = zAu acc l + q
 | [], acc => rfl
 | a :: r, acc => by rw [List.cons_append, zAu, zAu, zHw q r]
theorem sumQ_Dk {k : Nat} {l : List Rat} (h : ∀ q ∈ l, D k q) : ∀ {acc : Rat} {j : Nat}, D j acc → D (j + l.length * (k + 1)) (zAu acc l) := by
 induction l with
 | nil => intro acc j ha; rw [List.length_nil, Nat.zero_mul]; exact ha
 | cons a r ih =>
   intro acc j ha
   rw [zAu, List.length_cons, Nat.add_mul]
   exact (ih (fun q hq => h q (by simp [hq])) (ha.add (h a (by simp)))).mono (by omega)
/-- The first k elements are changed. -/
def mixL {α : Type} (f : α → α) (x : List α) (k : Nat) : List α := (x.take k).map f ++ x.drop k
/-- The counters, as integers. -/
def cntI (f : Int × Int → Int) (l : zCF) (n : Nat) : List Int := (List.range n).map (fun i => ((cnt f l i : Nat) : Int))
/-- The first k elements have something added. -/
def updL (g : Nat → Rat) (x : List Rat) (k : Nat) : List Rat := (List.range x.length).map (fun j => if j < k then x.getD j 0 + g j else x.getD j 0)
end Go.Ax.Rt
namespace Go.Ax.Rt
open Go.Ax.Bg
theorem zKi : ∀ (m : Nat) (l : List Rat), m ≤ l.length → zBf (fun c => l.getD c 0) m = zAu 0 (l.take m)
 | 0, l, _ => rfl
 | m + 1, l, h => by
   rw [zBf, zKi m l (by omega), List.take_succ_eq_append_getElem (by omega), zHw, zAp 0 (by omega)]
def zEH (o : Int → List Rat) (s : RSeq) (P : List Rat) : Rat := if s.before < 0 then 1 else P.getD s.before.toNat 0 * (o s.info).getD s.choice.toNat 0
def zEG (l : List RSeq) (o : Int → List Rat) : Nat → List Rat
 | 0 => []
 | k + 1 => zEG l o k ++ [zEH o (l.getD k zBa) (zEG l o k)]
theorem zID (l : List RSeq) (o : Int → List Rat) : ∀ k, (zEG l o k).length = k
 | 0 => rfl
 | k + 1 => by rw [zEG, List.length_append, zID l o k]; rfl
theorem zD0 (l : List RSeq) (o : Int → List Rat) {j : Nat} : ∀ {k : Nat}, j < k → (zEG l o k).getD j 0 = zEH o (l.getD j zBa) (zEG l o j)
 | 0, h => absurd h (Nat.not_lt_zero _)
 | k + 1, h => by
   rw [zEG]
   by_cases e : j = k
   · subst e
     have : (zEG l o j ++ [zEH o (l.getD j zBa) (zEG l o j)]).getD j 0 = zEH o (l.getD j zBa) (zEG l o j) := by
       have h2 := get_end (l := zEG l o j) (x := zEH o (l.getD j zBa) (zEG l o j)) (d := 0)
       rwa [zID] at h2
     exact this
   · rw [zHD 0 (by rw [zID]; omega)]
     exact zD0 l o (by omega)
theorem zJn (l : List RSeq) (o : Int → List Rat) {j k n : Nat} (h1 : j < k) (h2 : j < n) : (zEG l o k).getD j 0 = (zEG l o n).getD j 0 := by
 rw [zD0 l o h1, zD0 l o h2]
theorem zOL {m : List (Int × Nat)} (h : (m.map Prod.fst).Nodup) {x y : Int × Nat} (hx : x ∈ m) (hy : y ∈ m) (e : x.1 = y.1) : x = y := by
 obtain ⟨i, hi, rfl⟩ := List.getElem_of_mem hx
 obtain ⟨j, hj, rfl⟩ := List.getElem_of_mem hy
 have hp := List.pairwise_iff_getElem.1 h
 rcases Nat.lt_trichotomy i j with q | q | q
 · exact absurd (by rw [List.getElem_map, List.getElem_map]; exact e) (hp i j (by simpa using hi) (by simpa using hj) q)
 · subst q; rfl
 · exact absurd (by rw [List.getElem_map, List.getElem_map]; exact e.symm) (hp j i (by simpa using hj) (by simpa using hi) q)
theorem zLr {t : zT} (hv : Valid t) (p : Int) : (zf t p).length ≤ 61 := by
 have h := (zAh hv p).1
 rw [h]
 have h1 : (zc t p).length ≤ 10 := by
   unfold zc
   refine Nat.le_trans (List.length_filter_le _ _) (by simp)
 have h2 : ∀ x ∈ zc t p, ze t p x ≤ 6 := by
   intro x hx
   obtain ⟨j, hj, hs⟩ := (zBA hv).1 hx
   rw [zCf hv hj hs]
   exact hv.few hj
 have key : ∀ l : List Int, (∀ x ∈ l, ze t p x ≤ 6) → (l.map (ze t p)).sum ≤ 6 * l.length := by
   intro l
   induction l with
   | nil => intro _; exact Nat.le_refl _
   | cons a r ih =>
     intro hl
     have h3 := hl a (by simp)
     have h4 := ih (fun x hx => hl x (by simp [hx]))
     simp only [List.map_cons, List.sum_cons, List.length_cons]
     omega
 have := key _ h2
 omega
/-- The probabilities that belong to a strategy. -/
structure Strat (t : zT) (p : Int) (o : Int → List Rat) (k : Nat) : Prop where
 len : ∀ x ∈ zc t p, (o x).length = ze t p x
 sum : ∀ x ∈ zc t p, zAu 0 (o x) = 1
 nn : ∀ x ∈ zc t p, ∀ q ∈ o x, 0 ≤ q
 dig : ∀ x ∈ zc t p, ∀ q ∈ o x, D k q
def zCL (t : zT) (p : Int) (o : Int → List Rat) : List Rat := zEG (zf t p) o (zf t p).length
/-- What stands at a sequence that is not the first one. -/
theorem seq_at {t : zT} (hv : Valid t) {p : Int} {k : Nat} (h1 : 1 ≤ k) (hk : k < (zf t p).length) : ∃ (x : Int × Nat) (b : Nat), x ∈ (zAE t p t.length).first ∧ x.1 ∈ zc t p ∧ x.2 ≤ k ∧ k < x.2 + ze t p x.1 ∧ b < x.2 ∧ 1 ≤ x.2 ∧ x.2 + ze t p x.1 ≤ (zf t p).length ∧
   ∀ c, c < ze t p x.1 → (zf t p).getD (x.2 + c) zBa = ⟨x.1, (c : Int), (b : Int)⟩ := by
 have h := RI.all_n hv p t.length (Nat.le_refl _)
 obtain ⟨x, x1, x2, x3⟩ := h.all k h1 hk
 obtain ⟨y1, y2, b, b1, b2, b3⟩ := h.fst x x1
 obtain ⟨n, rfl⟩ := Int.eq_ofNat_of_zero_le b1
 exact ⟨x, n, x1, (zBA hv).2 ((h.keys x.1).1 (List.mem_map.2 ⟨x, x1, rfl⟩)), x2, x3, by omega, y1, y2, b3⟩
end Go.Ax.Rt
namespace Go.Ax.Rt
open Go.Ax.Bg
abbrev Way := List (Int × Int)
def zGY (v : Nat → Way) : List Int → Nat → List Way → List Way
 | [], _, a => a
 | c :: r, k, a => zGY v r (k + 1) (a.set c.toNat (v k))
theorem zIW (v : Nat → Way) : ∀ (l : List Int) (k : Nat) (a : List Way), (zGY v l k a).length = a.length
 | [], _, a => rfl
 | c :: r, k, a => by rw [zGY, zIW v r]; simp
def zH5 (p : Int) (n : TNode) (w : Way) (k : Nat) : Way := if own p n = true then w ++ [(n.info, (k : Int))] else w
def zBG (t : zT) (p : Int) : Nat → List Way
 | 0 => List.replicate t.length []
 | i + 1 => zGY (zH5 p (t.getD i node0) ((zBG t p i).getD i [])) (t.getD i node0).next 0 (zBG t p i)
theorem zFA (t : zT) (p : Int) : ∀ i, (zBG t p i).length = t.length
 | 0 => List.length_replicate
 | i + 1 => by rw [zBG, zIW, zFA t p i]
def zAv (t : zT) (p : Int) : Nat → List (Int × Nat)
 | 0 => []
 | i + 1 => if own p (t.getD i node0) = true ∧ zBM (zAv t p i) (t.getD i node0).info = none then zAv t p i ++ [((t.getD i node0).info, i)] else zAv t p i
def zEZ (t : zT) (p : Int) (W : List Way) : Nat → Bool
 | 0 => true
 | i + 1 => zEZ t p W i && (if own p (t.getD i node0) = true then (match zBM (zAv t p i) (t.getD i node0).info with | none => true | some k => decide (W.getD i [] = W.getD k [])) else true)
def zBh (t : zT) (p : Int) : Bool := zEZ t p (zBG t p t.length) t.length
theorem zEY {t : zT} {p : Int} : ∀ {i : Nat} {x : Int × Nat}, x ∈ zAv t p i → x.2 < i ∧ own p (t.getD x.2 node0) = true ∧ (t.getD x.2 node0).info = x.1
 | 0, x, h => by simp [zAv] at h
 | i + 1, x, h => by
   rw [zAv] at h
   split at h
   · rename_i hc
     rcases List.mem_append.1 h with q | q
     · obtain ⟨h1, h2⟩ := zEY q
       exact ⟨by omega, h2⟩
     · have : x = ((t.getD i node0).info, i) := by simpa using q
       subst this
       exact ⟨Nat.lt_succ_self _, hc.1, rfl⟩
   · obtain ⟨h1, h2⟩ := zEY h
     exact ⟨by omega, h2⟩
/-- RecallAlone: with at most one node in each set. -/
theorem alone {t : zT} {p : Int} (h : ∀ i j, i < j → j < t.length → own p (t.getD i node0) = true → own p (t.getD j node0) = true → (t.getD i node0).info ≠ (t.getD j node0).info) : zBh t p = true := by
 unfold zBh
 have key : ∀ (W : List Way) (i : Nat), i ≤ t.length → zEZ t p W i = true := by
   intro W i
   induction i with
   | zero => intro _; rfl
   | succ i ih =>
     intro hi
     rw [zEZ, ih (by omega), Bool.true_and]
     split
     · rename_i ho
       cases e : zBM (zAv t p i) (t.getD i node0).info with
       | none => rfl
       | some k =>
         obtain ⟨h1, h2, h3⟩ := zEY (zCI e)
         exact absurd h3 (h k i h1 (by omega) h2 ho)
     · rfl
 exact key _ _ (Nat.le_refl _)
end Go.Ax.Rt
namespace Go.Ax.Rt
open Go.Ax.Bg
/-- The probabilities of the children of a node: none where a node has no own ones. -/
abbrev zw := Nat → Option (List Rat)
def setQ (v : Nat → Rat) : List Int → Nat → List Rat → List Rat
 | [], _, a => a
 | c :: r, k, a => setQ v r (k + 1) (a.set c.toNat (v k))
theorem zLb (v : Nat → Rat) : ∀ (l : List Int) (k : Nat) (a : List Rat), (setQ v l k a).length = a.length
 | [], _, a => rfl
 | c :: r, k, a => by rw [setQ, zLb v r]; simp
def zKv (o : Option (List Rat)) (q : Rat) (k : Nat) : Rat := match o with | none => q | some l => q * l.getD k 0
def zBm (t : zT) (o : zw) : Nat → List Rat
 | 0 => (List.replicate t.length 0).set 0 1
 | i + 1 => setQ (zKv (o i) ((zBm t o i).getD i 0)) (t.getD i node0).next 0 (zBm t o i)
def zY (t : zT) (o : zw) : List Rat := zBm t o t.length
theorem zCk (t : zT) (o : zw) : ∀ i, (zBm t o i).length = t.length
 | 0 => by simp [zBm]
 | i + 1 => by rw [zBm, zLb, zCk t o i]
theorem zFV (v : Nat → Rat) {j : Nat} : ∀ (l : List Int) (k : Nat) (a : List Rat), (∀ c ∈ l, c.toNat ≠ j) → (setQ v l k a).getD j 0 = a.getD j 0
 | [], _, a, _ => rfl
 | c :: r, k, a, h => by
   rw [setQ, zFV v r (k + 1) _ (fun c hc => h c (by simp [hc])), Go.Ax.Dt.getD_set, if_neg]
   exact fun q => h c (by simp) q.1.symm
theorem zN6 (v : Nat → Rat) : ∀ (l : List Int) (k : Nat) (a : List Rat) (m : Nat), m < l.length → (l.map Int.toNat).Nodup → (∀ c ∈ l, c.toNat < a.length) → (setQ v l k a).getD (l.getD m 0).toNat 0 = v (k + m)
 | [], _, a, m, h, _, _ => absurd h (Nat.not_lt_zero _)
 | c :: r, k, a, m, h, hn, hl => by
   rw [List.map_cons, List.nodup_cons] at hn
   rw [setQ]
   cases m with
   | zero =>
     have : (c :: r).getD 0 0 = c := rfl
     rw [this, zFV, Go.Ax.Dt.getD_set, if_pos ⟨rfl, hl c (by simp)⟩, Nat.add_zero]
     intro x hx e
     exact hn.1 (List.mem_map.2 ⟨x, hx, e⟩)
   | succ m =>
     have : (c :: r).getD (m + 1) 0 = r.getD m 0 := rfl
     rw [this, zN6 v r (k + 1) _ m (by simpa using h) hn.2 (fun x hx => by rw [List.length_set]; exact hl x (by simp [hx]))]
     congr 1; omega
/-- Who names whom. -/
def kid (t : zT) (i : Nat) (c : Nat) : Prop := (c : Int) ∈ (t.getD i node0).next
theorem zJX (l : List Int) (k : Int) : (l.filter (fun x => decide (x = k))).length = l.count k := by
 rw [List.count_eq_length_filter]
 congr 1
theorem zKk (t : zT) (k : Nat) : named t k = (t.map (fun n => n.next.count (k : Int))).sum := by
 unfold named
 rw [zJX]
 induction t with
 | nil => rfl
 | cons n r ih => rw [List.flatMap_cons, List.count_append, List.map_cons, List.sum_cons, ih]
theorem sum_one {l : List Nat} (h : l.sum = 1) {i j : Nat} (hi : i < l.length) (hj : j < l.length) (hij : i ≠ j) (h1 : 1 ≤ l[i]) (h2 : 1 ≤ l[j]) : False := by
 induction l generalizing i j with
 | nil => simp at hi
 | cons a r ih =>
   have mem_le : ∀ (r : List Nat) (k : Nat) (hk : k < r.length), r[k] ≤ r.sum := by
     intro r
     induction r with
     | nil => intro k hk; simp at hk
     | cons b q ihq =>
       intro k hk
       cases k with
       | zero => simp
       | succ k =>
         have := ihq k (by simpa using hk)
         simp only [List.getElem_cons_succ, List.sum_cons]
         omega
   rw [List.sum_cons] at h
   cases i with
   | zero =>
     cases j with
     | zero => exact hij rfl
     | succ j =>
       have := mem_le r j (by simpa using hj)
       simp only [List.getElem_cons_zero, List.getElem_cons_succ] at h1 h2
       omega
   | succ i =>
     cases j with
     | zero =>
       have := mem_le r i (by simpa using hi)
       simp only [List.getElem_cons_zero, List.getElem_cons_succ] at h1 h2
       omega
     | succ j =>
       simp only [List.getElem_cons_succ] at h1 h2
       have := mem_le r i (by simpa using hi)
       refine ih (by omega) (by simpa using hi) (by simpa using hj) (by omega) h1 h2
/-- Each node but the first has one parent, and is named once there. -/
theorem Valid.parent {t : zT} (h : Valid t) {c i j : Nat} (hc : c < t.length) (h0 : c ≠ 0) (hi : i < t.length) (hj : j < t.length) (k1 : kid t i c) (k2 : kid t j c) : i = j := by
 have hn := h.once c hc h0
 rw [zKk] at hn
 apply Classical.byContradiction
 intro hij
 refine sum_one hn (i := i) (j := j) (by simpa using hi) (by simpa using hj) hij ?_ ?_
 · rw [List.getElem_map, ← zAp node0 hi]
   exact List.count_pos_iff.2 k1
 · rw [List.getElem_map, ← zAp node0 hj]
   exact List.count_pos_iff.2 k2
theorem Valid.has {t : zT} (h : Valid t) {c : Nat} (hc : c < t.length) (h0 : c ≠ 0) : ∃ i, i < t.length ∧ kid t i c := by
 have hn := h.once c hc h0
 unfold named at hn
 have hne : (t.flatMap TNode.next).filter (fun x => decide (x = (c : Int))) ≠ [] := by intro e; rw [e] at hn; cases hn
 obtain ⟨x, hx⟩ := List.exists_mem_of_ne_nil _ hne
 obtain ⟨h1, h2⟩ := List.mem_filter.1 hx
 obtain ⟨n, hn1, hn2⟩ := List.mem_flatMap.1 h1
 obtain ⟨i, hi, rfl⟩ := List.getElem_of_mem hn1
 refine ⟨i, hi, ?_⟩
 unfold kid
 rw [zAp node0 hi]
 have : x = (c : Int) := by simpa using h2
 rw [← this]; exact hn2
theorem Valid.kid_lt {t : zT} (h : Valid t) {c i : Nat} (hi : i < t.length) (k : kid t i c) : i < c ∧ c < t.length := by
 have := h.behind hi _ k
 omega
theorem Valid.kids_nodup {t : zT} (h : Valid t) {i : Nat} (hi : i < t.length) : ((t.getD i node0).next.map Int.toNat).Nodup := by
 rw [List.nodup_iff_pairwise_ne, List.pairwise_map, List.pairwise_iff_getElem]
 intro a b ha hb hab e
 have ma := List.getElem_mem ha
 have mb := List.getElem_mem hb
 have b1 := h.behind hi _ ma
 have b2 := h.behind hi _ mb
 have e2 : (t.getD i node0).next[a] = (t.getD i node0).next[b] := by omega
 obtain ⟨c, hc⟩ := Int.eq_ofNat_of_zero_le (show 0 ≤ (t.getD i node0).next[a] by omega)
 have hn := h.once c (by omega) (by omega)
 rw [zKk] at hn
 have h2 : 2 ≤ (t.getD i node0).next.count (c : Int) := by
   have hs : [(c : Int), (c : Int)].Sublist (t.getD i node0).next := by
     have h3 : (t.getD i node0).next = (t.getD i node0).next.take b ++ (t.getD i node0).next.drop b := (List.take_append_drop b _).symm
     rw [h3]
     have h4 : (c : Int) ∈ (t.getD i node0).next.take b := by
       rw [List.mem_take_iff_getElem]
       exact ⟨a, by omega, hc⟩
     have h5 : (c : Int) ∈ (t.getD i node0).next.drop b := by
       rw [List.mem_drop_iff_getElem]
       exact ⟨0, by simpa using hb, by simp only [Nat.add_zero]; rw [← e2]; exact hc⟩
     have := List.Sublist.append (List.singleton_sublist.2 h4) (List.singleton_sublist.2 h5)
     simpa using this
   have := hs.count_le (c : Int)
   simpa using this
 have h6 : (t.map (fun n => n.next.count (c : Int)))[i]'(by simpa using hi) ≤ (t.map (fun n => n.next.count (c : Int))).sum := by
   have mem_le : ∀ (r : List Nat) (k : Nat) (hk : k < r.length), r[k] ≤ r.sum := by
     intro r
     induction r with
     | nil => intro k hk; simp at hk
     | cons b q ihq =>
       intro k hk
       cases k with
       | zero => simp
       | succ k =>
         have := ihq k (by simpa using hk)
         simp only [List.getElem_cons_succ, List.sum_cons]
         omega
   exact mem_le _ _ _
 rw [List.getElem_map, ← zAp node0 hi] at h6
 omega
/-- What does not change any more. -/
theorem zHA {t : zT} (h : Valid t) (o : zw) {j : Nat} (hj : j < t.length) : ∀ d i, j ≤ i → i + d ≤ t.length → (zBm t o (i + d)).getD j 0 = (zBm t o i).getD j 0
 | 0, i, _, _ => rfl
 | d + 1, i, h1, h2 => by
   rw [← Nat.add_assoc, zBm, zFV, zHA h o hj d i h1 (by omega)]
   intro c hc e
   have := h.behind (show i + d < t.length by omega) c hc
   omega
theorem zDG {t : zT} (h : Valid t) (o : zw) : (zY t o).getD 0 0 = 1 := by
 have hn := h.ne
 have := zHA h o (j := 0) (by omega) t.length 0 (Nat.le_refl _) (by omega)
 rw [Nat.zero_add] at this
 unfold zY
 rw [this, zBm, Go.Ax.Dt.getD_set, if_pos ⟨rfl, by simp; omega⟩]
/-- Each child's probability is that of its parent, times that of the choice. -/
theorem zDx {t : zT} (h : Valid t) (o : zw) {i m : Nat} (hi : i < t.length) (hm : m < (t.getD i node0).next.length) : (zY t o).getD ((t.getD i node0).next.getD m 0).toNat 0 = zKv (o i) ((zY t o).getD i 0) m := by
 have hb := h.behind hi _ (zAl 0 hm)
 have hc : ((t.getD i node0).next.getD m 0).toNat < t.length := by omega
 have h1 : (zBm t o (i + 1)).getD ((t.getD i node0).next.getD m 0).toNat 0 = zKv (o i) ((zBm t o i).getD i 0) m := by
   rw [zBm, zN6 _ _ _ _ m hm (h.kids_nodup hi) (fun c hc => by rw [zCk]; have := h.behind hi c hc; omega), Nat.zero_add]
 have h2 := zHA h o (j := i) hi (t.length - i) i (Nat.le_refl _) (by omega)
 rw [show i + (t.length - i) = t.length by omega] at h2
 -- the child is not touched again
 have key : ∀ d, i + 1 + d ≤ t.length → (zBm t o (i + 1 + d)).getD ((t.getD i node0).next.getD m 0).toNat 0 = (zBm t o (i + 1)).getD ((t.getD i node0).next.getD m 0).toNat 0 := by
   intro d
   induction d with
   | zero => intro _; rfl
   | succ d ih =>
     intro hd
     rw [← Nat.add_assoc, zBm, zFV, ih (by omega)]
     intro c hc2 e
     have hc3 := h.behind (show i + 1 + d < t.length by omega) c hc2
     have k1 : kid t i ((t.getD i node0).next.getD m 0).toNat := by
       unfold kid
       rw [show ((((t.getD i node0).next.getD m 0).toNat : Nat) : Int) = (t.getD i node0).next.getD m 0 by omega]
       exact zAl 0 hm
     have k2 : kid t (i + 1 + d) ((t.getD i node0).next.getD m 0).toNat := by
       unfold kid
       rw [← e, show ((c.toNat : Nat) : Int) = c by omega]
       exact hc2
     have := h.parent hc (by omega) hi (by omega) k1 k2
     omega
 have h3 := key (t.length - (i + 1)) (by omega)
 rw [show i + 1 + (t.length - (i + 1)) = t.length by omega] at h3
 unfold zY
 rw [h3, h1, h2]
end Go.Ax.Rt
namespace Go.Ax.Rt
open Go.Ax.Bg
theorem zD1 {f : Nat → Rat} {a : Nat} : ∀ {n : Nat}, a < n → zBf (fun j => if j = a then f j else 0) n = f a
 | 0, h => absurd h (Nat.not_lt_zero _)
 | n + 1, h => by
   rw [zBf]
   by_cases e : n = a
   · subst e
     have : zBf (fun j => if j = n then f j else 0) n = 0 := by
       rw [zBQ (g := fun _ => 0) (fun i hi => by rw [if_neg (by omega)]), zGc]
     rw [this, if_pos rfl, Rat.zero_add]
   · rw [zD1 (n := n) (by omega), if_neg e, Rat.add_zero]
theorem zCQ : ∀ (l : List Rat) (a : Rat), zAu a l = a + zAu 0 l
 | [], a => by rw [zAu, zAu, Rat.add_zero]
 | q :: r, a => by rw [zAu, zAu, zCQ r (a + q), zCQ r (0 + q), Rat.zero_add, Rat.add_assoc]
/-- A sum over some of the indices. -/
theorem zJE {f : Nat → Rat} {n : Nat} : ∀ (ks : List Nat), ks.Nodup → (∀ k ∈ ks, k < n) → zBf (fun j => if j ∈ ks then f j else 0) n = zAu 0 (ks.map f)
 | [], _, _ => by
   rw [zBQ (g := fun _ => 0) (fun i hi => by rw [if_neg (by simp)]), zGc]; rfl
 | a :: r, hn, hl => by
   rw [List.nodup_cons] at hn
   rw [List.map_cons, zAu, zCQ, Rat.zero_add, ← zJE r hn.2 (fun k hk => hl k (by simp [hk])), ← zD1 (f := f) (hl a (by simp)), ← zGE]
   refine zBQ (fun j hj => ?_)
   by_cases h1 : j = a
   · subst h1
     rw [if_pos (by simp), if_pos rfl, if_neg hn.1, Rat.add_zero]
   · by_cases h2 : j ∈ r
     · rw [if_pos (by simp [h2]), if_neg h1, if_pos h2, Rat.zero_add]
     · rw [if_neg (by simp [h1, h2]), if_neg h1, if_neg h2, Rat.zero_add]
/-- The probabilities at each node that is no end. -/
structure OddsOK (t : zT) (o : zw) (d : Nat) : Prop where
 at' : ∀ i, i < t.length → (t.getD i node0).kind ≠ 0 → ∃ l, o i = some l ∧ l.length = (t.getD i node0).next.length ∧ zAu 0 l = 1 ∧ ∀ q ∈ l, 0 ≤ q ∧ D d q
def zHx (t : zT) (i : Nat) : List Nat := (t.getD i node0).next.map Int.toNat
theorem zJg {t : zT} (h : Valid t) {i j : Nat} (hi : i < t.length) : j ∈ zHx t i ↔ kid t i j := by
 unfold zHx kid
 rw [List.mem_map]
 constructor
 · rintro ⟨x, hx, rfl⟩
   have := h.behind hi x hx
   rw [show ((x.toNat : Nat) : Int) = x by omega]; exact hx
 · intro hx; exact ⟨_, hx, Int.toNat_natCast j⟩
theorem zLl {t : zT} (h : Valid t) {i : Nat} (hi : i < t.length) (hk : (t.getD i node0).kind = 0) : zHx t i = [] := by
 rcases h.child hi with ⟨_, h2⟩ | ⟨h1, _⟩
 · unfold zHx; rw [h2]; rfl
 · rcases h1 with h1 | h1 <;> rw [hk] at h1 <;> exact absurd h1 (by decide)
/-- The children together are as probable as their parent. -/
theorem kids_sum {t : zT} (h : Valid t) {o : zw} {d : Nat} (ho : OddsOK t o d) {i : Nat} (hi : i < t.length) (hk : (t.getD i node0).kind ≠ 0) : zAu 0 ((zHx t i).map (fun j => (zY t o).getD j 0)) = (zY t o).getD i 0 := by
 obtain ⟨l, h1, h2, h3, h4⟩ := ho.at' i hi hk
 have e : (zHx t i).map (fun j => (zY t o).getD j 0) = l.map (fun q => (zY t o).getD i 0 * q) := by
   apply List.ext_getElem (by simp [zHx, h2])
   intro m hm1 hm2
   have hm : m < (t.getD i node0).next.length := by simpa [zHx] using hm1
   have := zDx h o hi hm
   rw [h1] at this
   simp only [List.getElem_map]
   have e1 : (zHx t i)[m]'(by simpa [zHx] using hm) = ((t.getD i node0).next.getD m 0).toNat := by
     simp only [zHx, List.getElem_map]
     rw [zAp 0 hm]
   have hml : m < l.length := by rw [h2]; exact hm
   rw [e1, this]
   exact congrArg (fun x => (zY t o).getD i 0 * x) (zAp 0 hml)
 have key : ∀ (q : Rat) (l : List Rat) (a : Rat), zAu (q * a) (l.map (fun x => q * x)) = q * zAu a l := by
   intro q l
   induction l with
   | nil => intro a; rfl
   | cons x r ih => intro a; rw [List.map_cons, zAu, zAu, ← Rat.mul_add, ih]
 rw [e]
 have := key ((zY t o).getD i 0) l 0
 rw [Rat.mul_zero] at this
 rw [this, h3, Rat.mul_one]
def zEq (t : zT) (i j : Nat) : Prop := (j < i ∧ (t.getD j node0).kind = 0) ∨ (i ≤ j ∧ (j = 0 ∨ ∃ a, a < i ∧ kid t a j))
open Classical in
theorem zKj {t : zT} (h : Valid t) {o : zw} {d : Nat} (ho : OddsOK t o d) : ∀ i, i ≤ t.length → zBf (fun j => if zEq t i j then (zY t o).getD j 0 else 0) t.length = 1
 | 0, _ => by
   have hn := h.ne
   rw [zBQ (g := fun j => if j = 0 then (zY t o).getD j 0 else 0) (fun j hj => ?_), zD1 (by omega), zDG h]
   by_cases e : j = 0
   · rw [if_pos e, if_pos (.inr ⟨Nat.zero_le _, .inl e⟩)]
   · rw [if_neg e, if_neg]
     rintro (⟨q, _⟩ | ⟨_, q | ⟨a, q, _⟩⟩)
     · omega
     · exact e q
     · omega
 | i + 1, hi => by
   have ih := zKj h ho i (by omega)
   have hi' : i < t.length := by omega
   have hfi : zEq t i i := by
     right
     refine ⟨Nat.le_refl _, ?_⟩
     by_cases e : i = 0
     · exact .inl e
     · obtain ⟨a, ha, hk⟩ := h.has hi' e
       exact .inr ⟨a, (h.kid_lt ha hk).1, hk⟩
   have hkn : ∀ j, kid t i j → j < t.length → ¬ zEq t i j := by
     intro j hk hj
     have := h.kid_lt hi' hk
     rintro (⟨q, _⟩ | ⟨_, q | ⟨a, q, hk2⟩⟩)
     · omega
     · omega
     · have := h.parent hj (by omega) hi' (by omega) hk hk2
       omega
   have split1 : zBf (fun j => if zEq t (i + 1) j then (zY t o).getD j 0 else 0) t.length
       = zBf (fun j => (if zEq t i j then (zY t o).getD j 0 else 0) + ((if j ∈ zHx t i then (zY t o).getD j 0 else 0) + (if j = i then (if (t.getD i node0).kind = 0 then 0 else - (zY t o).getD i 0) else 0))) t.length := by
     refine zBQ (fun j hj => ?_)
     have hmk := zJg h hi' (j := j)
     by_cases e : j = i
     · subst e
       have hnk : ¬ kid t j j := fun hk => by have := h.kid_lt hi' hk; omega
       rw [if_pos hfi, if_neg (fun q => hnk (hmk.1 q)), if_pos rfl, Rat.zero_add]
       by_cases hk : (t.getD j node0).kind = 0
       · rw [if_pos hk, if_pos (.inl ⟨Nat.lt_succ_self _, hk⟩), Rat.add_zero]
       · rw [if_neg hk, if_neg, Rat.add_neg_cancel]
         rintro (⟨_, q⟩ | ⟨q, _⟩)
         · exact hk q
         · omega
     · rw [if_neg e, Rat.add_zero]
       by_cases hk : kid t i j
       · rw [if_pos (hmk.2 hk), if_neg (hkn j hk hj), Rat.zero_add, if_pos]
         have := h.kid_lt hi' hk
         exact .inr ⟨by omega, .inr ⟨i, Nat.lt_succ_self _, hk⟩⟩
       · rw [if_neg (fun q => hk (hmk.1 q)), Rat.add_zero]
         have : zEq t (i + 1) j ↔ zEq t i j := by
           constructor
           · rintro (⟨q1, q2⟩ | ⟨q1, q2 | ⟨a, q2, q3⟩⟩)
             · exact .inl ⟨by omega, q2⟩
             · omega
             · by_cases ea : a = i
               · subst ea; exact absurd q3 hk
               · exact .inr ⟨by omega, .inr ⟨a, by omega, q3⟩⟩
           · rintro (⟨q1, q2⟩ | ⟨q1, q2 | ⟨a, q2, q3⟩⟩)
             · exact .inl ⟨by omega, q2⟩
             · subst q2
               have : i = 0 := by omega
               exact absurd this.symm e
             · exact .inr ⟨by omega, .inr ⟨a, by omega, q3⟩⟩
         by_cases hf : zEq t i j
         · rw [if_pos hf, if_pos (this.2 hf)]
         · rw [if_neg hf, if_neg (fun q => hf (this.1 q))]
   rw [split1, zGE, zGE, ih, zJE (zHx t i) (h.kids_nodup hi') (fun k hk => (h.kid_lt hi' ((zJg h hi').1 hk)).2)]
   have e2 : zBf (fun j => if j = i then (if (t.getD i node0).kind = 0 then 0 else - (zY t o).getD i 0) else 0) t.length = (if (t.getD i node0).kind = 0 then 0 else - (zY t o).getD i 0) :=
     zD1 (f := fun _ => if (t.getD i node0).kind = 0 then 0 else - (zY t o).getD i 0) hi'
   rw [e2]
   by_cases hk : (t.getD i node0).kind = 0
   · rw [if_pos hk, zLl h hi' hk]
     show (1 : Rat) + (0 + 0) = 1
     rw [Rat.add_zero, Rat.add_zero]
   · rw [if_neg hk, kids_sum h ho hi' hk, Rat.add_neg_cancel, Rat.add_zero]
def zx (t : zT) : List Nat := (List.range t.length).filter (fun i => decide ((t.getD i node0).kind = 0))
theorem ends_sum {t : zT} (h : Valid t) {o : zw} {d : Nat} (ho : OddsOK t o d) : zAu 0 ((zx t).map (fun j => (zY t o).getD j 0)) = 1 := by
 classical
 have h1 := zKj h ho t.length (Nat.le_refl _)
 rw [← zJE (n := t.length) (zx t) (List.Nodup.sublist List.filter_sublist List.nodup_range) (fun k hk => by
   have := (List.mem_filter.1 hk).1
   simpa using this), ← h1]
 refine zBQ (fun j hj => ?_)
 have : j ∈ zx t ↔ zEq t t.length j := by
   unfold zx zEq
   rw [List.mem_filter, List.mem_range, decide_eq_true_eq]
   constructor
   · exact .inl
   · rintro (q | ⟨q, _⟩)
     · exact q
     · omega
 by_cases hf : j ∈ zx t
 · rw [if_pos hf, if_pos (this.1 hf)]
 · rw [if_neg hf, if_neg (fun q => hf (this.2 q))]
end Go.Ax.Rt
namespace Go.Ax.Rt
open Go.Ax.Bg
theorem zIy : ∀ (N : Nat) (l : List Nat), l.Nodup → (∀ x ∈ l, x < N) → l.length ≤ N
 | 0, [], _, _ => Nat.le_refl _
 | 0, a :: r, _, h => absurd (h a (by simp)) (Nat.not_lt_zero _)
 | N + 1, l, hn, h => by
   by_cases hN : N ∈ l
   · have h1 := zIy N (l.erase N) (hn.erase N) (fun x hx => by
       have h2 := (hn.mem_erase_iff).1 hx
       have := h x h2.2
       omega)
     rw [List.length_erase_of_mem hN] at h1
     omega
   · have h1 := zIy N l hn (fun x hx => by
       have := h x hx
       have : x ≠ N := fun e => hN (e ▸ hx)
       omega)
     omega
theorem zI0 {t : zT} (h : Valid t) : (t.flatMap TNode.next).length ≤ t.length := by
 have hb : ∀ x ∈ t.flatMap TNode.next, 0 < x ∧ x < t.length := by
   intro x hx
   obtain ⟨n, hn1, hn2⟩ := List.mem_flatMap.1 hx
   obtain ⟨i, hi, rfl⟩ := List.getElem_of_mem hn1
   have := h.behind hi x (by rw [zAp node0 hi]; exact hn2)
   omega
 have hnd : (t.flatMap TNode.next).Nodup := by
   rw [List.nodup_iff_count]
   intro a
   by_cases ha : a ∈ t.flatMap TNode.next
   · have hb' := hb a ha
     have h1 := h.once a.toNat (by omega) (by omega)
     unfold named at h1
     rw [zJX, show ((a.toNat : Nat) : Int) = a by omega] at h1
     omega
   · rw [List.count_eq_zero_of_not_mem ha]; omega
 have hl := zIy t.length ((t.flatMap TNode.next).map Int.toNat) (by
   rw [List.nodup_iff_pairwise_ne, List.pairwise_map]
   refine List.Pairwise.imp_of_mem ?_ (List.nodup_iff_pairwise_ne.1 hnd)
   intro a b ha hb2 hab e
   have := hb a ha
   have := hb b hb2
   omega) (fun x hx => by
   obtain ⟨y, hy, rfl⟩ := List.mem_map.1 hx
   have := hb y hy
   omega)
 simpa using hl
/-- A number whose multiple by B is whole. -/
def Dv (B : Nat) (q : Rat) : Prop := ∃ z : Int, q * (B : Rat) = (z : Rat)
theorem Dv.den {B : Nat} {q : Rat} (h : Dv B q) (hB : B ≠ 0) : q.den ∣ B := by
 obtain ⟨z, hz⟩ := h
 have hB' : ((B : Int) : Rat) ≠ 0 := intc_ne (by omega)
 have e : q = Rat.divInt z B := by
   rw [Rat.divInt_eq_div, ← hz, ← Rat.intCast_natCast]
   have h1 := Rat.div_mul_cancel (a := q * ((B : Int) : Rat)) hB'
   refine zNF hB' ?_
   rw [Rat.mul_comm _ (q * ((B : Int) : Rat) / ((B : Int) : Rat)), h1, Rat.mul_comm]
 rw [e, (zHM z B hB).2.1]
 exact Nat.div_dvd_of_dvd (Nat.gcd_dvd_right _ _)
theorem Dv.of_den {q : Rat} : Dv q.den q := ⟨q.num, num_den q⟩
theorem Dv.mono {A B : Nat} {q : Rat} (h : Dv A q) (hd : A ∣ B) : Dv B q := by
 obtain ⟨z, hz⟩ := h
 obtain ⟨k, rfl⟩ := hd
 refine ⟨z * k, ?_⟩
 rw [Rat.natCast_mul, ← Rat.mul_assoc, hz, Rat.intCast_mul, Rat.intCast_natCast]
theorem Dv.add {B : Nat} {a b : Rat} (ha : Dv B a) (hb : Dv B b) : Dv B (a + b) := by
 obtain ⟨x, hx⟩ := ha
 obtain ⟨y, hy⟩ := hb
 exact ⟨x + y, by rw [Rat.add_mul, hx, hy, Rat.intCast_add]⟩
theorem Dv.mul {A B : Nat} {a b : Rat} (ha : Dv A a) (hb : Dv B b) : Dv (A * B) (a * b) := by
 obtain ⟨x, hx⟩ := ha
 obtain ⟨y, hy⟩ := hb
 refine ⟨x * y, ?_⟩
 rw [Rat.intCast_mul, ← hx, ← hy, Rat.natCast_mul]
 grind
theorem Dv.zero (B : Nat) : Dv B 0 := ⟨0, by rw [Rat.zero_mul]; rfl⟩
theorem Dv.one (B : Nat) : Dv B 1 := ⟨B, by rw [Rat.one_mul, Rat.intCast_natCast]⟩
/-- A number from 0 to 1 is not longer than its denominator. -/
theorem unit_D {B K : Nat} {q : Rat} (h : Dv B q) (hB : B ≠ 0) (h0 : 0 ≤ q) (h1 : q ≤ 1) (hK : B < 10 ^ K) : D K q := by
 have hd := Nat.le_of_dvd (by omega) (h.den hB)
 refine ⟨?_, by omega⟩
 have hn : q.num ≤ q.den := by
   have h2 := Rat.not_lt.2 h1
   rw [Rat.lt_iff] at h2
   have h3 : ¬ ((1 : Int) * (q.den : Int) < q.num * 1) := h2
   omega
 have := Rat.num_nonneg.2 h0
 omega
def zGp : List Nat → Nat
 | [] => 1
 | a :: r => a * zGp r
theorem zKV {l : List Nat} (h : ∀ x ∈ l, 0 < x) : 0 < zGp l := by
 induction l with
 | nil => exact Nat.one_pos
 | cons a r ih => rw [zGp]; exact Nat.mul_pos (h a (by simp)) (ih (fun x hx => h x (by simp [hx])))
theorem zIB {l : List Nat} {x : Nat} (h : x ∈ l) : x ∣ zGp l := by
 induction l with
 | nil => simp at h
 | cons a r ih =>
   rw [zGp]
   rcases List.mem_cons.1 h with rfl | q
   · exact Nat.dvd_mul_right _ _
   · exact Nat.dvd_trans (ih q) (Nat.dvd_mul_left _ _)
theorem zJQ {l : List Nat} {d : Nat} (h : ∀ x ∈ l, x ≤ 10 ^ d) : zGp l ≤ 10 ^ (d * l.length) := by
 induction l with
 | nil => rw [zGp, List.length_nil, Nat.mul_zero, Nat.pow_zero]; exact Nat.le_refl _
 | cons a r ih =>
   rw [zGp, List.length_cons, Nat.mul_add, Nat.mul_one, Nat.add_comm, Nat.pow_add]
   exact Nat.mul_le_mul (h a (by simp)) (ih (fun x hx => h x (by simp [hx])))
def pden (o : Option (List Rat)) : Nat := match o with | none => 1 | some l => zGp (l.map Rat.den)
theorem pden_pos (o : Option (List Rat)) : 0 < pden o := by
 cases o with
 | none => exact Nat.one_pos
 | some l => exact zKV (fun x hx => by obtain ⟨q, _, rfl⟩ := List.mem_map.1 hx; exact q.den_pos)
def Bd (o : zw) : Nat → Nat
 | 0 => 1
 | i + 1 => Bd o i * pden (o i)
theorem zLD (o : zw) : ∀ i, 0 < Bd o i
 | 0 => Nat.one_pos
 | i + 1 => Nat.mul_pos (zLD o i) (pden_pos _)
theorem zGu (o : zw) {i : Nat} : ∀ d, Bd o i ∣ Bd o (i + d)
 | 0 => Nat.dvd_refl _
 | d + 1 => Nat.dvd_trans (zGu o d) (Nat.dvd_mul_right _ _)
/-- An end has no probabilities of its own. -/
structure OddsAll (t : zT) (o : zw) (d : Nat) : Prop extends OddsOK t o d where
 none : ∀ i, i < t.length → (t.getD i node0).kind = 0 → o i = none
theorem zJU {t : zT} {i j : Nat} (h : Valid t) (hi : i < t.length) (hk : kid t i j) : ∃ m, m < (t.getD i node0).next.length ∧ ((t.getD i node0).next.getD m 0).toNat = j := by
 obtain ⟨m, hm, he⟩ := List.getElem_of_mem hk
 exact ⟨m, hm, by rw [zAp 0 hm, he]; exact Int.toNat_natCast j⟩
theorem kid_kind {t : zT} {i j : Nat} (h : Valid t) (hi : i < t.length) (hk : kid t i j) : (t.getD i node0).kind ≠ 0 := by
 intro e
 have := zLl h hi e
 have h2 := (zJg h hi).2 hk
 rw [this] at h2; simp at h2
theorem zG5 {t : zT} (h : Valid t) {o : zw} {d : Nat} (ho : OddsAll t o d) : ∀ j, j < t.length → Dv (Bd o j) ((zY t o).getD j 0) ∧ 0 ≤ (zY t o).getD j 0 := by
 intro j
 induction j using Nat.strongRecOn with
 | ind j ih =>
   intro hj
   by_cases h0 : j = 0
   · subst h0
     rw [zDG h]
     exact ⟨Dv.one _, by decide +kernel⟩
   · obtain ⟨i, hi, hk⟩ := h.has hj h0
     have hlt := h.kid_lt hi hk
     obtain ⟨m, hm, he⟩ := zJU h hi hk
     obtain ⟨l, l1, l2, l3, l4⟩ := ho.at' i hi (kid_kind h hi hk)
     have hr := zDx h o hi hm
     rw [he, l1] at hr
     have hr : (zY t o).getD j 0 = (zY t o).getD i 0 * l.getD m 0 := hr
     obtain ⟨g1, g2⟩ := ih i (by omega) hi
     have hq := l4 (l.getD m 0) (zAl 0 (by omega))
     rw [hr]
     refine ⟨?_, Rat.mul_nonneg g2 hq.1⟩
     have h5 : Dv (Bd o (i + 1)) ((zY t o).getD i 0 * l.getD m 0) := by
       refine (g1.mul (Dv.of_den (q := l.getD m 0))).mono ?_
       show _ ∣ Bd o i * pden (o i)
       rw [l1]
       exact Nat.mul_dvd_mul (Nat.dvd_refl _) (zIB (List.mem_map.2 ⟨_, zAl 0 (by omega), rfl⟩))
     have h6 := zGu o (i := i + 1) (j - (i + 1))
     rw [show i + 1 + (j - (i + 1)) = j by omega] at h6
     exact h5.mono h6
theorem Bd_le {t : zT} (h : Valid t) {o : zw} {d : Nat} (ho : OddsAll t o d) : ∀ i, i ≤ t.length → Bd o i ≤ 10 ^ (d * ((t.take i).flatMap TNode.next).length)
 | 0, _ => by simp [Bd]
 | i + 1, hi => by
   have ih := Bd_le h ho i (by omega)
   have hi' : i < t.length := by omega
   have hp : pden (o i) ≤ 10 ^ (d * (t.getD i node0).next.length) := by
     by_cases hk : (t.getD i node0).kind = 0
     · rw [ho.none i hi' hk]
       exact Nat.pow_pos (by decide)
     · obtain ⟨l, l1, l2, l3, l4⟩ := ho.at' i hi' hk
       rw [l1, ← l2]
       have := zJQ (l := l.map Rat.den) (d := d) (fun x hx => by
         obtain ⟨q, hq, rfl⟩ := List.mem_map.1 hx
         exact Nat.le_of_lt (l4 q hq).2.2)
       rwa [List.length_map] at this
   rw [Bd, List.take_succ_eq_append_getElem hi', List.flatMap_append, List.length_append, Nat.mul_add, Nat.pow_add]
   refine Nat.mul_le_mul ih ?_
   rw [zAp node0 hi'] at hp
   simpa using hp
/-- ReplyEnds. -/
theorem zOA {t : zT} (h : Valid t) {o : zw} {d : Nat} (ho : OddsAll t o d) (hn : t.length ≤ 40) {j : Nat} (hj : j < t.length) : Dv (Bd o t.length) ((zY t o).getD j 0) ∧ Bd o t.length < 10 ^ (d * 40 + 1) := by
 obtain ⟨g1, g2⟩ := zG5 h ho j hj
 have h6 := zGu o (i := j) (t.length - j)
 rw [show j + (t.length - j) = t.length by omega] at h6
 refine ⟨g1.mono h6, ?_⟩
 have h7 := Bd_le h ho t.length (Nat.le_refl _)
 rw [List.take_length] at h7
 have h8 := zI0 h
 have h9 : d * (t.flatMap TNode.next).length ≤ d * 40 := Nat.mul_le_mul_left _ (by omega)
 have h10 : 10 ^ (d * (t.flatMap TNode.next).length) ≤ 10 ^ (d * 40) := Nat.pow_le_pow_right (by decide) h9
 have : 0 < 10 ^ (d * 40) := Nat.pow_pos (by decide)
 rw [Nat.pow_succ]
 omega
end Go.Ax.Rt
namespace Go.Ax.Rt
open Go.Ax.Bg
def zAk {α : Type} (v : Nat → α) : List Int → Nat → List α → List α
 | [], _, a => a
 | c :: r, k, a => zAk v r (k + 1) (a.set c.toNat (v k))
theorem zC0 {α : Type} (v : Nat → α) : ∀ (l : List Int) (k : Nat) (a : List α), (zAk v l k a).length = a.length
 | [], _, a => rfl
 | c :: r, k, a => by rw [zAk, zC0 v r]; simp
theorem zDO {α : Type} (v : Nat → α) (x : Int) : ∀ (l : List Int) (k : Nat) (a : List α), zAk v (l ++ [x]) k a = (zAk v l k a).set x.toNat (v (k + l.length))
 | [], k, a => rfl
 | c :: r, k, a => by
   rw [List.cons_append, zAk, zAk, zDO v x r (k + 1)]
   congr 2
   rw [List.length_cons]; omega
theorem zBX {α : Type} (v : Nat → α) (d : α) {j : Nat} : ∀ (l : List Int) (k : Nat) (a : List α), (∀ c ∈ l, c.toNat ≠ j) → (zAk v l k a).getD j d = a.getD j d
 | [], _, a, _ => rfl
 | c :: r, k, a, h => by
   rw [zAk, zBX v d r (k + 1) _ (fun c hc => h c (by simp [hc])), Go.Ax.Dt.getD_set, if_neg]
   exact fun q => h c (by simp) q.1.symm
theorem zLI {α : Type} (v : Nat → α) (d : α) : ∀ (l : List Int) (k : Nat) (a : List α) (m : Nat), m < l.length → (l.map Int.toNat).Nodup → (∀ c ∈ l, c.toNat < a.length) → (zAk v l k a).getD (l.getD m 0).toNat d = v (k + m)
 | [], _, a, m, h, _, _ => absurd h (Nat.not_lt_zero _)
 | c :: r, k, a, m, h, hn, hl => by
   rw [List.map_cons, List.nodup_cons] at hn
   rw [zAk]
   cases m with
   | zero =>
     have : (c :: r).getD 0 0 = c := rfl
     rw [this, zBX, Go.Ax.Dt.getD_set, if_pos ⟨rfl, hl c (by simp)⟩, Nat.add_zero]
     intro x hx e
     exact hn.1 (List.mem_map.2 ⟨x, hx, e⟩)
   | succ m =>
     have : (c :: r).getD (m + 1) 0 = r.getD m 0 := rfl
     rw [this, zLI v d r (k + 1) _ m (by simpa using h) hn.2 (fun x hx => by rw [List.length_set]; exact hl x (by simp [hx]))]
     congr 1; omega
theorem zHm (v : Nat → Int) : ∀ (l : List Int) (k : Nat) (a : List Int), zDR v l k a = zAk v l k a
 | [], _, a => rfl
 | c :: r, k, a => by rw [zDR, zAk, zHm v r]
theorem zFM (v : Nat → Way) : ∀ (l : List Int) (k : Nat) (a : List Way), zGY v l k a = zAk v l k a
 | [], _, a => rfl
 | c :: r, k, a => by rw [zGY, zAk, zFM v r]
/-- A table over the nodes, made from parents to children. -/
theorem zMk {α : Type} {t : zT} (h : Valid t) (d : α) (T : Nat → List α) (v : Nat → Nat → α) (hT : ∀ i, i < t.length → T (i + 1) = zAk (v i) (t.getD i node0).next 0 (T i)) {j : Nat} (hj : j < t.length) : ∀ e i, j ≤ i → i + e ≤ t.length → (T (i + e)).getD j d = (T i).getD j d
 | 0, i, _, _ => rfl
 | e + 1, i, h1, h2 => by
   rw [← Nat.add_assoc, hT _ (by omega), zBX, zMk h d T v hT hj e i h1 (by omega)]
   intro c hc e'
   have := h.behind (show i + e < t.length by omega) c hc
   omega
theorem zOf {α : Type} {t : zT} (h : Valid t) (d : α) (T : Nat → List α) (v : Nat → Nat → α) (hl : ∀ i, (T i).length = t.length) (hT : ∀ i, i < t.length → T (i + 1) = zAk (v i) (t.getD i node0).next 0 (T i)) {i m : Nat} (hi : i < t.length) (hm : m < (t.getD i node0).next.length) :
   (T t.length).getD ((t.getD i node0).next.getD m 0).toNat d = v i m := by
 have hb := h.behind hi _ (zAl 0 hm)
 have hc : ((t.getD i node0).next.getD m 0).toNat < t.length := by omega
 have h1 : (T (i + 1)).getD ((t.getD i node0).next.getD m 0).toNat d = v i m := by
   rw [hT i hi, zLI _ d _ _ _ m hm (h.kids_nodup hi) (fun c hc => by rw [hl]; have := h.behind hi c hc; omega), Nat.zero_add]
 have key : ∀ e, i + 1 + e ≤ t.length → (T (i + 1 + e)).getD ((t.getD i node0).next.getD m 0).toNat d = (T (i + 1)).getD ((t.getD i node0).next.getD m 0).toNat d := by
   intro e
   induction e with
   | zero => intro _; rfl
   | succ e ih =>
     intro hd
     rw [← Nat.add_assoc, hT _ (by omega), zBX, ih (by omega)]
     intro c hc2 e'
     have hc3 := h.behind (show i + 1 + e < t.length by omega) c hc2
     have k1 : kid t i ((t.getD i node0).next.getD m 0).toNat := by
       unfold kid
       rw [show ((((t.getD i node0).next.getD m 0).toNat : Nat) : Int) = (t.getD i node0).next.getD m 0 by omega]
       exact zAl 0 hm
     have k2 : kid t (i + 1 + e) ((t.getD i node0).next.getD m 0).toNat := by
       unfold kid
       rw [← e', show ((c.toNat : Nat) : Int) = c by omega]
       exact hc2
     have := h.parent hc (by omega) hi (by omega) k1 k2
     omega
 have h3 := key (t.length - (i + 1)) (by omega)
 rw [show i + 1 + (t.length - (i + 1)) = t.length by omega] at h3
 rw [h3, h1]
theorem zGK {α : Type} {t : zT} (h : Valid t) (d : α) (T : Nat → List α) (v : Nat → Nat → α) (hT : ∀ i, i < t.length → T (i + 1) = zAk (v i) (t.getD i node0).next 0 (T i)) {i : Nat} (hi : i < t.length) : (T i).getD i d = (T t.length).getD i d := by
 have := zMk h d T v hT hi (t.length - i) i (Nat.le_refl _) (by omega)
 rw [show i + (t.length - i) = t.length by omega] at this
 exact this.symm
/-- the sequence of each node -/
def zBp (t : zT) (p : Int) : List Int := (zAE t p t.length).pos
def zDe (t : zT) (p : Int) : List Way := zBG t p t.length
abbrev zHs (t : zT) (p : Int) : List (Int × Nat) := (zAE t p t.length).first
theorem zFt (p : Int) (n : TNode) (i : Nat) (f : RForm) : (zAI p n i f).pos = f.pos := by
 unfold zAI; split <;> rfl
theorem zGA (t : zT) (p : Int) (i : Nat) : (zAE t p (i + 1)).pos = zAk (zGm p (t.getD i node0) i (zAI p (t.getD i node0) i (zAE t p i))) (t.getD i node0).next 0 (zAE t p i).pos := by
 rw [zAE, zIZ]
 show zDR _ _ _ (zAI _ _ _ _).pos = _
 rw [zHm, zFt]
theorem zEJ (t : zT) (p : Int) : ∀ i, (zAE t p i).pos.length = t.length
 | 0 => List.length_replicate
 | i + 1 => by rw [zGA, zC0, zEJ t p i]
theorem zPy {m m' : List (Int × Nat)} {k : Int} {s : Nat} (h : zBM m k = some s) : zBM (m ++ m') k = some s := by
 unfold zBM at h ⊢
 obtain ⟨x, hx, rfl⟩ := Option.map_eq_some_iff.1 h
 rw [List.find?_append, hx]; rfl
theorem zJe {t : zT} {p : Int} {k : Int} {s : Nat} {i : Nat} : ∀ e, zBM (zAE t p i).first k = some s → zBM (zAE t p (i + e)).first k = some s
 | 0, h => h
 | e + 1, h => by
   rw [← Nat.add_assoc, zAE, zIZ]
   show zBM (zAI _ _ _ _).first k = some s
   have := zJe e h
   unfold zAI
   split
   · exact zPy this
   · exact this
theorem zLs {t : zT} {p : Int} (hv : Valid t) {i : Nat} (hi : i < t.length) (ho : own p (t.getD i node0) = true) : ∃ s, zBM (zAI p (t.getD i node0) i (zAE t p i)).first (t.getD i node0).info = some s ∧ zBM (zHs t p) (t.getD i node0).info = some s := by
 have h := RI.all_n hv p i (by omega)
 obtain ⟨s, hs⟩ := (RI.add hv h hi h h.s0.1).2.2.2.2.2.2.2.2.2 ho
 refine ⟨s, hs, ?_⟩
 have h2 : zBM (zAE t p (i + 1)).first (t.getD i node0).info = some s := hs
 have := zJe (t.length - (i + 1)) h2
 rwa [show i + 1 + (t.length - (i + 1)) = t.length by omega] at this
abbrev zGa (t : zT) (p x : Int) : Nat := (zBM (zHs t p) x).getD 0
theorem zN7 {t : zT} (hv : Valid t) (p : Int) {i m : Nat} (hi : i < t.length) (hm : m < (t.getD i node0).next.length) :
   (zBp t p).getD ((t.getD i node0).next.getD m 0).toNat 0 = if own p (t.getD i node0) = true then ((zGa t p (t.getD i node0).info : Nat) : Int) + (m : Int) else (zBp t p).getD i 0 := by
 have hk := zOf hv (0 : Int) (fun i => (zAE t p i).pos) (fun i => zGm p (t.getD i node0) i (zAI p (t.getD i node0) i (zAE t p i))) (zEJ t p) (fun i _ => zGA t p i) hi hm
 have hp := zGK hv (0 : Int) (fun i => (zAE t p i).pos) _ (fun i _ => zGA t p i) hi
 refine hk.trans ?_
 unfold zGm
 split
 · rename_i ho
   obtain ⟨s, h1, h2⟩ := zLs hv hi ho
   rw [h1]
   unfold zGa
   rw [h2]
 · rw [zFt]; exact hp
theorem zLg {t : zT} (hv : Valid t) (p : Int) : (zBp t p).getD 0 0 = 0 := by
 have hn := hv.ne
 have := zGK hv (0 : Int) (fun i => (zAE t p i).pos) _ (fun i _ => zGA t p i) (i := 0) (by omega)
 refine this.symm.trans ?_
 show (List.replicate t.length (0 : Int)).getD 0 0 = 0
 simp only [List.getD, List.getElem?_replicate]
 split <;> rfl
theorem way_kid {t : zT} (hv : Valid t) (p : Int) {i m : Nat} (hi : i < t.length) (hm : m < (t.getD i node0).next.length) :
   (zDe t p).getD ((t.getD i node0).next.getD m 0).toNat [] = zH5 p (t.getD i node0) ((zDe t p).getD i []) m := by
 have hT : ∀ i, i < t.length → zBG t p (i + 1) = zAk (zH5 p (t.getD i node0) ((zBG t p i).getD i [])) (t.getD i node0).next 0 (zBG t p i) := fun i _ => by rw [zBG, zFM]
 have hk := zOf hv ([] : Way) (fun i => zBG t p i) (fun i => zH5 p (t.getD i node0) ((zBG t p i).getD i [])) (zFA t p) hT hi hm
 have hp := zGK hv ([] : Way) (fun i => zBG t p i) _ hT hi
 refine hk.trans ?_
 show zH5 p _ ((zBG t p i).getD i []) m = _
 rw [show (zBG t p i).getD i [] = (zDe t p).getD i [] from hp]
theorem way_root {t : zT} (hv : Valid t) (p : Int) : (zDe t p).getD 0 [] = [] := by
 have hn := hv.ne
 have hT : ∀ i, i < t.length → zBG t p (i + 1) = zAk (zH5 p (t.getD i node0) ((zBG t p i).getD i [])) (t.getD i node0).next 0 (zBG t p i) := fun i _ => by rw [zBG, zFM]
 have := zGK hv ([] : Way) (fun i => zBG t p i) _ hT (i := 0) (by omega)
 refine this.symm.trans ?_
 show (List.replicate t.length ([] : Way)).getD 0 [] = []
 simp only [List.getD, List.getElem?_replicate]
 split <;> rfl
def posW (F : Int → Nat) (w : Way) : Int := match w.getLast? with
 | none => 0
 | some x => ((F x.1 : Nat) : Int) + x.2
theorem zOR {t : zT} (hv : Valid t) (p : Int) : ∀ j, j < t.length → (zBp t p).getD j 0 = posW (zGa t p) ((zDe t p).getD j []) := by
 intro j
 induction j using Nat.strongRecOn with
 | ind j ih =>
   intro hj
   by_cases h0 : j = 0
   · subst h0
     rw [zLg hv, way_root hv]; rfl
   · obtain ⟨i, hi, hk⟩ := hv.has hj h0
     have hlt := hv.kid_lt hi hk
     obtain ⟨m, hm, he⟩ := zJU hv hi hk
     have h1 := zN7 hv p hi hm
     have h2 := way_kid hv p hi hm
     rw [he] at h1 h2
     rw [h1, h2]
     unfold zH5
     split
     · unfold posW
       rw [List.getLast?_append]
       rfl
     · exact ih i (by omega) hi
theorem zEj {t : zT} {p : Int} {x : Int × Nat} {i : Nat} : ∀ e, x ∈ zAv t p i → x ∈ zAv t p (i + e)
 | 0, h => h
 | e + 1, h => by
   rw [← Nat.add_assoc, zAv]
   split
   · exact List.mem_append_left _ (zEj e h)
   · exact zEj e h
theorem zFU (t : zT) (p : Int) : ∀ i, ((zAv t p i).map Prod.fst).Nodup
 | 0 => List.nodup_nil
 | i + 1 => by
   rw [zAv]
   split
   · rename_i hc
     rw [List.map_append, List.nodup_append]
     refine ⟨zFU t p i, by simp, fun a ha b hb e => ?_⟩
     have : b = (t.getD i node0).info := by simpa using hb
     have hno := zG1 hc.2
     rw [← this, ← e] at hno
     exact hno ha
   · exact zFU t p i
theorem zJF {t : zT} {p : Int} {W : List Way} : ∀ {n i : Nat}, zEZ t p W n = true → i < n → own p (t.getD i node0) = true → ∃ k, ((t.getD i node0).info, k) ∈ zAv t p n ∧ W.getD i [] = W.getD k []
 | 0, i, _, h, _ => absurd h (Nat.not_lt_zero _)
 | n + 1, i, hp, hi, ho => by
   rw [zEZ, Bool.and_eq_true] at hp
   by_cases e : i = n
   · subst e
     have h2 := hp.2
     rw [if_pos ho] at h2
     cases hl : zBM (zAv t p i) (t.getD i node0).info with
     | none =>
       refine ⟨i, ?_, rfl⟩
       rw [zAv, if_pos ⟨ho, hl⟩]
       simp
     | some k =>
       rw [hl] at h2
       exact ⟨k, zEj 1 (zCI hl), by simpa using h2⟩
   · obtain ⟨k, k1, k2⟩ := zJF hp.1 (by omega) ho
     exact ⟨k, zEj 1 k1, k2⟩
/-- With perfect recall, the nodes of a set have the same sequence. -/
theorem perf_pos {t : zT} (hv : Valid t) {p : Int} (hp : zBh t p = true) {i j : Nat} (hi : i < t.length) (hj : j < t.length) (oi : own p (t.getD i node0) = true) (oj : own p (t.getD j node0) = true) (he : (t.getD i node0).info = (t.getD j node0).info) : (zBp t p).getD i 0 = (zBp t p).getD j 0 := by
 obtain ⟨a, a1, a2⟩ := zJF hp hi oi
 obtain ⟨b, b1, b2⟩ := zJF hp hj oj
 have := zOL (zFU t p t.length) a1 b1 he
 have hab : a = b := congrArg Prod.snd this
 rw [zOR hv p i hi, zOR hv p j hj]
 show posW _ ((zBG t p t.length).getD i []) = posW _ ((zBG t p t.length).getD j [])
 rw [a2, b2, hab]
/-- The blocks of sequences: what stands there, and where it comes from. -/
theorem zMm {t : zT} (hv : Valid t) (p : Int) : ∀ i, i ≤ t.length → ∀ x ∈ (zAE t p i).first, ∃ j, j < i ∧ zAx p x.1 (t.getD j node0) = true ∧ x.2 + (t.getD j node0).next.length ≤ (zAE t p i).seqs.length ∧
   ∀ c, c < (t.getD j node0).next.length → (zAE t p i).seqs.getD (x.2 + c) zBa = ⟨x.1, (c : Int), (zBp t p).getD j 0⟩
 | 0, _, x, hx => by simp [zAE] at hx
 | i + 1, hi, x, hx => by
   have ih := zMm hv p i (by omega)
   have hp := zGK hv (0 : Int) (fun i => (zAE t p i).pos) _ (fun i _ => zGA t p i) (i := i) (by omega)
   have hx : x ∈ (zAI p (t.getD i node0) i (zAE t p i)).first := hx
   show ∃ j, j < i + 1 ∧ _ ∧ _ ≤ (zAI p (t.getD i node0) i (zAE t p i)).seqs.length ∧ ∀ c, _ → (zAI p (t.getD i node0) i (zAE t p i)).seqs.getD (x.2 + c) zBa = _
   generalize hn : t.getD i node0 = n at *
   unfold zAI at hx ⊢
   split at hx
   · rename_i hc
     rw [if_pos hc]
     rcases List.mem_append.1 hx with q | q
     · obtain ⟨j, j1, j2, j3, j4⟩ := ih x q
       refine ⟨j, by omega, j2, by show _ ≤ (_ ++ _ : List RSeq).length; rw [List.length_append]; omega, fun c hc2 => ?_⟩
       show ((zAE t p i).seqs ++ _).getD (x.2 + c) zBa = _
       rw [zHD _ (by omega)]
       exact j4 c hc2
     · have hx' : x = (n.info, (zAE t p i).seqs.length) := by simpa using q
       subst hx'
       refine ⟨i, Nat.lt_succ_self _, ?_, ?_, fun c hc2 => ?_⟩
       · rw [hn]; unfold zAx; rw [hc.1]; simp
       · rw [hn]
         show (zAE t p i).seqs.length + n.next.length ≤ ((zAE t p i).seqs ++ zBk n _).length
         rw [List.length_append]; simp [zBk]
       · rw [hn] at hc2
         show ((zAE t p i).seqs ++ zBk n ((zAE t p i).pos.getD i 0)).getD ((zAE t p i).seqs.length + c) zBa = _
         have e : ((zAE t p i).seqs ++ zBk n ((zAE t p i).pos.getD i 0)).getD ((zAE t p i).seqs.length + c) zBa = (zBk n ((zAE t p i).pos.getD i 0)).getD c zBa := by
           simp only [List.getD]
           rw [List.getElem?_append_right (by omega), Nat.add_sub_cancel_left]
         rw [e]
         unfold zBk
         rw [zDb _ _ 0 _ _ (by simpa using hc2)]
         have hp : (zAE t p i).pos.getD i 0 = (zBp t p).getD i 0 := hp
         rw [hp]
         simp [List.getD, hc2]
   · rename_i hc
     rw [if_neg hc]
     obtain ⟨j, j1, j2, j3, j4⟩ := ih x hx
     exact ⟨j, by omega, j2, j3, j4⟩
/-- The plan at a choice. -/
theorem plan_kid {t : zT} (hv : Valid t) {p : Int} (hp : zBh t p = true) (u : Int → List Rat) {i m : Nat} (hi : i < t.length) (ho : own p (t.getD i node0) = true) (hm : m < (t.getD i node0).next.length) :
   (zCL t p u).getD (((zGa t p (t.getD i node0).info : Nat) : Int) + (m : Int)).toNat 0 = (zCL t p u).getD ((zBp t p).getD i 0).toNat 0 * (u (t.getD i node0).info).getD m 0 := by
 obtain ⟨s, _, h2⟩ := zLs hv hi ho
 have hx := zCI h2
 have h := RI.all_n hv p t.length (Nat.le_refl _)
 obtain ⟨j, j1, j2, j3, j4⟩ := zMm hv p t.length (Nat.le_refl _) _ hx
 have hj2 := j2
 unfold zAx at hj2
 rw [Bool.and_eq_true, decide_eq_true_eq] at hj2
 have hw := hv.width hi j1 ho hj2.1 hj2.2.symm
 have hpos := perf_pos hv hp hi j1 ho hj2.1 hj2.2.symm
 have hst : zGa t p (t.getD i node0).info = s := by unfold zGa; rw [h2]; rfl
 rw [hst]
 obtain ⟨b1, b2⟩ := h.pb ((zBp t p).getD j 0) (zAl 0 (by show j < (zAE t p t.length).pos.length; rw [zEJ]; exact j1))
 have hs := j4 m (by omega)
 obtain ⟨q1, q2, b, q3, q4, q5⟩ := h.fst _ hx
 have hww := zCf hv j1 j2
 have hs' := q5 m (by have hww : ze t p (t.getD i node0).info = _ := hww; show m < ze t p (t.getD i node0).info; omega)
 rw [hs] at hs'
 have hb : (zBp t p).getD j 0 = b := congrArg RSeq.before hs'
 have q4 : b < (s : Int) := q4
 have j3 : s + (t.getD j node0).next.length ≤ (zAE t p t.length).seqs.length := j3
 have hs : (zf t p).getD (s + m) zBa = ⟨(t.getD i node0).info, (m : Int), (zBp t p).getD j 0⟩ := hs
 have hlen : s + m < (zf t p).length := by show s + m < (zAE t p t.length).seqs.length; omega
 rw [show (((s : Nat) : Int) + (m : Int)).toNat = s + m by omega]
 unfold zCL
 rw [zD0 _ _ hlen, hs]
 unfold zEH
 simp only
 rw [if_neg (by omega), Int.toNat_natCast, hpos, zJn _ _ (show ((zBp t p).getD j 0).toNat < s + m by omega) (show ((zBp t p).getD j 0).toNat < (zf t p).length by omega)]
/-- the probabilities of both players, and chance -/
def zDi (t : zT) (p : Int) (u : Int → List Rat) (o : zw) : zw := fun i => if own p (t.getD i node0) = true then some (u (t.getD i node0).info) else o i
theorem zKH {t : zT} (hv : Valid t) (p : Int) (u : Int → List Rat) : (zCL t p u).getD 0 0 = 1 := by
 obtain ⟨_, h1, h2, _⟩ := zAh hv p
 unfold zCL
 rw [zD0 _ _ h2, h1]
 rfl
theorem zMS {t : zT} (hv : Valid t) {p : Int} (hp : zBh t p = true) (u : Int → List Rat) {o : zw} (ho : ∀ i, i < t.length → own p (t.getD i node0) = true → o i = none) : ∀ j, j < t.length → (zY t (zDi t p u o)).getD j 0 = (zY t o).getD j 0 * (zCL t p u).getD ((zBp t p).getD j 0).toNat 0 := by
 intro j
 induction j using Nat.strongRecOn with
 | ind j ih =>
   intro hj
   by_cases h0 : j = 0
   · subst h0
     rw [zDG hv, zDG hv, zLg hv, Rat.one_mul]
     exact (zKH hv p u).symm
   · obtain ⟨i, hi, hk⟩ := hv.has hj h0
     have hlt := hv.kid_lt hi hk
     obtain ⟨m, hm, he⟩ := zJU hv hi hk
     have h1 := zDx hv (zDi t p u o) hi hm
     have h2 := zDx hv o hi hm
     have h3 := zN7 hv p hi hm
     have h4 := ih i (by omega) hi
     rw [he] at h1 h2 h3
     rw [h1, h2, h3, h4]
     by_cases how : own p (t.getD i node0) = true
     · have e : zDi t p u o i = some (u (t.getD i node0).info) := by unfold zDi; rw [if_pos how]
       rw [e, if_pos how, ho i hi how, plan_kid hv hp u hi how hm]
       show _ * _ * _ = (zY t o).getD i 0 * (_ * _)
       rw [Rat.mul_assoc]
     · have e : zDi t p u o i = o i := by unfold zDi; rw [if_neg how]
       rw [e, if_neg how]
       cases o i with
       | none => rfl
       | some l =>
         show _ * _ * _ = _ * _ * _
         rw [Rat.mul_assoc, Rat.mul_assoc, Rat.mul_comm (l.getD m 0)]
end Go.Ax.Rt
namespace Go.Ax.Rt
open Go.Ax.Bg
def zEn (t : zT) (r : List Rat) (i : Nat) : Rat := r.getD i 0 * zAQ (t.getD i node0).pay
/-- what the first player receives on average -/
def zA0 (t : zT) (o : zw) : Rat := zAu 0 ((zx t).map (zEn t (zY t o)))
def endG (t : zT) (p : Int) (r : List Rat) (i : Nat) : Rat := if p = 1 then -(zEn t r i) else zEn t r i
def zFB (g : Nat → Rat) (pos : List Int) : List Nat → List Rat → List Rat
 | [], S => S
 | i :: r, S => zFB g pos r (S.set (pos.getD i 0).toNat (S.getD (pos.getD i 0).toNat 0 + g i))
theorem zJq (g : Nat → Rat) (pos : List Int) (x : Nat) : ∀ (ks : List Nat) (S : List Rat), zFB g pos (ks ++ [x]) S = (zFB g pos ks S).set (pos.getD x 0).toNat ((zFB g pos ks S).getD (pos.getD x 0).toNat 0 + g x)
 | [], S => rfl
 | i :: r, S => by rw [List.cons_append, zFB, zFB, zJq g pos x r]
theorem zH7 (g : Nat → Rat) (pos : List Int) : ∀ (ks : List Nat) (S : List Rat), (zFB g pos ks S).length = S.length
 | [], S => rfl
 | i :: r, S => by rw [zFB, zH7 g pos r, List.length_set]
def zGk (P S : List Rat) (n : Nat) : Rat := zBf (fun k => P.getD k 0 * S.getD k 0) n
theorem zOS {P S : List Rat} {n k : Nat} (y : Rat) (hk : k < n) (hS : k < S.length) : zGk P (S.set k (S.getD k 0 + y)) n = zGk P S n + P.getD k 0 * y := by
 unfold zGk
 rw [← zD1 (f := fun _ => P.getD k 0 * y) hk, ← zGE]
 refine zBQ (fun j hj => ?_)
 rw [Go.Ax.Dt.getD_set]
 by_cases h : j = k
 · subst h
   rw [if_pos ⟨rfl, hS⟩, if_pos rfl, Rat.mul_add]
 · rw [if_neg (fun q => h q.1), if_neg h, Rat.add_zero]
theorem zMf (P : List Rat) (g : Nat → Rat) (pos : List Int) {n : Nat} : ∀ (ks : List Nat) (S : List Rat), (∀ i ∈ ks, (pos.getD i 0).toNat < n) → n ≤ S.length → zGk P (zFB g pos ks S) n = zGk P S n + zAu 0 (ks.map (fun i => P.getD (pos.getD i 0).toNat 0 * g i))
 | [], S, _, _ => by rw [zFB, List.map_nil, zAu, Rat.add_zero]
 | i :: r, S, h, hS => by
   have hi := h i (by simp)
   rw [zFB, zMf P g pos r _ (fun j hj => h j (by simp [hj])) (by rw [List.length_set]; exact hS), zOS _ hi (by omega), List.map_cons, zAu, Rat.zero_add, zCQ _ (P.getD (pos.getD i 0).toNat 0 * g i), Rat.add_assoc]
theorem dot_zero (P : List Rat) (n m : Nat) : zGk P (List.replicate m 0) n = 0 := by
 unfold zGk
 rw [zBQ (g := fun _ => 0) (fun j hj => ?_), zGc]
 have : (List.replicate m (0 : Rat)).getD j 0 = 0 := by
   simp only [List.getD, List.getElem?_replicate]
   split <;> rfl
 rw [this, Rat.mul_zero]
theorem zJM (f : Nat → Rat) : ∀ ks : List Nat, zAu 0 (ks.map (fun i => -(f i))) = -(zAu 0 (ks.map f))
 | [] => by rw [List.map_nil, List.map_nil, zAu]; rfl
 | a :: r => by
   rw [List.map_cons, List.map_cons, zAu, zAu, zCQ, zCQ (r.map f), zJM f r, Rat.zero_add, Rat.zero_add, Rat.neg_add]
theorem pos_lt {t : zT} (hv : Valid t) (p : Int) {j : Nat} (hj : j < t.length) : 0 ≤ (zBp t p).getD j 0 ∧ ((zBp t p).getD j 0).toNat < (zf t p).length := by
 have h := RI.all_n hv p t.length (Nat.le_refl _)
 have := h.pb ((zBp t p).getD j 0) (zAl 0 (by show j < (zAE t p t.length).pos.length; rw [zEJ]; exact hj))
 have e : (zf t p).length = (zAE t p t.length).seqs.length := rfl
 omega
theorem zCv {t : zT} {i : Nat} (h : i ∈ zx t) : i < t.length ∧ (t.getD i node0).kind = 0 := by
 have := List.mem_filter.1 h
 exact ⟨by simpa using this.1, by simpa using this.2⟩
/-- what the sequences are worth, before the choices are made -/
def zF3 (t : zT) (p : Int) (o : zw) : List Rat := zFB (endG t p (zY t o)) (zBp t p) (zx t) (List.replicate (zf t p).length 0)
/-- The value, told by sequences. -/
theorem zLf {t : zT} (hv : Valid t) {p : Int} (hp : zBh t p = true) (u : Int → List Rat) {o : zw} (ho : ∀ i, i < t.length → own p (t.getD i node0) = true → o i = none) :
   zGk (zCL t p u) (zF3 t p o) (zf t p).length = if p = 1 then -(zA0 t (zDi t p u o)) else zA0 t (zDi t p u o) := by
 unfold zF3
 rw [zMf _ _ _ _ _ (fun i hi => (pos_lt hv p (zCv hi).1).2) (by rw [List.length_replicate]; exact Nat.le_refl _), dot_zero, Rat.zero_add]
 have e : (zx t).map (fun i => (zCL t p u).getD ((zBp t p).getD i 0).toNat 0 * endG t p (zY t o) i) = (zx t).map (fun i => if p = 1 then -(zEn t (zY t (zDi t p u o)) i) else zEn t (zY t (zDi t p u o)) i) := by
   refine List.map_congr_left (fun i hi => ?_)
   have hs := zMS hv hp u ho i (zCv hi).1
   unfold endG zEn
   rw [hs]
   have key : ∀ a b c : Rat, a * (b * c) = b * a * c := fun a b c => by rw [← Rat.mul_assoc, Rat.mul_comm a b]
   split
   · rw [← key, Rat.mul_neg]
   · rw [key]
 rw [e]
 unfold zA0
 split
 · exact zJM _ _
 · rfl
def zAf (S : List Rat) (s : Nat) : Nat → Nat
 | 0 => s
 | m + 1 => if S.getD (zAf S s m) 0 < S.getD (s + m) 0 then s + m else zAf S s m
theorem zD2 (S : List Rat) (s : Nat) : ∀ m, s ≤ zAf S s m ∧ zAf S s m < s + m + 1 ∧ (1 ≤ m → zAf S s m < s + m)
 | 0 => ⟨Nat.le_refl _, Nat.lt_succ_self _, fun h => absurd h (by decide)⟩
 | m + 1 => by
   obtain ⟨h1, h2, h3⟩ := zD2 S s m
   rw [zAf]
   split
   · exact ⟨by omega, by omega, fun _ => by omega⟩
   · exact ⟨h1, by omega, fun _ => by omega⟩
abbrev BSt := Nat × List Rat × List (Int × Int)
def zJJ (l : List RSeq) (st : BSt) : BSt :=
 let s := st.1 - 1 - (l.getD (st.1 - 1) zBa).choice.toNat
 let b := zAf st.2.1 s (st.1 - s)
 let q := l.getD b zBa
 (s, st.2.1.set q.before.toNat (st.2.1.getD q.before.toNat 0 + st.2.1.getD b 0), st.2.2 ++ [(q.info, q.choice)])
def zFj (l : List RSeq) : Nat → BSt → BSt
 | 0, st => st
 | f + 1, st => if 1 < st.1 then zFj l f (zJJ l st) else st
theorem zMi (f : Nat → Rat) (a : Nat) : ∀ w, zBf f (a + w) = zBf f a + zBf (fun c => f (a + c)) w
 | 0 => by rw [Nat.add_zero, zBf, Rat.add_zero]
 | w + 1 => by rw [← Nat.add_assoc, zBf, zMi f a w, zBf, Rat.add_assoc]
/-- The choices from e on belong to whole sets. -/
structure Bnd (t : zT) (p : Int) (e : Nat) : Prop where
 one : 1 ≤ e
 le : e ≤ (zf t p).length
 whole : ∀ x ∈ zHs t p, x.2 < e → x.2 + ze t p x.1 ≤ e
theorem Bnd.top {t : zT} (hv : Valid t) (p : Int) : Bnd t p (zf t p).length :=
 ⟨(zAh hv p).2.2.1, Nat.le_refl _, fun x hx _ => ((RI.all_n hv p t.length (Nat.le_refl _)).fst x hx).2.1⟩
structure Blk (t : zT) (p : Int) (e : Nat) (x : Int × Nat) (b : Nat) : Prop where
 mem : x ∈ zHs t p
 info : x.1 ∈ zc t p
 one : 1 ≤ x.2
 w1 : 1 ≤ ze t p x.1
 fin : x.2 + ze t p x.1 = e
 lt : b < x.2
 bnd : Bnd t p x.2
 seqs : ∀ c, c < ze t p x.1 → (zf t p).getD (x.2 + c) zBa = ⟨x.1, (c : Int), (b : Int)⟩
theorem Bnd.blk {t : zT} (hv : Valid t) {p : Int} {e : Nat} (h : Bnd t p e) (he : 1 < e) : ∃ x b, Blk t p e x b := by
 have hl := h.le
 obtain ⟨x, b, x0, x1, x2, x3, x4, x5, x6, x7⟩ := seq_at hv (p := p) (k := e - 1) (by omega) (by omega)
 have hw := h.whole x x0 (by omega)
 refine ⟨x, b, x0, x1, x5, by omega, by omega, x4, ⟨x5, by omega, fun y hy hlt => ?_⟩, x7⟩
 rcases Nat.lt_or_ge x.2 (y.2 + ze t p y.1) with q | q
 · obtain ⟨y1, y2, b', b1, b2, b3⟩ := (RI.all_n hv p t.length (Nat.le_refl _)).fst y hy
   have e1 := b3 (x.2 - y.2) (by omega)
   rw [show y.2 + (x.2 - y.2) = x.2 by omega] at e1
   have e2 := x7 0 (by omega)
   rw [Nat.add_zero] at e2
   have e1 : (zf t p).getD x.2 zBa = ⟨y.1, ((x.2 - y.2 : Nat) : Int), b'⟩ := e1
   rw [e2] at e1
   have := congrArg RSeq.choice e1
   have : ((0 : Nat) : Int) = ((x.2 - y.2 : Nat) : Int) := this
   omega
 · exact q
theorem Blk.step {t : zT} {p : Int} {e : Nat} {x : Int × Nat} {b : Nat} (h : Blk t p e x b) (S : List Rat) (C : List (Int × Int)) :
   zJJ (zf t p) (e, S, C) = (x.2, S.set b (S.getD b 0 + S.getD (zAf S x.2 (ze t p x.1)) 0), C ++ [(x.1, ((zAf S x.2 (ze t p x.1) - x.2 : Nat) : Int))]) := by
 have h1 := h.fin
 have h2 := h.w1
 have hs := h.seqs (ze t p x.1 - 1) (by omega)
 rw [show x.2 + (ze t p x.1 - 1) = e - 1 by omega] at hs
 obtain ⟨q1, _, q3⟩ := zD2 S x.2 (ze t p x.1)
 have q3 := q3 h2
 have hb := h.seqs (zAf S x.2 (ze t p x.1) - x.2) (by omega)
 rw [show x.2 + (zAf S x.2 (ze t p x.1) - x.2) = zAf S x.2 (ze t p x.1) by omega] at hb
 have e1 : e - 1 - ((ze t p x.1 - 1 : Nat) : Int).toNat = x.2 := by omega
 unfold zJJ
 simp only [hs]
 rw [e1, show e - x.2 = ze t p x.1 by omega, hb]
 simp only [Int.toNat_natCast]
theorem Blk.plan {t : zT} {p : Int} {e : Nat} {x : Int × Nat} {b : Nat} (h : Blk t p e x b) (hl : e ≤ (zf t p).length) (u : Int → List Rat) : ∀ c, c < ze t p x.1 → (zCL t p u).getD (x.2 + c) 0 = (zCL t p u).getD b 0 * (u x.1).getD c 0 := by
 intro c hc
 have h1 := h.fin
 have h2 := h.lt
 unfold zCL
 rw [zD0 _ _ (show x.2 + c < (zf t p).length by omega), h.seqs c hc]
 unfold zEH
 simp only
 rw [if_neg (by omega), Int.toNat_natCast, Int.toNat_natCast, zJn _ _ (show b < x.2 + c by omega) (show b < (zf t p).length by omega)]
/-- a strategy that need not have short zAh -/
structure Mix (t : zT) (p : Int) (u : Int → List Rat) : Prop where
 len : ∀ x ∈ zc t p, (u x).length = ze t p x
 sum : ∀ x ∈ zc t p, zAu 0 (u x) = 1
 nn : ∀ x ∈ zc t p, ∀ q ∈ u x, 0 ≤ q
theorem dot_blk {t : zT} {p : Int} {e : Nat} {x : Int × Nat} {b : Nat} (h : Blk t p e x b) (hl : e ≤ (zf t p).length) (u : Int → List Rat) (S : List Rat) :
   zGk (zCL t p u) S e = zGk (zCL t p u) S x.2 + (zCL t p u).getD b 0 * zBf (fun c => (u x.1).getD c 0 * S.getD (x.2 + c) 0) (ze t p x.1) := by
 unfold zGk
 rw [← h.fin, zMi, ← zMa]
 congr 1
 refine zBQ (fun c hc => ?_)
 rw [h.plan hl u c hc, Rat.mul_assoc]
theorem dot_step {t : zT} {p : Int} {e : Nat} {x : Int × Nat} {b : Nat} (h : Blk t p e x b) (P S : List Rat) (y : Rat) (hS : e ≤ S.length) : zGk P (S.set b (S.getD b 0 + y)) x.2 = zGk P S x.2 + P.getD b 0 * y := by
 have h1 := h.fin
 have h2 := h.lt
 exact zOS y h.lt (by omega)
theorem zLz (l : List RSeq) {y : Int × Int} : ∀ (f : Nat) (st : BSt), y ∈ st.2.2 → y ∈ (zFj l f st).2.2
 | 0, st, h => h
 | f + 1, st, h => by
   rw [zFj]
   split
   · exact zLz l f _ (List.mem_append_left _ h)
   · exact h
def zC7 (w c : Nat) : List Rat := (List.replicate w 0).set c 1
theorem zLo {w c : Nat} (hc : c < w) (M : Nat → Rat) : zBf (fun j => (zC7 w c).getD j 0 * M j) w = M c := by
 rw [← zD1 (f := M) hc]
 refine zBQ (fun j hj => ?_)
 unfold zC7
 rw [Go.Ax.Dt.getD_set, List.length_replicate]
 by_cases h : j = c
 · subst h
   rw [if_pos ⟨rfl, hc⟩, if_pos rfl, Rat.one_mul]
 · have : (List.replicate w (0 : Rat)).getD j 0 = 0 := by
     simp only [List.getD, List.getElem?_replicate]
     split <;> rfl
   rw [if_neg (fun q => h q.1), if_neg h, this, Rat.zero_mul]
/-- The strategy of the best choices gets as much. -/
theorem zNm {t : zT} (hv : Valid t) {p : Int} {u : Int → List Rat} : ∀ (f e : Nat) (S : List Rat) (C : List (Int × Int)), Bnd t p e → e ≤ f + 1 → S.length = (zf t p).length →
   (∀ y ∈ (zFj (zf t p) f (e, S, C)).2.2, u y.1 = zC7 (ze t p y.1) y.2.toNat) → zGk (zCL t p u) S e = zGk (zCL t p u) (zFj (zf t p) f (e, S, C)).2.1 1
 | 0, e, S, C, hb, hf, hS, hu => by
   have := hb.one
   obtain rfl : e = 1 := by omega
   rfl
 | f + 1, e, S, C, hb, hf, hS, hu => by
   rw [zFj] at hu ⊢
   split
   · rename_i he
     rw [if_pos he] at hu
     have he : 1 < e := he
     obtain ⟨x, b, hB⟩ := hb.blk hv he
     have hl := hb.le
     have h1 := hB.fin
     have h2 := hB.w1
     have h3 := hB.lt
     rw [hB.step S C] at hu ⊢
     have g3 := zNm hv (u := u) f x.2 (S.set b (S.getD b 0 + S.getD (zAf S x.2 (ze t p x.1)) 0)) (C ++ [(x.1, ((zAf S x.2 (ze t p x.1) - x.2 : Nat) : Int))]) hB.bnd (by omega) (by rw [List.length_set]; exact hS) hu
     rw [← g3, dot_step hB _ _ _ (by omega), dot_blk hB hl]
     have hux := hu _ (zLz _ f _ (List.mem_append_right _ (List.mem_singleton.2 rfl)))
     rw [Int.toNat_natCast] at hux
     obtain ⟨q1, _, q3⟩ := zD2 S x.2 (ze t p x.1)
     have q3 := q3 h2
     have hus := zLo (w := ze t p x.1) (c := zAf S x.2 (ze t p x.1) - x.2) (by omega) (fun c => S.getD (x.2 + c) 0)
     rw [show x.2 + (zAf S x.2 (ze t p x.1) - x.2) = zAf S x.2 (ze t p x.1) by omega] at hus
     have hux : u x.1 = _ := hux
     rw [hux, hus]
   · rename_i he
     have he : ¬ 1 < e := he
     have := hb.one
     obtain rfl : e = 1 := by omega
     rfl
/-- What the found choices are: one for each set. -/
structure Chosen (t : zT) (p : Int) (e : Nat) (C : List (Int × Int)) : Prop where
 nd : (C.map Prod.fst).Nodup
 old : ∀ y ∈ C, ∃ x ∈ zHs t p, x.1 = y.1 ∧ e ≤ x.2
 all : ∀ x ∈ zHs t p, e ≤ x.2 → x.1 ∈ C.map Prod.fst
 rng : ∀ y ∈ C, 0 ≤ y.2 ∧ y.2.toNat < ze t p y.1
theorem Chosen.top {t : zT} (hv : Valid t) (p : Int) : Chosen t p (zf t p).length [] :=
 ⟨List.nodup_nil, fun y hy => by simp at hy, fun x hx h => by
   obtain ⟨h1, h2, _⟩ := (RI.all_n hv p t.length (Nat.le_refl _)).fst x hx
   have hk : x.1 ∈ zc t p := (zBA hv).2 (((RI.all_n hv p t.length (Nat.le_refl _)).keys x.1).1 (List.mem_map.2 ⟨x, hx, rfl⟩))
   obtain ⟨j, hj, hs⟩ := (zBA hv).1 hk
   have hw := zCf hv hj hs
   unfold zAx at hs
   rw [Bool.and_eq_true] at hs
   have := (hv.mine hj hs.1).2.2
   have e : (zf t p).length = (zAE t p t.length).seqs.length := rfl
   omega, fun y hy => by simp at hy⟩
theorem Blk.new {t : zT} (hv : Valid t) {p : Int} {e : Nat} {x : Int × Nat} {b : Nat} (h : Blk t p e x b) {C : List (Int × Int)} (hC : Chosen t p e C) : x.1 ∉ C.map Prod.fst := by
 intro hm
 obtain ⟨y, hy, hyx⟩ := List.mem_map.1 hm
 obtain ⟨z, hz, hzy, hze⟩ := hC.old y hy
 have := zOL (RI.all_n hv p t.length (Nat.le_refl _)).nd hz h.mem (by rw [hzy, hyx])
 subst this
 have := h.fin
 have := h.w1
 omega
theorem Blk.chosen {t : zT} (hv : Valid t) {p : Int} {e : Nat} {x : Int × Nat} {b c : Nat} (h : Blk t p e x b) {C : List (Int × Int)} (hC : Chosen t p e C) (hc : c < ze t p x.1) : Chosen t p x.2 (C ++ [(x.1, (c : Int))]) := by
 have h1 := h.fin
 have h2 := h.w1
 refine ⟨?_, fun y hy => ?_, fun z hz hle => ?_, fun y hy => ?_⟩
 · rw [List.map_append, List.nodup_append]
   refine ⟨hC.nd, by simp, fun a ha b' hb' e' => ?_⟩
   have : b' = x.1 := by simpa using hb'
   rw [e', this] at ha
   exact h.new hv hC ha
 · rcases List.mem_append.1 hy with q | q
   · obtain ⟨z, z1, z2, z3⟩ := hC.old y q
     exact ⟨z, z1, z2, by omega⟩
   · rw [List.mem_singleton.1 q]
     exact ⟨x, h.mem, rfl, Nat.le_refl _⟩
 · rw [List.map_append, List.mem_append]
   by_cases he : e ≤ z.2
   · exact .inl (hC.all z hz he)
   · right
     -- a set that begins in the block of x is x itself
     obtain ⟨z1, z2, b', b1, b2, b3⟩ := (RI.all_n hv p t.length (Nat.le_refl _)).fst z hz
     have hzi : z.1 ∈ zc t p := (zBA hv).2 (((RI.all_n hv p t.length (Nat.le_refl _)).keys z.1).1 (List.mem_map.2 ⟨z, hz, rfl⟩))
     obtain ⟨j, hj, hs⟩ := (zBA hv).1 hzi
     have hw := zCf hv hj hs
     unfold zAx at hs
     rw [Bool.and_eq_true] at hs
     have hw1 := (hv.mine hj hs.1).2.2
     have e1 : (zf t p).getD z.2 zBa = ⟨z.1, ((0 : Nat) : Int), b'⟩ := b3 0 (by omega)
     have e2 := h.seqs (z.2 - x.2) (by omega)
     rw [show x.2 + (z.2 - x.2) = z.2 by omega, e1] at e2
     have := congrArg RSeq.info e2
     have : z.1 = x.1 := this
     simp [this]
 · rcases List.mem_append.1 hy with q | q
   · exact hC.rng y q
   · rw [List.mem_singleton.1 q]
     exact ⟨Int.natCast_nonneg _, by rw [Int.toNat_natCast]; exact hc⟩
theorem zIX {t : zT} (hv : Valid t) {p : Int} : ∀ (f e : Nat) (S : List Rat) (C : List (Int × Int)), Bnd t p e → e ≤ f + 1 → Chosen t p e C → Chosen t p 1 (zFj (zf t p) f (e, S, C)).2.2
 | 0, e, S, C, hb, hf, hC => by
   have := hb.one
   obtain rfl : e = 1 := by omega
   exact hC
 | f + 1, e, S, C, hb, hf, hC => by
   rw [zFj]
   split
   · rename_i he
     have he : 1 < e := he
     obtain ⟨x, b, hB⟩ := hb.blk hv he
     have h1 := hB.fin
     have h2 := hB.w1
     rw [hB.step S C]
     obtain ⟨q1, _, q3⟩ := zD2 S x.2 (ze t p x.1)
     have q3 := q3 h2
     exact zIX hv f x.2 _ _ hB.bnd (by omega) (hB.chosen hv hC (by omega))
   · rename_i he
     have he : ¬ 1 < e := he
     have := hb.one
     obtain rfl : e = 1 := by omega
     exact hC
/-- reply.BestOf -/
def zBF (t : zT) (p : Int) (o : zw) : BSt := zFj (zf t p) (zf t p).length ((zf t p).length, zF3 t p o, [])
def zKT (C : List (Int × Int)) (x : Int) : Option Int := (C.find? (fun y => decide (y.1 = x))).map Prod.snd
theorem zKc {C : List (Int × Int)} (hn : (C.map Prod.fst).Nodup) {y : Int × Int} (hy : y ∈ C) : zKT C y.1 = some y.2 := by
 unfold zKT
 induction C with
 | nil => simp at hy
 | cons a r ih =>
   rw [List.map_cons, List.nodup_cons] at hn
   rw [List.find?_cons]
   rcases List.mem_cons.1 hy with e | q
   · subst e; simp
   · have : ¬ a.1 = y.1 := fun e => hn.1 (List.mem_map.2 ⟨y, q, e.symm⟩)
     rw [decide_eq_false this]
     exact ih hn.2 q
/-- the strategy of the best choices -/
def zFK (t : zT) (p : Int) (o : zw) (x : Int) : List Rat := zC7 (ze t p x) ((zKT (zBF t p o).2.2 x).getD 0).toNat
theorem zIS {t : zT} (hv : Valid t) (p : Int) (o : zw) : Chosen t p 1 (zBF t p o).2.2 :=
 zIX hv _ _ _ _ (Bnd.top hv p) (by omega) (Chosen.top hv p)
theorem zGe {t : zT} (hv : Valid t) {p : Int} (o : zw) {x : Int} (hx : x ∈ zc t p) : ∃ c : Nat, zKT (zBF t p o).2.2 x = some (c : Int) ∧ c < ze t p x ∧ (x, (c : Int)) ∈ (zBF t p o).2.2 := by
 have hC := zIS hv p o
 obtain ⟨j, hj, hs⟩ := (zBA hv).1 hx
 have h := RI.all_n hv p t.length (Nat.le_refl _)
 obtain ⟨z, hz, hzx⟩ := List.mem_map.1 ((h.keys x).2 ⟨j, hj, hs⟩)
 have hm := hC.all z hz (h.fst z hz).1
 obtain ⟨y, hy, hyx⟩ := List.mem_map.1 hm
 have hyx : y.1 = x := by rw [hyx, hzx]
 have hl := zKc hC.nd hy
 obtain ⟨r1, r2⟩ := hC.rng y hy
 obtain ⟨c, hc⟩ := Int.eq_ofNat_of_zero_le r1
 rw [hyx, hc] at hl
 rw [hc, Int.toNat_natCast, hyx] at r2
 refine ⟨c, hl, r2, ?_⟩
 have : y = (x, (c : Int)) := by rw [← hyx, ← hc]
 rwa [← this]
theorem zFo {w c : Nat} (hc : c < w) : (zC7 w c).length = w ∧ zAu 0 (zC7 w c) = 1 ∧ (∀ q ∈ zC7 w c, 0 ≤ q ∧ D 1 q) := by
 have hl : (zC7 w c).length = w := by unfold zC7; rw [List.length_set, List.length_replicate]
 refine ⟨hl, ?_, fun q hq => ?_⟩
 · have h1 := zLo hc (fun _ => 1)
   rw [zBQ (g := fun j => (zC7 w c).getD j 0) (fun j _ => Rat.mul_one _), zKi _ _ (by rw [hl]; exact Nat.le_refl _), List.take_of_length_le (by rw [hl]; exact Nat.le_refl _)] at h1
   exact h1
 · unfold zC7 at hq
   rcases List.mem_or_eq_of_mem_set hq with h | h
   · rw [(List.mem_replicate.1 h).2]
     exact ⟨Rat.le_refl, by decide, by decide⟩
   · rw [h]; exact ⟨by decide +kernel, by decide, by decide⟩
theorem best_mix {t : zT} (hv : Valid t) (p : Int) (o : zw) : Mix t p (zFK t p o) := by
 have key : ∀ x ∈ zc t p, ∃ c, c < ze t p x ∧ zFK t p o x = zC7 (ze t p x) c := fun x hx => by
   obtain ⟨c, h1, h2, _⟩ := zGe hv o hx
   refine ⟨c, h2, ?_⟩
   unfold zFK; rw [h1]; rfl
 refine ⟨fun x hx => ?_, fun x hx => ?_, fun x hx => ?_⟩ <;> obtain ⟨c, c1, c2⟩ := key x hx <;> obtain ⟨f1, f2, f3⟩ := zFo c1 <;> rw [c2]
 · exact f1
 · exact f2
 · exact fun q hq => (f3 q hq).1
theorem dot_one {P S : List Rat} (h : P.getD 0 0 = 1) : zGk P S 1 = S.getD 0 0 := by
 show (0 : Rat) + P.getD 0 0 * S.getD 0 0 = _
 rw [h, Rat.zero_add, Rat.one_mul]
theorem zKb (t : zT) (p : Int) (o : zw) : (zF3 t p o).length = (zf t p).length := by
 unfold zF3; rw [zH7, List.length_replicate]
/-- ReplyGets -/
theorem zJO {t : zT} (hv : Valid t) {p : Int} (hp : zBh t p = true) {o : zw} (ho : ∀ i, i < t.length → own p (t.getD i node0) = true → o i = none) :
   (if p = 1 then -(zA0 t (zDi t p (zFK t p o) o)) else zA0 t (zDi t p (zFK t p o) o)) = (zBF t p o).2.1.getD 0 0 := by
 rw [← zLf hv hp (zFK t p o) ho]
 have hC := zIS hv p o
 have := zNm hv (u := zFK t p o) (zf t p).length (zf t p).length (zF3 t p o) [] (Bnd.top hv p) (by omega) (zKb t p o) (fun y hy => by
   show zC7 _ ((zKT (zBF t p o).2.2 y.1).getD 0).toNat = _
   rw [zKc hC.nd hy]; rfl)
 rwa [dot_one (zKH hv p _)] at this
end Go.Ax.Rt
namespace Go.Proofs.YtnkealfaldjipaaGreatDoor
open Go.Ax Go.Ax.Bg Go.Ax.Rt Go.RowKit Go.Ax.Idx Go.Ax.Cd
attribute [local irreducible] Ax zAM QOp zM zq
set_option maxRecDepth 100000
set_option maxHeartbeats 4000000
def zBY (n : TNode) : List AV := [.int .i64 n.kind, .int .i64 n.player, .int .i64 n.info, .ro (.ints .i64 n.next) 0 n.next.length, .ro (.strs n.odds) 0 n.odds.length, .str n.pay]
abbrev zd (t : zT) : Cells := zCW node0 6 zBY t
structure ShortN (n : TNode) : Prop where
 next : n.next.length ≤ 9223372036854775807
 odds : n.odds.length ≤ 9223372036854775807
 each : ∀ s ∈ n.odds, s.length ≤ 9223372036854775807
 pay : n.pay.length ≤ 9223372036854775807
structure ShortT (t : zT) : Prop where
 len : t.length ≤ 9223372036854775807
 node : ∀ n ∈ t, ShortN n
theorem zPu (t : zT) (i : Nat) (k : Int) (hi : i ≤ 9223372036854775807) (hlen : t.length ≤ 9223372036854775807) : zV Tryz.prog 236 [.int .i64 k, .rp (.box [.int .i64 (i : Nat)]) 0 0, .rp (.box [.ro (zd t) 0 t.length]) 0 0] (.bool (zEE t.length i k)) := by
 refine zM.value0 (zG (P := Tryz.prog) (fn := Tryz.f236) rfl rfl (by kernel_rfl) rfl (fun c hR hfix => ?_)) (fix := fun _ => False) (fun _ h => h) rfl rfl
 repeat (first | refine zB (zH rfl) ?_ | refine zB (zK rfl) ?_ | refine zC ?_ | refine zA ?_ | refine zX ?_ | refine zJ rfl ?_ | refine zB (zIq rfl rfl) ?_ | refine zB (zAe rfl rfl rfl rfl) ?_)
 refine zt rfl rfl (fun h => ?_) (fun h => ?_)
 · refine rn6 ?_
   refine zI hR rfl ?_
   unfold zEE
   rw [decide_eq_true h]; rfl
 · repeat (first | refine zB (zH rfl) ?_ | refine zB (zK rfl) ?_ | refine zC ?_ | refine zA ?_ | refine zAC rfl rfl ?_ | refine zAH ?_ | refine zB (zC9 rfl rfl) ?_ | refine zB (zAd rfl rfl) ?_ | refine zB (zBN rfl rfl rfl) ?_ | refine zB (zAe rfl rfl rfl rfl) ?_)
   refine zI hR rfl ?_
   unfold zEE
   rw [decide_eq_false h, Bool.false_or]; rfl
theorem boxT1 (t : zT) : z6 (.box [.ro (zd t) 0 t.length]) := by
 intro i j _ hj
 obtain rfl : j = 0 := by have hj : j < 1 := hj; omega
 rfl
theorem boxIU (n : Int) : z6 (.box [.int .i64 n]) := by
 intro i j _ hj
 obtain rfl : j = 0 := by have hj : j < 1 := hj; omega
 rfl
theorem refl2 {o1 o2 : AObj} (h1 : z6 o1.c) (h2 : z6 o2.c) : ∀ (h : Nat) (o : AObj), ([some o1, some o2] : zQ)[h]? = some (some o) → z6 o.c := by
 intro h o ho
 match h, ho with
 | 0, ho => cases ho; exact h1
 | 1, ho => cases ho; exact h2
 | _ + 2, ho => simp at ho
theorem zMb (t : zT) (i : Nat) (hi : i < t.length) (hlen : t.length ≤ 9223372036854775807) (hn : (t.getD i node0).next.length ≤ 9223372036854775807) : zV Tryz.prog 214 [.ro (zd t) 0 t.length, .int .i64 (i : Nat)] (.int .i64 (zF0 t.length i (t.getD i node0).next)) := by
 have hc := zKR (t.getD i node0).next 236 [.rp (.box [.int .i64 (i : Nat)]) 0 0, .rp (.box [.ro (zd t) 0 t.length]) 0 0] (zEE t.length i) rfl hn (fun k _ => zPu t i k (by omega) hlen)
 refine zM.value0 (zG (P := Tryz.prog) (fn := Tryz.f214) rfl rfl (by kernel_rfl) rfl (fun c hR hfix => ?_)) (fix := fun _ => False) (fun _ h => h) rfl rfl
 repeat (first | refine zB (zK rfl) ?_ | refine zC ?_ | refine zA ?_ | refine zX ?_ | refine zJ rfl ?_ | refine zB (zCJ rfl rfl rfl rfl) ?_ | refine zB (zS rfl rfl rfl rfl rfl) ?_ | refine zB (zh rfl rfl rfl rfl (by first | (simp only [Nat.zero_add, Int.toNat_natCast, Int.toNat_zero]; exact rfl) | exact rfl) (by omega)) ?_ | refine zB (zA7 rfl rfl rfl rfl rfl rfl) ?_ | refine zEu rfl rfl ?_)
 refine zAb 5 (.ro (.ints .i64 (t.getD i node0).next) 0 (t.getD i node0).next.length) rfl (AEq.of_eq rfl) ?_
 generalize (t.getD i node0).next = l at *
 unfold zF0 at hR
 refine rn4 ?_
 refine zF rfl (fun h1 => ?_) (fun h1 => ?_)
 · rw [if_pos (by omega)] at hR
   refine rn6 ?_
   exact zI hR rfl rfl
 rw [if_neg (by omega)] at hR
 refine rn6 ?_
 refine zF rfl (fun h2 => ?_) (fun h2 => ?_)
 · rw [if_pos (by omega)] at hR
   refine rn6 ?_
   exact zI hR rfl rfl
 rw [if_neg (by omega)] at hR
 repeat (first | refine zB (zH rfl) ?_ | refine zX ?_ | refine zJ rfl ?_ | refine zB (zHK rfl) ?_)
 refine zFu rfl rfl rfl rfl hc (refl2 (o1 := ⟨22, .box [.ro (zd t) 0 t.length]⟩) (o2 := ⟨3, .box [.int .i64 (i : Nat)]⟩) (boxT1 _) (boxIU _)) ⟨trivial, ⟨fun o ho => by simp at ho; subst ho; exact Nat.zero_lt_one, fun o ho => by simp at ho; subst ho; exact Nat.zero_lt_one, trivial⟩, trivial⟩ rfl rfl rfl ?_
 generalize l.any (zEE t.length i) = b at *
 cases b
 · rw [if_neg (by decide)] at hR
   refine rn5 ?_
   exact zI hR rfl rfl
 · rw [if_pos rfl] at hR
   refine rn6 ?_
   exact zI hR rfl rfl
end Go.Proofs.YtnkealfaldjipaaGreatDoor
namespace Go.Proofs.YtnkealfaldjipaaGreatDoor
open Go.Ax Go.Ax.Bg Go.Ax.Rt Go.RowKit Go.Ax.Idx Go.Ax.Cd
attribute [local irreducible] Ax zAM QOp zM zq
set_option maxRecDepth 100000
set_option maxHeartbeats 4000000
theorem node_ok (t : zT) (i : Nat) (hi : i < t.length) (hlen : t.length ≤ 9223372036854775807) (hs : ShortN (t.getD i node0)) : zV Tryz.prog 180 [.ro (zd t) 0 t.length, .int .i64 (i : Nat)] (.int .i64 (zDk t.length i (t.getD i node0))) := by
 have cc := zMb t i hi hlen hs.next
 have cp := zIC (t.getD i node0).pay hs.pay
 have co := zOK (t.getD i node0).odds hs.odds hs.each
 obtain ⟨s1, s2, s3, s4⟩ := hs
 refine zM.value0 (zG (P := Tryz.prog) (fn := Tryz.f180) rfl rfl (by kernel_rfl) rfl (fun c hR hfix => ?_)) (fix := fun _ => False) (fun _ h => h) rfl rfl
 refine rn6 ?_
 refine zL 10 (.agg (zBY (t.getD i node0))) rfl (AEq.of_eq rfl) ?_
 generalize t.getD i node0 = n at *
 obtain ⟨kd, pl, nf, nx, od, py⟩ := n
 simp only at *
 unfold zDk at hR
 refine zR (c' := .box [.int .i64 kd, .int .i64 pl, .int .i64 nf, .ro (.ints .i64 nx) 0 nx.length, .ro (.strs od) 0 od.length, .str py]) rfl rfl rfl rfl rfl Nat.zero_lt_one rfl rfl (fun i' j' hi' hj' => ?_) ?_
 · rw [if_pos (Nat.lt_one_iff.1 hi')]; rfl
 simp only at hR
 refine rn5 ?_
 refine zF rfl (fun h0 => ?_) (fun h0 => ?_)
 · rw [if_pos h0] at hR
   refine rn5 ?_
   refine zt rfl rfl (fun g1 => ?_) (fun g1 => ?_)
   · rw [if_pos (.inl g1)] at hR
     refine rn6 ?_
     exact zI hR rfl rfl
   refine rn5 ?_
   refine zt rfl rfl (fun g2 => ?_) (fun g2 => ?_)
   · rw [if_pos (.inr (.inl g2))] at hR
     refine rn6 ?_
     exact zI hR rfl rfl
   refine rn6 ?_
   refine zt rfl rfl (fun g3 => ?_) (fun g3 => ?_)
   · rw [if_pos (.inr (.inr (.inl (by rintro rfl; simp at g3))))] at hR
     refine rn6 ?_
     exact zI hR rfl rfl
   refine rn6 ?_
   refine zF rfl (fun g4 => ?_) (fun g4 => ?_)
   · rw [if_pos (.inr (.inr (.inr (by rintro rfl; simp at g4))))] at hR
     refine rn6 ?_
     exact zI hR rfl rfl
   rw [if_neg (by
     rintro (q | q | q | q)
     · exact g1 q
     · exact g2 q
     · have := List.length_pos_iff.2 q; omega
     · have := List.length_pos_iff.2 q; omega)] at hR
   refine rn5 ?_
   refine zE rfl rfl rfl cp ?_
   refine rn6 ?_
   exact zI hR rfl rfl
 rw [if_neg h0] at hR
 refine rn4 ?_
 refine zF rfl (fun h1 => ?_) (fun h1 => ?_)
 · rw [if_pos h1] at hR
   refine rn5 ?_
   refine zt rfl rfl (fun g1 => ?_) (fun g1 => ?_)
   · rw [if_pos (.inl g1)] at hR
     refine rn6 ?_
     exact zI hR rfl rfl
   refine rn5 ?_
   refine zt rfl rfl (fun g2 => ?_) (fun g2 => ?_)
   · rw [if_pos (.inr (.inl g2))] at hR
     refine rn6 ?_
     exact zI hR rfl rfl
   repeat (first | refine zC ?_ | refine zA ?_ | refine zAC rfl rfl ?_ | refine zB (zS rfl rfl rfl rfl rfl) ?_ | refine zB (zAd rfl rfl) ?_ | refine zB (zGM rfl rfl) ?_ | refine zB (zO rfl rfl rfl rfl rfl rfl) ?_)
   refine zF rfl (fun g3 => ?_) (fun g3 => ?_)
   · rw [if_pos (.inr (.inr g3))] at hR
     refine rn6 ?_
     exact zI hR rfl rfl
   rw [if_neg (by
     rintro (q | q | q)
     · exact g1 q
     · exact g2 q
     · exact g3 q)] at hR
   refine rn1 ?_
   refine zE rfl rfl rfl cc ?_
   refine rn3 ?_
   refine zF rfl (fun h3 => ?_) (fun h3 => ?_)
   · rw [if_pos h3] at hR
     refine rn6 ?_
     exact zI hR rfl rfl
   rw [if_neg h3] at hR
   refine rn5 ?_
   refine zF rfl (fun h4 => ?_) (fun h4 => ?_)
   · rw [if_pos (by omega)] at hR
     refine rn6 ?_
     exact zI hR rfl rfl
   rw [if_neg (by omega)] at hR
   refine rn5 ?_
   refine zE rfl rfl rfl co ?_
   refine rn6 ?_
   exact zI hR rfl rfl
 rw [if_neg h1] at hR
 refine rn4 ?_
 refine zF rfl (fun h2 => ?_) (fun h2 => ?_)
 · rw [if_pos h2] at hR
   refine rn6 ?_
   refine zt rfl rfl (fun g1 => ?_) (fun g1 => ?_)
   · rw [if_pos (.inl (by rintro rfl; simp at g1))] at hR
     refine rn6 ?_
     exact zI hR rfl rfl
   repeat (first | refine zC ?_ | refine zA ?_ | refine zAC rfl rfl ?_ | refine zB (zS rfl rfl rfl rfl rfl) ?_ | refine zB (zAd rfl rfl) ?_ | refine zB (zGM rfl rfl) ?_ | refine zB (zO rfl rfl rfl rfl rfl rfl) ?_)
   refine zF rfl (fun g2 => ?_) (fun g2 => ?_)
   · rw [if_pos (.inr g2)] at hR
     refine rn6 ?_
     exact zI hR rfl rfl
   rw [if_neg (by
     rintro (q | q)
     · have := List.length_pos_iff.2 q; omega
     · exact g2 q)] at hR
   refine rn5 ?_
   refine zt rfl rfl (fun g3 => ?_) (fun g3 => ?_)
   · refine rn5 ?_
     refine zt rfl rfl (fun g4 => ?_) (fun g4 => ?_)
     · rw [if_pos (.inl ⟨g3, g4⟩)] at hR
       refine rn6 ?_
       exact zI hR rfl rfl
     refine rn5 ?_
     refine zt rfl rfl (fun g5 => ?_) (fun g5 => ?_)
     · rw [if_pos (.inr (.inl g5))] at hR
       refine rn6 ?_
       exact zI hR rfl rfl
     repeat (first | refine zC ?_ | refine zA ?_ | refine zAC rfl rfl ?_ | refine zB (zS rfl rfl rfl rfl rfl) ?_ | refine zB (zC9 rfl rfl) ?_ | refine zB (zAd rfl rfl) ?_ | refine zB (zO rfl rfl rfl rfl rfl rfl) ?_)
     refine zF rfl (fun g6 => ?_) (fun g6 => ?_)
     · rw [if_pos (.inr (.inr g6))] at hR
       refine rn6 ?_
       exact zI hR rfl rfl
     rw [if_neg (by
       rintro (q | q | q)
       · exact g4 q.2
       · exact g5 q
       · exact g6 q)] at hR
     refine rn1 ?_
     refine zE rfl rfl rfl cc ?_
     refine rn6 ?_
     exact zI hR rfl rfl
   · refine rn6 ?_
     refine zt rfl rfl (fun g5 => ?_) (fun g5 => ?_)
     · rw [if_pos (.inr (.inl g5))] at hR
       refine rn6 ?_
       exact zI hR rfl rfl
     repeat (first | refine zC ?_ | refine zA ?_ | refine zAC rfl rfl ?_ | refine zB (zS rfl rfl rfl rfl rfl) ?_ | refine zB (zC9 rfl rfl) ?_ | refine zB (zAd rfl rfl) ?_ | refine zB (zO rfl rfl rfl rfl rfl rfl) ?_)
     refine zF rfl (fun g6 => ?_) (fun g6 => ?_)
     · rw [if_pos (.inr (.inr g6))] at hR
       refine rn6 ?_
       exact zI hR rfl rfl
     rw [if_neg (by
       rintro (q | q | q)
       · exact g3 q.1
       · exact g5 q
       · exact g6 q)] at hR
     refine rn1 ?_
     refine zE rfl rfl rfl cc ?_
     refine rn6 ?_
     exact zI hR rfl rfl
 · rw [if_neg h2] at hR
   refine rn5 ?_
   exact zI hR rfl rfl
end Go.Proofs.YtnkealfaldjipaaGreatDoor
namespace Go.Proofs.YtnkealfaldjipaaGreatDoor
open Go.Ax Go.Ax.Bg Go.Ax.Rt Go.RowKit Go.Ax.Idx Go.Ax.Cd
attribute [local irreducible] Ax zAM QOp zM zq
set_option maxRecDepth 100000
set_option maxHeartbeats 4000000
theorem chk1_ok (n : Int) : zV Tryz.prog 182 [.int .i64 n] (.bool (decide (n ≠ 1))) := by
 refine zM.value0 (zG (P := Tryz.prog) (fn := Tryz.f182) rfl rfl (by kernel_rfl) rfl (fun c hR hfix => ?_)) (fix := fun _ => False) (fun _ h => h) rfl rfl
 refine rn3 ?_
 exact zI hR rfl rfl
def zHv (e : Int × Int × Nat) : AV := .agg [.int .i64 e.1, .int .i64 e.2.1]
def lenV (e : Int × Int × Nat) : AV := .int .i64 (e.2.2 : Nat)
abbrev szC (S : KSz) : Cells := .mp (S.map zHv) (S.map lenV)
theorem keysV (S : KSz) : ∀ x ∈ S.map zHv, zCu (.pair .i64) x = true := by
 intro x hx
 obtain ⟨e, _, rfl⟩ := List.mem_map.1 hx
 rfl
theorem set_same {l : List AV} {j : Nat} {v : AV} (h : l[j]? = some v) : l.set j v = l := by
 apply List.ext_getElem?
 intro i
 by_cases e : j = i
 · subst e
   obtain ⟨hj, _⟩ := List.getElem?_eq_some_iff.1 h
   rw [List.getElem?_set_self hj, h]
 · rw [List.getElem?_set_ne e]
theorem zBy {α : Type} {n : Nat} {f : α → AV} (hf : ∀ x, zCx n (f x) = true) : ∀ l : List α, zBo n (l.map f) = true
 | [] => rfl
 | a :: r => by
   show (zCx n (f a) && zBo n (r.map f)) = true
   rw [hf a, zBy hf r]; rfl
theorem zD8 {α : Type} {f : α → AV} (hf : ∀ x, noRef (f x) = true) : ∀ l : List α, noRef.noRefs (l.map f) = true
 | [] => rfl
 | a :: r => by
   show (noRef (f a) && noRef.noRefs (r.map f)) = true
   rw [hf a, zD8 hf r]; rfl
theorem zDN {n : Nat} {t : TypeId} {c : Cells} (hc : zA2 n c) : ∀ (h : Nat) (o : AObj), ([some ⟨t, c⟩] : zQ)[h]? = some (some o) → zA2 n o.c := by
 intro h o ho
 match h, ho with
 | 0, ho => cases ho; exact hc
 | _ + 1, ho => simp at ho
theorem zJV (S : KSz) (n : Nat) : zA2 n (szC S) := ⟨zBy (fun _ => rfl) S, zBy (fun _ => rfl) S⟩
theorem zKG (t : zT) (hT : ShortT t) : zV Tryz.prog 126 [.ro (zd t) 0 t.length] (.int .i64 (zE8 t)) := by
 have hlen := hT.len
 refine zM.value0 (zG (P := Tryz.prog) (fn := Tryz.f126) rfl rfl (by kernel_rfl) rfl (fun c hR hfix => ?_)) (fix := fun _ => False) (fun _ h => h) rfl rfl
 unfold zE8 at hR
 refine rn6 ?_
 refine zF rfl (fun h1 => ?_) (fun h1 => ?_)
 · rw [if_pos (by omega)] at hR
   refine rn2 ?_
   exact zI hR rfl rfl
 rw [if_neg (by omega)] at hR
 refine rn4 ?_
 refine zF rfl (fun h2 => ?_) (fun h2 => ?_)
 · rw [if_pos (by omega)] at hR
   refine rn2 ?_
   exact zI hR rfl rfl
 rw [if_neg (by omega)] at hR
 have hN : t.length ≤ 120 := by omega
 have hN0 : t.length ≠ 0 := by omega
 refine rn3 ?_
 refine zCB rfl rfl rfl rfl rfl rfl rfl rfl (by show 0 ≤ _ ∧ _ ≤ _ ∧ (8 : Int) * _ ≤ _ ∧ _; omega) ?_
 refine rn3 ?_
 refine zk (ι := Nat) (fun i => [(0, .ro (zd t) 0 t.length), (3, .sl 0 0 t.length), (23, .ro (zd t) 0 t.length), (24, .int .i64 (t.length : Nat)), (25, .int .i64 (i : Nat))]) (fun i => [some ⟨3, .ints .i64 (zDa t.length (zEU t i))⟩])
   (fun i => i ≤ t.length ∧ zD5 t.length 0 t = zD5 t.length i (t.drop i) ∧ (zEU t i).length ≤ 6 * i) (fun i => t.length - i) 0 ⟨⟨rfl, rfl, rfl, rfl, rfl, trivial⟩, by show [some (⟨3, .ints .i64 (List.replicate _ 0)⟩ : AObj)] = [some ⟨3, .ints .i64 (zDa t.length [])⟩]; rw [cntT_nil]; rfl, Nat.zero_le _, by rw [List.drop_zero], by simp [zEU]⟩ ?_
 rintro i ⟨hi, hE, hF⟩
 refine rn4 ?_
 refine zF rfl (fun h3 => ?_) (fun h3 => ?_)
 · have hi' : i < t.length := by omega
   have hmem := zA6 node0 hi'
   have cn := node_ok t i hi' hlen (hT.node _ hmem)
   rw [zL2 hi'] at hE
   have hfs := zNE hi'
   refine rn1 ?_
   refine zE rfl rfl rfl cn ?_
   refine rn3 ?_
   refine zF rfl (fun h4 => ?_) (fun h4 => ?_)
   · rw [if_neg h4] at hE
     rw [if_pos (by rw [hE]; exact h4), hE] at hR
     refine rn6 ?_
     exact zI hR rfl rfl
   rw [if_pos (Classical.not_not.1 h4)] at hE
   obtain ⟨q1, q2⟩ := zNP (Classical.not_not.1 h4)
   have hl9 : (t.getD i node0).next.length ≤ 9223372036854775807 := by omega
   repeat (first | refine zA ?_ | refine zX ?_ | refine zn ?_)
   refine zJ rfl ?_
   repeat (first | refine zB (zH rfl) ?_ | refine zC ?_ | refine zA ?_ | refine zB (zCJ rfl rfl rfl rfl) ?_ | refine zB (zBN rfl rfl rfl) ?_ | refine zB (zh rfl rfl rfl rfl (by first | (simp only [Nat.zero_add, Int.toNat_natCast, Int.toNat_zero]; exact rfl) | exact rfl) (by omega)) ?_ | refine zB (zA7 rfl rfl rfl rfl rfl rfl) ?_)
   refine zAb 38 (.ro (.ints .i64 (t.getD i node0).next) 0 (t.getD i node0).next.length) rfl (AEq.of_eq rfl) ?_
   generalize (t.getD i node0).next = l at *
   repeat (refine zAA ?_)
   refine zk (ι := Nat) (fun j => [(0, .ro (zd t) 0 t.length), (3, .sl 0 0 t.length), (23, .ro (zd t) 0 t.length), (24, .int .i64 (t.length : Nat)), (25, .int .i64 (i : Nat)), (38, .ro (.ints .i64 l) 0 l.length), (39, .int .i64 (l.length : Nat)), (40, .int .i64 (j : Nat))]) (fun j => [some ⟨3, .ints .i64 (zDa t.length (zEU t i ++ l.take j))⟩])
     (fun j => j ≤ l.length) (fun j => l.length - j) 0 ⟨⟨rfl, rfl, rfl, rfl, rfl, rfl, rfl, rfl, trivial⟩, by rw [List.take_zero, List.append_nil], Nat.zero_le _⟩ ?_
   intro j hj
   refine rn4 ?_
   refine zF rfl (fun h5 => ?_) (fun h5 => ?_)
   · have hj' : j < l.length := by omega
     obtain ⟨b1, b2⟩ := q1 _ (zAl 0 hj')
     have hs := zPc (zEU t i ++ l.take j) (x := l.getD j 0) (by omega) b2
     rw [List.append_assoc, ← zCi hj'] at hs
     have hb := cntT_le t.length (zEU t i ++ l.take j) (l.getD j 0).toNat
     have hll : (zEU t i ++ l.take j).length ≤ 6 * i + 6 := by rw [List.length_append, List.length_take]; omega
     have hcl := zET t.length (zEU t i ++ l.take j)
     have hlt : (l.getD j 0).toNat < (zDa t.length (zEU t i ++ l.take j)).length := by omega
     generalize zDa t.length (zEU t i ++ l.take j) = C at *
     repeat (first | refine zB (zH rfl) ?_ | refine zB (zK rfl) ?_ | refine zB (zA8 rfl rfl rfl) ?_ | refine zC ?_ | refine zA ?_ | refine zX ?_ | refine zJ rfl ?_ | refine zj ?_ | refine zAA ?_ | refine zn ?_ | refine zB (zC2 rfl rfl (by omega)) ?_ | refine zB (zh rfl rfl rfl rfl (by first | (simp only [Nat.zero_add, Int.toNat_natCast, Int.toNat_zero]; exact rfl) | exact rfl) (by omega)) ?_ | refine zB (zZ rfl rfl rfl rfl rfl (by first | (simp only [Nat.zero_add, Int.toNat_natCast, Int.toNat_zero]; exact rfl) | exact rfl) (by omega)) ?_ | refine zB (zAG rfl rfl rfl rfl (by first | assumption | omega)) ?_ | refine zAi rfl rfl rfl rfl rfl rfl rfl (by first | assumption | (show _ < List.length _; first | assumption | omega)) ?_)
     exact zP ⟨j + 1, by omega, by omega, ⟨rfl, rfl, rfl, rfl, rfl, rfl, rfl, rfl, trivial⟩, by rw [hs]; rfl⟩
   · have hje : j = l.length := by omega
     subst hje
     rw [List.take_length, ← hfs]
     refine rn5 ?_
     exact zP ⟨i + 1, ⟨by omega, hE, by rw [hfs, List.length_append]; omega⟩, by omega, ⟨rfl, rfl, rfl, rfl, rfl, trivial⟩, rfl⟩
 have hie : i = t.length := by omega
 subst hie
 rw [List.drop_length] at hE
 have hE0 : zD5 t.length 0 t = 0 := hE
 rw [if_neg (by rw [hE0]; exact fun q => q rfl)] at hR
 have hfl : zEU t t.length = t.flatMap TNode.next := by unfold zEU; rw [List.take_length]
 rw [hfl]
 have hall := zP2 hN0
 rw [← hall] at hR
 have hcl := zET t.length (t.flatMap TNode.next)
 generalize zDa t.length (t.flatMap TNode.next) = C at *
 have cc := zKR (C.drop 1) 182 [] (fun n => decide (n ≠ 1)) rfl (by rw [List.length_drop]; omega) (fun n _ => chk1_ok n)
 repeat (first | refine zA ?_ | refine zX ?_ | refine zA3 ?_ | refine z8 ?_ | refine z7 ?_ | refine zAS ?_)
 refine zBE 0 3 t.length [(0, .ro (zd t) 0 t.length)] rfl zAO rfl (by show t.length ≤ C.length; omega) ⟨rfl, trivial⟩ ?_
 refine zAz [] [none] [(0, .ro (zd t) 0 t.length), (3, .ro (.ints .i64 C) 0 t.length)] rfl ⟨rfl, rfl, trivial⟩ (fun h hh => by rw [hfix] at hh; exact absurd hh id) (fun h o ho => by simp at ho) rfl ?_
 repeat (first | refine zB (zH rfl) ?_ | refine zJ rfl ?_ | refine zB (zI7 rfl rfl rfl rfl rfl rfl rfl (by omega)) ?_)
 refine zL 53 (.ro (.ints .i64 (C.drop 1)) 0 (C.drop 1).length) rfl (AEq.trans (AEq.drop (k := .i64) (l := C) (i := 1) (n := ((t.length : Int) - 1).toNat)) (AEq.of_eq (by rw [List.length_drop, hcl]; congr 1; omega))) ?_
 refine zE rfl rfl rfl cc ?_
 generalize (C.drop 1).any (fun n => decide (n ≠ 1)) = b at *
 cases b
 case true =>
   rw [if_pos rfl] at hR
   refine rn5 ?_
   exact zI hR rfl rfl
 rw [if_neg (by decide)] at hR
 refine rn4 ?_
 refine zED ?_
 refine rn3 ?_
 refine zk (ι := Nat × KSz) (fun x => [(0, .ro (zd t) 0 t.length), (8, .mp 0), (56, .ro (zd t) 0 t.length), (57, .int .i64 (t.length : Nat)), (58, .int .i64 (x.1 : Nat))]) (fun x => [some ⟨262, szC x.2⟩])
   (fun x => x.1 ≤ t.length ∧ KInv (t.take x.1) x.2) (fun x => t.length - x.1) (0, []) ⟨⟨rfl, rfl, rfl, rfl, rfl, trivial⟩, rfl, Nat.zero_le _, KInv.nil⟩ ?_
 rintro ⟨k, S⟩ ⟨hk, hK⟩
 simp only at hk hK
 refine rn4 ?_
 refine zF rfl (fun h5 => ?_) (fun h5 => ?_)
 · have hk' : k < t.length := by omega
   have hmem := zA6 node0 hk'
   have hsn := hT.node _ hmem
   have htk := zNZ hk'
   have hpre : ∀ a ∈ t.take k, a ∈ t := fun a ha => List.mem_of_mem_take ha
   have hskip := @KInv.skip (t.take k) S (t.getD k node0) hK
   have hhit := fun e => @KInv.hit (t.take k) S (t.getD k node0) e hK
   have hmiss := @KInv.miss (t.take k) S (t.getD k node0) hK
   have hbad := fun e => @KInv.bad (t.take k) t S (t.getD k node0) e hK hpre hmem
   rw [← htk] at hskip hhit hmiss
   obtain ⟨s1, s2, s3, s4⟩ := hsn
   refine rn6 ?_
   refine zL 61 (.agg (zBY (t.getD k node0))) rfl (AEq.of_eq rfl) ?_
   generalize t.getD k node0 = n at *
   obtain ⟨kd, pl, nf, nx, od, py⟩ := n
   simp only at *
   refine zR (c' := .box [.int .i64 kd, .int .i64 pl, .int .i64 nf, .ro (.ints .i64 nx) 0 nx.length, .ro (.strs od) 0 od.length, .str py]) rfl rfl rfl rfl rfl Nat.zero_lt_one rfl rfl (fun i' j' hi' hj' => ?_) ?_
   · rw [if_pos (Nat.lt_one_iff.1 hi')]; rfl
   refine rn5 ?_
   refine zF rfl (fun g1 => ?_) (fun g1 => ?_)
   · repeat (first | refine zA3 ?_ | refine z8 ?_ | refine z7 ?_)
     refine zA ?_
     refine zAz [some ⟨262, szC S⟩] [some ⟨40, .box [.int .i64 kd, .int .i64 pl, .int .i64 nf, .ro (.ints .i64 nx) 0 nx.length, .ro (.strs od) 0 od.length, .str py]⟩] [(0, .ro (zd t) 0 t.length), (8, .mp 0), (56, .ro (zd t) 0 t.length), (57, .int .i64 (t.length : Nat)), (58, .int .i64 (k : Nat))] rfl ⟨rfl, rfl, rfl, rfl, rfl, trivial⟩ (fun h hh => by rw [hfix] at hh; exact absurd hh id) (zDN (zJV S 1)) rfl ?_
     refine rn3 ?_
     exact zP ⟨(k + 1, S), ⟨by simp only; omega, hskip g1⟩, by simp only; omega, ⟨rfl, rfl, rfl, rfl, rfl, trivial⟩, rfl⟩
   · have hk2 : kd = 2 := Classical.not_not.1 g1
     repeat (first | refine zA ?_ | refine zX ?_ | refine zJ rfl ?_ | refine zn ?_ | refine zB (zS rfl rfl rfl rfl rfl) ?_ | refine zB (zAR rfl rfl rfl rfl rfl rfl) ?_ | refine zB (zO rfl rfl rfl rfl rfl rfl) ?_ | refine zBK rfl rfl rfl ?_)
     refine zL 69 (.agg [.int .i64 pl, .int .i64 nf]) rfl (AEq.of_eq rfl) ?_
     refine zR (c' := .box [.int .i64 pl, .int .i64 nf]) rfl rfl rfl rfl rfl Nat.zero_lt_one rfl rfl (fun i' j' hi' hj' => ?_) ?_
     · rw [if_pos (Nat.lt_one_iff.1 hi')]; rfl
     refine rn6 ?_
     refine zL 72 (zHv (pl, nf, 0)) rfl (AEq.of_eq rfl) ?_
     by_cases hm : ∃ e ∈ S, e.1 = pl ∧ e.2.1 = nf
     · obtain ⟨e, he, e1, e2⟩ := hm
       obtain ⟨j, hj, hje⟩ := List.getElem_of_mem he
       have i1 : (S.map zHv)[j]? = some (zHv (pl, nf, 0)) := by
         rw [List.getElem?_map, List.getElem?_eq_getElem hj, hje]
         show some (zHv e) = _
         unfold zHv; rw [e1, e2]
       have i2 : (S.map lenV)[j]? = some (.int .i64 (e.2.2 : Nat)) := by
         rw [List.getElem?_map, List.getElem?_eq_getElem hj, hje]; rfl
       refine zB (zBU rfl (.pair rfl rfl rfl) rfl rfl rfl rfl (keysV S) j i1 i2) ?_
       refine rn5 ?_
       refine zF rfl (fun h7 => ?_) (fun h7 => ?_)
       · rw [if_pos (hbad e hk2 he e1 e2 (by omega))] at hR
         refine rn6 ?_
         exact zI hR rfl rfl
       · have h8 : e.2.2 = nx.length := by omega
         have hset : (S.map lenV).set j (.int .i64 (nx.length : Nat)) = S.map lenV := set_same (by rw [i2, h8])
         refine rn6 ?_
         refine zL 85 (zHv (pl, nf, 0)) rfl (AEq.of_eq rfl) ?_
         refine zJv rfl (.pair rfl rfl rfl) rfl rfl rfl rfl rfl (keysV S) j i1 ?_
         refine zAn [some ⟨262, szC (S)⟩, some ⟨40, .box [.int .i64 kd, .int .i64 pl, .int .i64 nf, .ro (.ints .i64 nx) 0 nx.length, .ro (.strs od) 0 od.length, .str py]⟩, some ⟨208, .box [.int .i64 pl, .int .i64 nf]⟩] (by rw [← hset]; rw [hset]; exact (congrArg (fun l => [some (⟨262, .mp (S.map zHv) l⟩ : AObj), some ⟨40, .box [.int .i64 kd, .int .i64 pl, .int .i64 nf, .ro (.ints .i64 nx) 0 nx.length, .ro (.strs od) 0 od.length, .str py]⟩, some ⟨208, .box [.int .i64 pl, .int .i64 nf]⟩]) hset)) ?_
         repeat (first | refine zC ?_ | refine zj ?_)
         refine zA ?_
         refine zAz [some ⟨262, szC (S)⟩] [some ⟨40, .box [.int .i64 kd, .int .i64 pl, .int .i64 nf, .ro (.ints .i64 nx) 0 nx.length, .ro (.strs od) 0 od.length, .str py]⟩, some ⟨208, .box [.int .i64 pl, .int .i64 nf]⟩] [(0, .ro (zd t) 0 t.length), (8, .mp 0), (56, .ro (zd t) 0 t.length), (57, .int .i64 (t.length : Nat)), (58, .int .i64 (k : Nat))] rfl ⟨rfl, rfl, rfl, rfl, rfl, trivial⟩ (fun h hh => by rw [hfix] at hh; exact absurd hh id) (zDN (zJV _ 1)) rfl ?_
         refine rn3 ?_
         exact zP ⟨(k + 1, S), ⟨by simp only; omega, hhit e he e1 e2 h8⟩, by simp only; omega, ⟨rfl, rfl, rfl, rfl, rfl, trivial⟩, rfl⟩
     · have hnew : zHv (pl, nf, 0) ∉ S.map zHv := by
         intro q
         obtain ⟨e, he, ee⟩ := List.mem_map.1 q
         simp only [zHv, AV.agg.injEq, List.cons.injEq, AV.int.injEq, true_and, and_true] at ee
         exact hm ⟨e, he, ee.1, ee.2⟩
       refine zB (zEs rfl (.pair rfl rfl rfl) rfl rfl rfl rfl rfl rfl rfl rfl (keysV S) hnew) ?_
       refine rn6 ?_
       refine zL 85 (zHv (pl, nf, 0)) rfl (AEq.of_eq rfl) ?_
       refine zCH rfl (.pair rfl rfl rfl) rfl rfl rfl rfl rfl (keysV S) hnew ?_
       refine zAn [some ⟨262, szC (S ++ [(pl, nf, nx.length)])⟩, some ⟨40, .box [.int .i64 kd, .int .i64 pl, .int .i64 nf, .ro (.ints .i64 nx) 0 nx.length, .ro (.strs od) 0 od.length, .str py]⟩, some ⟨208, .box [.int .i64 pl, .int .i64 nf]⟩] (by unfold szC; rw [List.map_append, List.map_append]; rfl) ?_
       repeat (first | refine zC ?_ | refine zj ?_)
       refine zA ?_
       refine zAz [some ⟨262, szC (S ++ [(pl, nf, nx.length)])⟩] [some ⟨40, .box [.int .i64 kd, .int .i64 pl, .int .i64 nf, .ro (.ints .i64 nx) 0 nx.length, .ro (.strs od) 0 od.length, .str py]⟩, some ⟨208, .box [.int .i64 pl, .int .i64 nf]⟩] [(0, .ro (zd t) 0 t.length), (8, .mp 0), (56, .ro (zd t) 0 t.length), (57, .int .i64 (t.length : Nat)), (58, .int .i64 (k : Nat))] rfl ⟨rfl, rfl, rfl, rfl, rfl, trivial⟩ (fun h hh => by rw [hfix] at hh; exact absurd hh id) (zDN (zJV _ 1)) rfl ?_
       refine rn3 ?_
       exact zP ⟨(k + 1, S ++ [(pl, nf, nx.length)]), ⟨by simp only; omega, hmiss hk2 (fun e he q => hm ⟨e, he, q⟩)⟩, by simp only; omega, ⟨rfl, rfl, rfl, rfl, rfl, trivial⟩, rfl⟩
 · have hke : k = t.length := by omega
   subst hke
   rw [List.take_length] at hK
   rw [zMh hK.free, if_neg (by decide)] at hR
   refine rn5 ?_
   exact zI hR rfl rfl
end Go.Proofs.YtnkealfaldjipaaGreatDoor
namespace Go.Ax.Rt
open Go.Ax.Bg Go.Ax.Idx
theorem zKZ {α : Type} (p : α → Bool) : ∀ l : List α, l.any p = true → zC6 p l = (l.findIdx p : Nat)
 | [], h => by simp at h
 | x :: r, h => by
   rw [zC6, List.findIdx_cons]
   cases hx : p x
   · have hr : r.any p = true := by simpa [hx] using h
     rw [zKZ p r hr]
     simp only [cond_false, Bool.false_eq_true, if_false]
     rw [if_neg (by omega)]
     omega
   · rfl
theorem zPn {α : Type} (p : α → Bool) (l : List α) (h : l.any p = false) : zC6 p l = -1 := by
 have := zE0 p l
 rw [h, decide_eq_false_iff_not] at this
 exact zLu p l (by omega)
def zBb (t : zT) (p : Int) (k : Nat) : List Int := ((List.range k).map (fun i : Nat => (i : Int))).filter (fun i => t.any (zAx p i))
def zDF (t : zT) (p : Int) (k : Nat) : List Int := (zBb t p k).map (fun i => ((ze t p i : Nat) : Int))
theorem zIT (t : zT) (p : Int) (k : Nat) : zBb t p (k + 1) = if t.any (zAx p (k : Int)) = true then zBb t p k ++ [(k : Int)] else zBb t p k := by
 unfold zBb
 rw [List.range_succ, List.map_append, List.filter_append]
 split
 · rename_i h; simp [h]
 · rename_i h; simp [h]
theorem zMA (t : zT) (p : Int) (k : Nat) : zDF t p (k + 1) = if t.any (zAx p (k : Int)) = true then zDF t p k ++ [((ze t p (k : Int) : Nat) : Int)] else zDF t p k := by
 unfold zDF
 rw [zIT]
 split
 · simp
 · rfl
theorem zNO (t : zT) (p : Int) (k : Nat) : (zBb t p k).length ≤ k := by
 unfold zBb
 refine Nat.le_trans (List.length_filter_le _ _) (by simp)
theorem zJI (t : zT) (p : Int) (k : Nat) : (zDF t p k).length = (zBb t p k).length := by unfold zDF; simp
theorem zNM (t : zT) (p : Int) : zBb t p 10 = zc t p := rfl
theorem zMw (t : zT) (p : Int) : zDF t p 10 = zBO t p := rfl
theorem zNK {t : zT} {p i : Int} (h : t.any (zAx p i) = true) : zIn t p i < t.length := by
 obtain ⟨x, hx, h2⟩ := List.any_eq_true.1 h
 exact List.findIdx_lt_length_of_exists ⟨x, hx, h2⟩
end Go.Ax.Rt
namespace Go.Proofs.YtnkealfaldjipaaGreatDoor
open Go.Ax Go.Ax.Bg Go.Ax.Rt Go.RowKit Go.Ax.Idx Go.Ax.Cd
attribute [local irreducible] Ax zAM QOp zM zq
set_option maxRecDepth 100000
set_option maxHeartbeats 4000000
theorem zPE (t : zT) (p : Int) (hT : ShortT t) : zV Tryz.prog 71 [.ro (zd t) 0 t.length, .int .i64 p] (.int .i64 (zBl t p)) := by
 have cc := zKG t hT
 refine zM.value0 (zG (P := Tryz.prog) (fn := Tryz.f71) rfl rfl (by kernel_rfl) rfl (fun c hR hfix => ?_)) (fix := fun _ => False) (fun _ h => h) rfl rfl
 unfold zBl at hR
 refine rn0 ?_
 refine zE rfl rfl rfl cc ?_
 refine rn3 ?_
 refine zF rfl (fun h1 => ?_) (fun h1 => ?_)
 · rw [if_pos h1] at hR
   refine rn2 ?_
   exact zI hR rfl rfl
 rw [if_neg h1] at hR
 refine rn3 ?_
 refine zt rfl rfl (fun g1 => ?_) (fun g1 => ?_)
 · refine rn3 ?_
   refine zF rfl (fun g2 => ?_) (fun g2 => ?_)
   · rw [if_pos ⟨g1, g2⟩] at hR
     refine rn2 ?_
     exact zI hR rfl rfl
   · rw [if_neg (fun q => g2 q.2)] at hR
     refine rn1 ?_
     exact zI hR rfl rfl
 · rw [if_neg (fun q => g1 q.1)] at hR
   refine rn6 ?_
   exact zI hR rfl rfl
theorem zJA (l : zT) (g : FuncId) (caps : List AV) (p : TNode → Bool) (hc : noRef.noRefs caps = true) (hlen : l.length ≤ 9223372036854775807) (hp : ∀ x ∈ l, zV Tryz.prog g ([.agg (zBY x)] ++ caps) (.bool (p x))) :
   zV Tryz.prog 127 [.ro (zd l) 0 l.length, .fn g caps] (.int .i64 (zC6 p l)) := by
 refine zM.value0 (zG (P := Tryz.prog) (fn := Tryz.f127) rfl rfl (by kernel_rfl) rfl (fun c hR hfix => ?_)) (fix := fun _ => False) (fun _ h => h) (by simp [noRef.noRefs, noRef, hc]) rfl
 refine rn3 ?_
 refine zk (ι := Nat) (fun k => [(0, .ro (zd l) 0 l.length), (1, .fn g caps), (7, .int .i64 (l.length : Nat)), (8, .int .i64 (k : Nat))]) (fun _ => [])
   (fun k => k ≤ l.length ∧ (l.take k).any p = false) (fun k => l.length - k) 0 ⟨⟨rfl, rfl, rfl, rfl, trivial⟩, rfl, Nat.zero_le _, rfl⟩ ?_
 intro k ⟨hk, hany⟩
 refine rn4 ?_
 refine zF rfl (fun h => ?_) (fun h => ?_)
 · have hk' : k < l.length := by omega
   have hanys := zCb p l node0 k hk'
   refine rn6 ?_
   refine zL 15 (.agg (zBY (l.getD k node0))) rfl (AEq.of_eq rfl) ?_
   refine zE rfl rfl rfl (hp _ (zA6 node0 hk')) ?_
   refine rn0 ?_
   refine zDQ rfl (fun h2 => ?_) (fun h2 => ?_)
   · refine rn6 ?_
     refine zI hR rfl ?_
     have := zB5 p l k hany hk
     rw [zB7 l node0 k hk'] at this
     simp only [zC6, h2, if_true] at this
     rw [this]; simp [zBL]
   · refine rn5 ?_
     refine zP ⟨k + 1, ⟨by omega, by rw [hanys, hany, h2]; rfl⟩, by omega, ⟨rfl, rfl, rfl, rfl, trivial⟩, rfl⟩
 · have hk' : k = l.length := by omega
   subst hk'
   refine rn5 ?_
   refine zI hR rfl ?_
   have := zB5 p l l.length hany hk
   rw [List.drop_length] at this
   rw [this]; rfl
theorem sets1_ok (n : TNode) (p i : Int) : zV Tryz.prog 138 [.agg (zBY n), .rp (.box [.int .i64 p]) 0 0, .rp (.box [.int .i64 i]) 0 0] (.bool (zAx p i n)) := by
 obtain ⟨kd, pl, nf, nx, od, py⟩ := n
 refine zM.value0 (zG (P := Tryz.prog) (fn := Tryz.f138) rfl rfl (by kernel_rfl) rfl (fun c hR hfix => ?_)) (fix := fun _ => False) (fun _ h => h) rfl rfl
 unfold zAx own at hR
 unfold zBY
 simp only at hR ⊢
 refine rn6 ?_
 refine zt rfl rfl (fun g1 => ?_) (fun g1 => ?_)
 · rw [decide_eq_true g1, Bool.true_and] at hR
   repeat (first | refine zB (zH rfl) ?_ | refine zAC rfl rfl ?_ | refine zB (zS rfl rfl rfl rfl rfl) ?_ | refine zB (zEk rfl rfl) ?_ | refine zB (zAd rfl rfl) ?_ | refine zB (zAe rfl rfl rfl rfl) ?_ | refine zB (zO rfl rfl rfl rfl rfl rfl) ?_)
   refine zt rfl rfl (fun g2 => ?_) (fun g2 => ?_)
   · rw [decide_eq_true g2, Bool.true_and] at hR
     repeat (first | refine zB (zK rfl) ?_ | refine zC ?_ | refine zA ?_ | refine zAC rfl rfl ?_ | refine zAH ?_ | refine zB (zS rfl rfl rfl rfl rfl) ?_ | refine zB (zEk rfl rfl) ?_ | refine zB (zAd rfl rfl) ?_ | refine zB (zAe rfl rfl rfl rfl) ?_ | refine zB (zO rfl rfl rfl rfl rfl rfl) ?_)
     exact zI hR rfl rfl
   · rw [decide_eq_false g2, Bool.false_and] at hR
     refine rn6 ?_
     exact zI hR rfl rfl
 · rw [decide_eq_false g1, Bool.false_and, Bool.false_and] at hR
   refine rn6 ?_
   exact zI hR rfl rfl
theorem refl4 {o1 o2 o3 o4 : AObj} (h1 : z6 o1.c) (h2 : z6 o2.c) (h3 : z6 o3.c) (h4 : z6 o4.c) : ∀ (h : Nat) (o : AObj), ([some o1, some o2, some o3, some o4] : zQ)[h]? = some (some o) → z6 o.c := by
 intro h o ho
 match h, ho with
 | 0, ho => cases ho; exact h1
 | 1, ho => cases ho; exact h2
 | 2, ho => cases ho; exact h3
 | 3, ho => cases ho; exact h4
 | _ + 4, ho => simp at ho
theorem below3 {n : Nat} {o1 o2 o3 : AObj} (h1 : zA2 n o1.c) (h2 : zA2 n o2.c) (h3 : zA2 n o3.c) : ∀ (h : Nat) (o : AObj), ([some o1, some o2, some o3] : zQ)[h]? = some (some o) → zA2 n o.c := by
 intro h o ho
 match h, ho with
 | 0, ho => cases ho; exact h1
 | 1, ho => cases ho; exact h2
 | 2, ho => cases ho; exact h3
 | _ + 3, ho => simp at ho
theorem zCl (k : IntKind) (l : List Int) (n : Nat) : zA2 n (.ints k l) := fun _ _ _ _ => rfl
theorem zJp (x : Int) (n : Nat) : zA2 n (.box [.int .i64 x]) := by
 intro i j _ hj
 obtain rfl : j = 0 := by have hj : j < 1 := hj; omega
 rfl
theorem zNr (t : zT) (p : Int) (hlen : t.length ≤ 9223372036854775807) : zV Tryz.prog 75 [.ro (zd t) 0 t.length, .int .i64 p] (.tup [.ro (.ints .i64 (zc t p)) 0 (zc t p).length, .ro (.ints .i64 (zBO t p)) 0 (zBO t p).length]) := by
 refine zM.value0 (zG (P := Tryz.prog) (fn := Tryz.f75) rfl rfl (by kernel_rfl) rfl (fun c hR hfix => ?_)) (fix := fun _ => False) (fun _ h => h) rfl rfl
 rw [← zNM, ← zMw] at hR
 repeat (first | refine zB (zH rfl) ?_ | refine zB (zK rfl) ?_ | refine zC ?_ | refine zA ?_ | refine zX ?_ | refine zJ rfl ?_ | refine zEu rfl rfl ?_)
 refine zBq 6 ⟨3, .ints .i64 []⟩ rfl rfl ?_
 refine zBq 7 ⟨3, .ints .i64 []⟩ rfl rfl ?_
 repeat (refine zAA ?_)
 refine zk (ι := Nat) (fun k => [(0, .ro (zd t) 0 t.length), (3, .ptr 0 0 0), (6, .sl 1 0 (zBb t p k).length), (7, .sl 2 0 (zBb t p k).length), (10, .int .i64 (k : Nat))]) (fun k => [some ⟨3, .box [.int .i64 p]⟩, some ⟨3, .ints .i64 (zBb t p k)⟩, some ⟨3, .ints .i64 (zDF t p k)⟩])
   (fun k => k ≤ 10) (fun k => 10 - k) 0 ⟨⟨rfl, rfl, rfl, rfl, rfl, trivial⟩, rfl, Nat.zero_le _⟩ ?_
 intro k hk
 refine rn4 ?_
 refine zF rfl (fun h => ?_) (fun h => ?_)
 · have hk' : k < 10 := by omega
   have ci := zJA t 138 [.rp (.box [.int .i64 p]) 0 0, .rp (.box [.int .i64 (k : Nat)]) 0 0] (zAx p (k : Int)) rfl hlen (fun n _ => sets1_ok n p k)
   have is := zIT t p k
   have ss := zMA t p k
   have hll := zNO t p k
   have hsl := zJI t p k
   generalize hI2 : zBb t p (k + 1) = I2 at *
   generalize hS2 : zDF t p (k + 1) = S2 at *
   generalize zBb t p k = I at *
   generalize zDF t p k = S at *
   repeat (first | refine zB (zH rfl) ?_ | refine zC ?_ | refine zA ?_ | refine zX ?_ | refine zJ rfl ?_ | refine zAA ?_ | refine zn ?_ | refine zB (zHK rfl) ?_ | refine zAi rfl rfl rfl rfl rfl rfl rfl Nat.zero_lt_one ?_ | refine zBK rfl rfl rfl ?_)
   refine zAn [some ⟨3, .box [.int .i64 p]⟩, some ⟨3, .ints .i64 I⟩, some ⟨3, .ints .i64 S⟩, some ⟨3, .box [.int .i64 (k : Nat)]⟩] rfl ?_
   refine zL 8 (.ptr 3 0 0) rfl (AEq.of_eq rfl) ?_
   refine zL 14 (.fn 138 [.ptr 0 0 0, .ptr 3 0 0]) rfl (AEq.of_eq rfl) ?_
   refine zFu rfl rfl rfl rfl ci (refl4 (o1 := ⟨3, .box [.int .i64 p]⟩) (o2 := ⟨3, .ints .i64 I⟩) (o3 := ⟨3, .ints .i64 S⟩) (o4 := ⟨3, .box [.int .i64 (k : Nat)]⟩) (boxIU _) zAO zAO (boxIU _)) ⟨trivial, ⟨fun o ho => by simp at ho; subst ho; exact Nat.zero_lt_one, fun o ho => by simp at ho; subst ho; exact Nat.zero_lt_one, trivial⟩, trivial⟩ rfl rfl rfl ?_
   cases hany : t.any (zAx p (k : Int))
   · rw [hany, if_neg (by decide)] at is ss
     rw [zPn _ _ hany]
     repeat (first | refine zB (zK rfl) ?_ | refine zC ?_)
     refine zA ?_
     refine zAz [some ⟨3, .box [.int .i64 p]⟩, some ⟨3, .ints .i64 I⟩, some ⟨3, .ints .i64 S⟩] [some ⟨3, .box [.int .i64 (k : Nat)]⟩] [(0, .ro (zd t) 0 t.length), (3, .ptr 0 0 0), (6, .sl 1 0 I.length), (7, .sl 2 0 I.length), (9, .int .i64 (-1)), (10, .int .i64 (k : Nat))] rfl ⟨rfl, rfl, rfl, rfl, rfl, rfl, trivial⟩ (fun h hh => by rw [hfix] at hh; exact absurd hh id) (below3 (zJp _ _) (zCl _ _ _) (zCl _ _ _)) rfl ?_
     repeat (first | refine zB (zH rfl) ?_ | refine zC ?_ | refine zA ?_ | refine zX ?_ | refine zJ rfl ?_ | refine zAT rfl ?_ | refine zj ?_ | refine zn ?_ | refine zB (zC9 rfl rfl) ?_ | refine zB (zC2 rfl rfl (by omega)) ?_)
     exact zP ⟨k + 1, by omega, by omega, ⟨rfl, rfl, by rw [hI2, is]; rfl, by rw [hI2, is]; rfl, rfl, trivial⟩, by rw [hI2, hS2, is, ss]⟩
   · rw [hany, if_pos rfl] at is ss
     have hfl := zNK hany
     rw [zKZ _ _ hany]
     have hw : ze t p (k : Int) = (t.getD (t.findIdx (zAx p (k : Int))) node0).next.length := rfl
     have hfl : t.findIdx (zAx p (k : Int)) < t.length := hfl
     generalize ze t p (k : Int) = wd at *
     generalize t.findIdx (zAx p (k : Int)) = f at *
     repeat (first | refine zB (zH rfl) ?_ | refine zB (zK rfl) ?_ | refine zC ?_ | refine zA ?_ | refine zX ?_ | refine zJ rfl ?_ | refine zBC rfl ?_ | refine zB (zC9 rfl rfl) ?_)
     refine zl (by kernel_rfl) ?_
     refine zN 0 rfl (by kernel_rfl) (by kernel_rfl) (by kernel_rfl) rfl (zH rfl) rfl ?_
     refine zN 4 rfl (by kernel_rfl) (by kernel_rfl) (by kernel_rfl) rfl (zH rfl) rfl ?_
     refine zN 5 rfl (by kernel_rfl) (by kernel_rfl) (by kernel_rfl) rfl (zH rfl) rfl ?_
     refine zN 6 rfl (by kernel_rfl) (by kernel_rfl) (by kernel_rfl) rfl (zH rfl) rfl ?_
     refine zN 7 rfl (by kernel_rfl) (by kernel_rfl) (by kernel_rfl) rfl (zh rfl rfl rfl rfl (by first | (simp only [Nat.zero_add, Int.toNat_natCast, Int.toNat_zero]; exact rfl) | exact rfl) (by omega)) rfl ?_
     refine zN 8 rfl (by kernel_rfl) (by kernel_rfl) (by kernel_rfl) rfl (zA7 rfl rfl rfl rfl rfl rfl) rfl ?_
     apply zCN (H := [some ⟨3, .box [.int .i64 p]⟩, some ⟨3, .ints .i64 (I ++ [(k : Int)])⟩, some ⟨3, .ints .i64 (S ++ [(wd : Int)])⟩, some ⟨3, .box [.int .i64 (k : Nat)]⟩]) [(0, .ro (zd t) 0 t.length), (3, .ptr 0 0 0), (6, .sl 1 0 (I.length + 1)), (7, .sl 2 0 (I.length + 1)), (10, .int .i64 (k : Nat))]
     · intro fin2
       subst hw
       refine zD (is := [1, 9]) (by kernel_rfl) (by simp) rfl ⟨fun o ho => ?_, fun o ho => ?_, trivial⟩
       all_goals (cases ho)
       · refine rn4 ?_
         refine zD (is := [2, 9]) (by kernel_rfl) (by simp) rfl ⟨fun o ho => ?_, fun o ho => ?_, trivial⟩
         all_goals (cases ho)
         · refine rn3 ?_
           refine zD (is := [3, 9]) (by kernel_rfl) (by simp) rfl ⟨fun o ho => ?_, fun o ho => ?_, trivial⟩
           all_goals (cases ho)
           · refine zo rfl rfl rfl rfl rfl rfl rfl rfl rfl rfl rfl rfl (by show 0 + 1 ≤ 1; omega) rfl (by show (I.length + 1) * 8 ≤ _ ∧ _; omega) (fun i j _ _ => rfl) (by rw [hfix]; exact fun h => h) ?_
             refine rn1 ?_
             refine zD (is := [9]) (by kernel_rfl) (by simp) rfl ⟨fun o ho => ?_, trivial⟩
             all_goals (cases ho)
             refine rn6 ?_
             refine zN 10 rfl (by kernel_rfl) (by kernel_rfl) (by kernel_rfl) rfl (zBN rfl rfl rfl) rfl ?_
             refine zD (is := [11]) (by kernel_rfl) (by simp) rfl ⟨fun o ho => ?_, trivial⟩
             all_goals (cases ho)
             refine rn3 ?_
             refine zD (is := [12]) (by kernel_rfl) (by simp) rfl ⟨fun o ho => ?_, trivial⟩
             all_goals (cases ho)
             refine zo rfl rfl rfl rfl rfl rfl rfl rfl rfl hsl rfl rfl (by show 0 + 1 ≤ 1; omega) rfl (by show (I.length + 1) * 8 ≤ _ ∧ _; omega) (fun i j _ _ => rfl) (by rw [hfix]; exact fun h => h) ?_
             refine rn1 ?_
             refine zN 13 rfl (by kernel_rfl) (by kernel_rfl) (by kernel_rfl) rfl (zK rfl) rfl ?_
             refine zN 14 rfl (by kernel_rfl) (by kernel_rfl) (by kernel_rfl) rfl (zK rfl) rfl ?_
             exact fin2 _ ⟨rfl, rfl, rfl, rfl, rfl, trivial⟩
           · refine rn6 ?_
             refine zN 10 rfl (by kernel_rfl) (by kernel_rfl) (by kernel_rfl) rfl (zBN rfl rfl rfl) rfl ?_
             refine zD (is := [3, 11]) (by kernel_rfl) (by simp) rfl ⟨fun o ho => ?_, fun o ho => ?_, trivial⟩
             all_goals (cases ho)
             · refine zo rfl rfl rfl rfl rfl rfl rfl rfl rfl rfl rfl rfl (by show 0 + 1 ≤ 1; omega) rfl (by show (I.length + 1) * 8 ≤ _ ∧ _; omega) (fun i j _ _ => rfl) (by rw [hfix]; exact fun h => h) ?_
               refine rn1 ?_
               refine zD (is := [11]) (by kernel_rfl) (by simp) rfl ⟨fun o ho => ?_, trivial⟩
               all_goals (cases ho)
               refine rn3 ?_
               refine zD (is := [12]) (by kernel_rfl) (by simp) rfl ⟨fun o ho => ?_, trivial⟩
               all_goals (cases ho)
               refine zo rfl rfl rfl rfl rfl rfl rfl rfl rfl hsl rfl rfl (by show 0 + 1 ≤ 1; omega) rfl (by show (I.length + 1) * 8 ≤ _ ∧ _; omega) (fun i j _ _ => rfl) (by rw [hfix]; exact fun h => h) ?_
               refine rn1 ?_
               refine zN 13 rfl (by kernel_rfl) (by kernel_rfl) (by kernel_rfl) rfl (zK rfl) rfl ?_
               refine zN 14 rfl (by kernel_rfl) (by kernel_rfl) (by kernel_rfl) rfl (zK rfl) rfl ?_
               exact fin2 _ ⟨rfl, rfl, rfl, rfl, rfl, trivial⟩
             · refine rn3 ?_
               refine zD (is := [3]) (by kernel_rfl) (by simp) rfl ⟨fun o ho => ?_, trivial⟩
               all_goals (cases ho)
               refine zo rfl rfl rfl rfl rfl rfl rfl rfl rfl rfl rfl rfl (by show 0 + 1 ≤ 1; omega) rfl (by show (I.length + 1) * 8 ≤ _ ∧ _; omega) (fun i j _ _ => rfl) (by rw [hfix]; exact fun h => h) ?_
               refine rn1 ?_
               refine zD (is := [12]) (by kernel_rfl) (by simp) rfl ⟨fun o ho => ?_, trivial⟩
               all_goals (cases ho)
               refine zo rfl rfl rfl rfl rfl rfl rfl rfl rfl hsl rfl rfl (by show 0 + 1 ≤ 1; omega) rfl (by show (I.length + 1) * 8 ≤ _ ∧ _; omega) (fun i j _ _ => rfl) (by rw [hfix]; exact fun h => h) ?_
               refine rn1 ?_
               refine zN 13 rfl (by kernel_rfl) (by kernel_rfl) (by kernel_rfl) rfl (zK rfl) rfl ?_
               refine zN 14 rfl (by kernel_rfl) (by kernel_rfl) (by kernel_rfl) rfl (zK rfl) rfl ?_
               exact fin2 _ ⟨rfl, rfl, rfl, rfl, rfl, trivial⟩
         · refine rn6 ?_
           refine zN 10 rfl (by kernel_rfl) (by kernel_rfl) (by kernel_rfl) rfl (zBN rfl rfl rfl) rfl ?_
           refine zD (is := [2, 11]) (by kernel_rfl) (by simp) rfl ⟨fun o ho => ?_, fun o ho => ?_, trivial⟩
           all_goals (cases ho)
           · refine rn3 ?_
             refine zD (is := [3, 11]) (by kernel_rfl) (by simp) rfl ⟨fun o ho => ?_, fun o ho => ?_, trivial⟩
             all_goals (cases ho)
             · refine zo rfl rfl rfl rfl rfl rfl rfl rfl rfl rfl rfl rfl (by show 0 + 1 ≤ 1; omega) rfl (by show (I.length + 1) * 8 ≤ _ ∧ _; omega) (fun i j _ _ => rfl) (by rw [hfix]; exact fun h => h) ?_
               refine rn1 ?_
               refine zD (is := [11]) (by kernel_rfl) (by simp) rfl ⟨fun o ho => ?_, trivial⟩
               all_goals (cases ho)
               refine rn3 ?_
               refine zD (is := [12]) (by kernel_rfl) (by simp) rfl ⟨fun o ho => ?_, trivial⟩
               all_goals (cases ho)
               refine zo rfl rfl rfl rfl rfl rfl rfl rfl rfl hsl rfl rfl (by show 0 + 1 ≤ 1; omega) rfl (by show (I.length + 1) * 8 ≤ _ ∧ _; omega) (fun i j _ _ => rfl) (by rw [hfix]; exact fun h => h) ?_
               refine rn1 ?_
               refine zN 13 rfl (by kernel_rfl) (by kernel_rfl) (by kernel_rfl) rfl (zK rfl) rfl ?_
               refine zN 14 rfl (by kernel_rfl) (by kernel_rfl) (by kernel_rfl) rfl (zK rfl) rfl ?_
               exact fin2 _ ⟨rfl, rfl, rfl, rfl, rfl, trivial⟩
             · refine rn3 ?_
               refine zD (is := [3]) (by kernel_rfl) (by simp) rfl ⟨fun o ho => ?_, trivial⟩
               all_goals (cases ho)
               refine zo rfl rfl rfl rfl rfl rfl rfl rfl rfl rfl rfl rfl (by show 0 + 1 ≤ 1; omega) rfl (by show (I.length + 1) * 8 ≤ _ ∧ _; omega) (fun i j _ _ => rfl) (by rw [hfix]; exact fun h => h) ?_
               refine rn1 ?_
               refine zD (is := [12]) (by kernel_rfl) (by simp) rfl ⟨fun o ho => ?_, trivial⟩
               all_goals (cases ho)
               refine zo rfl rfl rfl rfl rfl rfl rfl rfl rfl hsl rfl rfl (by show 0 + 1 ≤ 1; omega) rfl (by show (I.length + 1) * 8 ≤ _ ∧ _; omega) (fun i j _ _ => rfl) (by rw [hfix]; exact fun h => h) ?_
               refine rn1 ?_
               refine zN 13 rfl (by kernel_rfl) (by kernel_rfl) (by kernel_rfl) rfl (zK rfl) rfl ?_
               refine zN 14 rfl (by kernel_rfl) (by kernel_rfl) (by kernel_rfl) rfl (zK rfl) rfl ?_
               exact fin2 _ ⟨rfl, rfl, rfl, rfl, rfl, trivial⟩
           · refine rn3 ?_
             refine zD (is := [2]) (by kernel_rfl) (by simp) rfl ⟨fun o ho => ?_, trivial⟩
             all_goals (cases ho)
             refine rn3 ?_
             refine zD (is := [3]) (by kernel_rfl) (by simp) rfl ⟨fun o ho => ?_, trivial⟩
             all_goals (cases ho)
             refine zo rfl rfl rfl rfl rfl rfl rfl rfl rfl rfl rfl rfl (by show 0 + 1 ≤ 1; omega) rfl (by show (I.length + 1) * 8 ≤ _ ∧ _; omega) (fun i j _ _ => rfl) (by rw [hfix]; exact fun h => h) ?_
             refine rn1 ?_
             refine zD (is := [12]) (by kernel_rfl) (by simp) rfl ⟨fun o ho => ?_, trivial⟩
             all_goals (cases ho)
             refine zo rfl rfl rfl rfl rfl rfl rfl rfl rfl hsl rfl rfl (by show 0 + 1 ≤ 1; omega) rfl (by show (I.length + 1) * 8 ≤ _ ∧ _; omega) (fun i j _ _ => rfl) (by rw [hfix]; exact fun h => h) ?_
             refine rn1 ?_
             refine zN 13 rfl (by kernel_rfl) (by kernel_rfl) (by kernel_rfl) rfl (zK rfl) rfl ?_
             refine zN 14 rfl (by kernel_rfl) (by kernel_rfl) (by kernel_rfl) rfl (zK rfl) rfl ?_
             exact fin2 _ ⟨rfl, rfl, rfl, rfl, rfl, trivial⟩
       · refine rn6 ?_
         refine zN 10 rfl (by kernel_rfl) (by kernel_rfl) (by kernel_rfl) rfl (zBN rfl rfl rfl) rfl ?_
         refine zD (is := [1, 11]) (by kernel_rfl) (by simp) rfl ⟨fun o ho => ?_, fun o ho => ?_, trivial⟩
         all_goals (cases ho)
         · refine rn4 ?_
           refine zD (is := [2, 11]) (by kernel_rfl) (by simp) rfl ⟨fun o ho => ?_, fun o ho => ?_, trivial⟩
           all_goals (cases ho)
           · refine rn3 ?_
             refine zD (is := [3, 11]) (by kernel_rfl) (by simp) rfl ⟨fun o ho => ?_, fun o ho => ?_, trivial⟩
             all_goals (cases ho)
             · refine zo rfl rfl rfl rfl rfl rfl rfl rfl rfl rfl rfl rfl (by show 0 + 1 ≤ 1; omega) rfl (by show (I.length + 1) * 8 ≤ _ ∧ _; omega) (fun i j _ _ => rfl) (by rw [hfix]; exact fun h => h) ?_
               refine rn1 ?_
               refine zD (is := [11]) (by kernel_rfl) (by simp) rfl ⟨fun o ho => ?_, trivial⟩
               all_goals (cases ho)
               refine rn3 ?_
               refine zD (is := [12]) (by kernel_rfl) (by simp) rfl ⟨fun o ho => ?_, trivial⟩
               all_goals (cases ho)
               refine zo rfl rfl rfl rfl rfl rfl rfl rfl rfl hsl rfl rfl (by show 0 + 1 ≤ 1; omega) rfl (by show (I.length + 1) * 8 ≤ _ ∧ _; omega) (fun i j _ _ => rfl) (by rw [hfix]; exact fun h => h) ?_
               refine rn1 ?_
               refine zN 13 rfl (by kernel_rfl) (by kernel_rfl) (by kernel_rfl) rfl (zK rfl) rfl ?_
               refine zN 14 rfl (by kernel_rfl) (by kernel_rfl) (by kernel_rfl) rfl (zK rfl) rfl ?_
               exact fin2 _ ⟨rfl, rfl, rfl, rfl, rfl, trivial⟩
             · refine rn3 ?_
               refine zD (is := [3]) (by kernel_rfl) (by simp) rfl ⟨fun o ho => ?_, trivial⟩
               all_goals (cases ho)
               refine zo rfl rfl rfl rfl rfl rfl rfl rfl rfl rfl rfl rfl (by show 0 + 1 ≤ 1; omega) rfl (by show (I.length + 1) * 8 ≤ _ ∧ _; omega) (fun i j _ _ => rfl) (by rw [hfix]; exact fun h => h) ?_
               refine rn1 ?_
               refine zD (is := [12]) (by kernel_rfl) (by simp) rfl ⟨fun o ho => ?_, trivial⟩
               all_goals (cases ho)
               refine zo rfl rfl rfl rfl rfl rfl rfl rfl rfl hsl rfl rfl (by show 0 + 1 ≤ 1; omega) rfl (by show (I.length + 1) * 8 ≤ _ ∧ _; omega) (fun i j _ _ => rfl) (by rw [hfix]; exact fun h => h) ?_
               refine rn1 ?_
               refine zN 13 rfl (by kernel_rfl) (by kernel_rfl) (by kernel_rfl) rfl (zK rfl) rfl ?_
               refine zN 14 rfl (by kernel_rfl) (by kernel_rfl) (by kernel_rfl) rfl (zK rfl) rfl ?_
               exact fin2 _ ⟨rfl, rfl, rfl, rfl, rfl, trivial⟩
           · refine rn3 ?_
             refine zD (is := [2]) (by kernel_rfl) (by simp) rfl ⟨fun o ho => ?_, trivial⟩
             all_goals (cases ho)
             refine rn3 ?_
             refine zD (is := [3]) (by kernel_rfl) (by simp) rfl ⟨fun o ho => ?_, trivial⟩
             all_goals (cases ho)
             refine zo rfl rfl rfl rfl rfl rfl rfl rfl rfl rfl rfl rfl (by show 0 + 1 ≤ 1; omega) rfl (by show (I.length + 1) * 8 ≤ _ ∧ _; omega) (fun i j _ _ => rfl) (by rw [hfix]; exact fun h => h) ?_
             refine rn1 ?_
             refine zD (is := [12]) (by kernel_rfl) (by simp) rfl ⟨fun o ho => ?_, trivial⟩
             all_goals (cases ho)
             refine zo rfl rfl rfl rfl rfl rfl rfl rfl rfl hsl rfl rfl (by show 0 + 1 ≤ 1; omega) rfl (by show (I.length + 1) * 8 ≤ _ ∧ _; omega) (fun i j _ _ => rfl) (by rw [hfix]; exact fun h => h) ?_
             refine rn1 ?_
             refine zN 13 rfl (by kernel_rfl) (by kernel_rfl) (by kernel_rfl) rfl (zK rfl) rfl ?_
             refine zN 14 rfl (by kernel_rfl) (by kernel_rfl) (by kernel_rfl) rfl (zK rfl) rfl ?_
             exact fin2 _ ⟨rfl, rfl, rfl, rfl, rfl, trivial⟩
         · refine rn3 ?_
           refine zD (is := [1]) (by kernel_rfl) (by simp) rfl ⟨fun o ho => ?_, trivial⟩
           all_goals (cases ho)
           refine rn4 ?_
           refine zD (is := [2]) (by kernel_rfl) (by simp) rfl ⟨fun o ho => ?_, trivial⟩
           all_goals (cases ho)
           refine rn3 ?_
           refine zD (is := [3]) (by kernel_rfl) (by simp) rfl ⟨fun o ho => ?_, trivial⟩
           all_goals (cases ho)
           refine zo rfl rfl rfl rfl rfl rfl rfl rfl rfl rfl rfl rfl (by show 0 + 1 ≤ 1; omega) rfl (by show (I.length + 1) * 8 ≤ _ ∧ _; omega) (fun i j _ _ => rfl) (by rw [hfix]; exact fun h => h) ?_
           refine rn1 ?_
           refine zD (is := [12]) (by kernel_rfl) (by simp) rfl ⟨fun o ho => ?_, trivial⟩
           all_goals (cases ho)
           refine zo rfl rfl rfl rfl rfl rfl rfl rfl rfl hsl rfl rfl (by show 0 + 1 ≤ 1; omega) rfl (by show (I.length + 1) * 8 ≤ _ ∧ _; omega) (fun i j _ _ => rfl) (by rw [hfix]; exact fun h => h) ?_
           refine rn1 ?_
           refine zN 13 rfl (by kernel_rfl) (by kernel_rfl) (by kernel_rfl) rfl (zK rfl) rfl ?_
           refine zN 14 rfl (by kernel_rfl) (by kernel_rfl) (by kernel_rfl) rfl (zK rfl) rfl ?_
           exact fin2 _ ⟨rfl, rfl, rfl, rfl, rfl, trivial⟩
     · refine zi (by kernel_rfl) ?_
       repeat (refine zj ?_)
       refine zA ?_
       refine zAz [some ⟨3, .box [.int .i64 p]⟩, some ⟨3, .ints .i64 (I ++ [(k : Int)])⟩, some ⟨3, .ints .i64 (S ++ [(wd : Int)])⟩] [some ⟨3, .box [.int .i64 (k : Nat)]⟩] [(0, .ro (zd t) 0 t.length), (3, .ptr 0 0 0), (6, .sl 1 0 (I.length + 1)), (7, .sl 2 0 (I.length + 1)), (10, .int .i64 (k : Nat))] rfl ⟨rfl, rfl, rfl, rfl, rfl, trivial⟩ (fun h hh => by rw [hfix] at hh; exact absurd hh id) (below3 (zJp _ _) (zCl _ _ _) (zCl _ _ _)) rfl ?_
       refine rn3 ?_
       have il : I2.length = I.length + 1 := by rw [is, List.length_append]; rfl
       exact zP ⟨k + 1, by omega, by omega, ⟨rfl, rfl, by rw [hI2, il]; rfl, by rw [hI2, il]; rfl, rfl, trivial⟩, by rw [hI2, hS2, is, ss]⟩
 · have hke10 : k = 10 := by omega
   subst hke10
   have hsl := zJI t p 10
   repeat (first | refine zA ?_ | refine zX ?_ | refine zA3 ?_ | refine z8 ?_ | refine z7 ?_ | refine zAS ?_)
   refine zBE 1 6 (zBb t p 10).length [(7, .sl 2 0 (zBb t p 10).length)] rfl zAO rfl (by show (zBb t p 10).length ≤ (zBb t p 10).length; exact Nat.le_refl _) ⟨rfl, trivial⟩ ?_
   refine zBE 2 7 (zBb t p 10).length [(6, .ro (.ints .i64 (zBb t p 10)) 0 (zBb t p 10).length)] rfl zAO rfl (by show (zBb t p 10).length ≤ (zDF t p 10).length; omega) ⟨rfl, trivial⟩ ?_
   refine zAb 7 (.ro (.ints .i64 (zDF t p 10)) 0 (zDF t p 10).length) rfl (AEq.of_eq (by rw [hsl])) ?_
   refine rn0 ?_
   exact zI hR rfl rfl
end Go.Proofs.YtnkealfaldjipaaGreatDoor
namespace Go.Proofs.YtnkealfaldjipaaGreatDoor
open Go.Ax Go.Ax.Bg Go.Ax.Rt Go.RowKit
attribute [local irreducible] Ax zAM QOp zM zq
set_option maxRecDepth 100000
set_option maxHeartbeats 4000000
def cellS (r : List zAK) : List AV := [.ro (.strs r) 0 r.length]
def cellR (r : List Rat) : List AV := [.ro (qsC r) 0 r.length]
abbrev rowsT (m : List (List zAK)) : Cells := zCW [] 1 cellS m
abbrev rowsQ (m : List (List Rat)) : Cells := zCW [] 1 cellR m
theorem in_ok' (l : List zAK) (hlen : l.length ≤ 1000000) (hs : ∀ s ∈ l, s.length ≤ 9223372036854775807 ∧ zCU s = 0) : zV Tryz.prog 104 [.ro (.strs l) 0 l.length] (.ro (qsC (l.map zAQ)) 0 (l.map zAQ).length) := by
 have := in_ok l hlen hs
 rwa [List.length_map]
end Go.Proofs.YtnkealfaldjipaaGreatDoor
namespace Go.Proofs.YtnkealfaldjipaaGreatDoor
open Go.Ax Go.Ax.Bg Go.Ax.Rt Go.RowKit
attribute [local irreducible] Ax zAM QOp zM zq
set_option maxRecDepth 100000
set_option maxHeartbeats 4000000
theorem zFy {m : Nat} {q : Rat} (h : D (9 * m) q) : Sz m q := by
 have key : ∀ n : Nat, n < 10 ^ (9 * m) → (zU n).length ≤ m := fun n hn => by
   refine zAc (Nat.lt_of_lt_of_le hn ?_)
   rw [Nat.pow_mul]
   exact Nat.pow_le_pow_left (by decide) m
 exact ⟨key _ h.1, key _ h.2⟩
end Go.Proofs.YtnkealfaldjipaaGreatDoor
namespace Go.Proofs.YtnkealfaldjipaaGreatDoor
open Go.Ax Go.Ax.Bg Go.Ax.Rt Go.RowKit
attribute [local irreducible] Ax zAM QOp zM zq
set_option maxRecDepth 100000
set_option maxHeartbeats 4000000
end Go.Proofs.YtnkealfaldjipaaGreatDoor
namespace Go.Proofs.YtnkealfaldjipaaGreatDoor
open Go.Ax Go.Ax.Bg Go.Ax.Rt Go.RowKit
attribute [local irreducible] Ax zAM QOp zM zq
set_option maxRecDepth 100000
set_option maxHeartbeats 4000000
def matP (p : List (List zAK) × Int) : AV := .tup [.ro (rowsT p.1) 0 p.1.length, .int .i64 p.2]
theorem zLj (l : List Rat) (hlen : l.length ≤ 1000000) (hs : ∀ q ∈ l, Sz 100000 q) (hall : l.all zCR = true) : zV Tryz.prog 80 [.ro (qsC l) 0 l.length] (.tup [.ro (.strs (l.map zAJ)) 0 (l.map zAJ).length, .int .i64 0]) := by
 have := zM5 l hlen hs hall
 rwa [List.length_map]
end Go.Proofs.YtnkealfaldjipaaGreatDoor
namespace Go.Proofs.YtnkealfaldjipaaGreatDoor
open Go.Ax Go.Ax.Bg Go.Ax.Rt Go.RowKit
attribute [local irreducible] Ax zAM QOp zM zq
set_option maxRecDepth 100000
set_option maxHeartbeats 4000000
end Go.Proofs.YtnkealfaldjipaaGreatDoor
namespace Go.Proofs.YtnkealfaldjipaaGreatDoor
open Go.Ax Go.Ax.Bg Go.Ax.Rt Go.RowKit
attribute [local irreducible] Ax zAM QOp zM zq
set_option maxRecDepth 100000
set_option maxHeartbeats 4000000
def vecP (p : List zAK × Int) : AV := .tup [.ro (.strs p.1) 0 p.1.length, .int .i64 p.2]
theorem zO5 (l : List Rat) (hlen : l.length ≤ 1000000) (hs : ∀ q ∈ l, Sz 100000 q) : ∃ r : AV, zV Tryz.prog 80 [.ro (qsC l) 0 l.length] (.tup [r, .int .i64 (zBD l).2]) ∧ AEq r (.ro (.strs (zBD l).1) 0 (zBD l).1.length) := by
 cases h : l.all zCR
 · refine ⟨.nil, ?_, ?_⟩
   · have := zPP l hlen hs h
     unfold zBD; rw [h]; exact this
   · unfold zBD; rw [h]; exact AEq.nil
 · refine ⟨_, ?_, AEq.rfl'⟩
   have := zLj l hlen hs h
   unfold zBD; rw [h]; exact this
end Go.Proofs.YtnkealfaldjipaaGreatDoor
namespace Go.Proofs.YtnkealfaldjipaaGreatDoor
open Go.Ax Go.Ax.Bg Go.Ax.Rt Go.RowKit Go.Ax.Idx Go.Ax.Cd
attribute [local irreducible] Ax zAM QOp zM zq
set_option maxRecDepth 100000
set_option maxHeartbeats 4000000
def longV (n : Int) (v : List zAK) : Bool := decide (n < (v.length : Int)) || v.any (fun s => decide (12 < (s.length : Int)))
def cellM (m : List (List zAK)) : List AV := [.ro (rowsT m) 0 m.length]
abbrev matsT (l : List (List (List zAK))) : Cells := zCW [] 1 cellM l
end Go.Proofs.YtnkealfaldjipaaGreatDoor
namespace Go.Proofs.YtnkealfaldjipaaGreatDoor
open Go.Ax Go.Ax.Bg Go.Ax.Rt Go.RowKit Go.Ax.Idx Go.Ax.Cd
attribute [local irreducible] Ax zAM QOp zM zq
set_option maxRecDepth 100000
set_option maxHeartbeats 4000000
def colT (m : List (List zAK)) (k : Nat) : List zAK := m.map (fun r => r.getD k [])
end Go.Proofs.YtnkealfaldjipaaGreatDoor
namespace Go.Proofs.YtnkealfaldjipaaGreatDoor
open Go.Ax Go.Ax.Bg Go.Ax.Rt Go.RowKit Go.Ax.Idx Go.Ax.Cd
attribute [local irreducible] Ax zAM QOp zM zq
set_option maxRecDepth 100000
set_option maxHeartbeats 4000000
end Go.Proofs.YtnkealfaldjipaaGreatDoor
namespace Go.Proofs.YtnkealfaldjipaaGreatDoor
open Go.Ax Go.Ax.Bg Go.Ax.Rt Go.RowKit Go.Ax.Idx Go.Ax.Cd
attribute [local irreducible] Ax zAM QOp zM zq
set_option maxRecDepth 100000
set_option maxHeartbeats 4000000
end Go.Proofs.YtnkealfaldjipaaGreatDoor
namespace Go.Proofs.YtnkealfaldjipaaGreatDoor
open Go.Ax Go.Ax.Bg Go.Ax.Rt Go.RowKit Go.Ax.Idx Go.Ax.Cd
attribute [local irreducible] Ax zAM QOp zM zq
set_option maxRecDepth 100000
set_option maxHeartbeats 4000000
def zGz (x : Int × Int) : List AV := [.int .i64 x.1, .int .i64 x.2]
abbrev zBP (l : zCF) : Cells := zCW (0, 0) 2 zGz l
end Go.Proofs.YtnkealfaldjipaaGreatDoor
namespace Go.Proofs.YtnkealfaldjipaaGreatDoor
open Go.Ax Go.Ax.Bg Go.Ax.Rt Go.RowKit Go.Ax.Idx Go.Ax.Cd
attribute [local irreducible] Ax zAM QOp zM zq
set_option maxRecDepth 100000
set_option maxHeartbeats 4000000
end Go.Proofs.YtnkealfaldjipaaGreatDoor
namespace Go.Proofs.YtnkealfaldjipaaGreatDoor
open Go.Ax Go.Ax.Bg Go.Ax.Rt Go.RowKit Go.Ax.Idx Go.Ax.Cd
attribute [local irreducible] Ax zAM QOp zM zq
set_option maxRecDepth 100000
set_option maxHeartbeats 4000000
end Go.Proofs.YtnkealfaldjipaaGreatDoor
namespace Go.Proofs.YtnkealfaldjipaaGreatDoor
open Go.Ax Go.Ax.Bg Go.Ax.Rt Go.RowKit Go.Ax.Idx Go.Ax.Cd
attribute [local irreducible] Ax zAM QOp zM zq
set_option maxRecDepth 100000
set_option maxHeartbeats 4000000
end Go.Proofs.YtnkealfaldjipaaGreatDoor
namespace Go.Proofs.YtnkealfaldjipaaGreatDoor
open Go.Ax Go.Ax.Bg Go.Ax.Rt Go.RowKit Go.Ax.Idx Go.Ax.Cd
attribute [local irreducible] Ax zAM QOp zM zq
set_option maxRecDepth 100000
set_option maxHeartbeats 4000000
end Go.Proofs.YtnkealfaldjipaaGreatDoor
namespace Go.Proofs.YtnkealfaldjipaaGreatDoor
open Go.Ax Go.Ax.Bg Go.Ax.Rt Go.RowKit Go.Ax.Idx Go.Ax.Cd
attribute [local irreducible] Ax zAM QOp zM zq
set_option maxRecDepth 100000
set_option maxHeartbeats 4000000
def bothA (p : (List zAK × List zAK) × Int) : AV := .tup [.ro (.strs p.1.1) 0 p.1.1.length, .ro (.strs p.1.2) 0 p.1.2.length, .int .i64 p.2]
end Go.Proofs.YtnkealfaldjipaaGreatDoor
namespace Go.Proofs.YtnkealfaldjipaaGreatDoor
open Go.Ax Go.Ax.Bg Go.Ax.Rt Go.RowKit Go.Ax.Idx Go.Ax.Cd
attribute [local irreducible] Ax zAM QOp zM zq
set_option maxRecDepth 100000
set_option maxHeartbeats 4000000
theorem zLO (q : Rat) (j : Nat) : noRef ((zAD q).getD j .any) = true := by
 match j with
 | 0 => rfl
 | 1 => rfl
 | 2 => rfl
 | n + 3 => rfl
end Go.Proofs.YtnkealfaldjipaaGreatDoor
namespace Go.Proofs.YtnkealfaldjipaaGreatDoor
open Go.Ax Go.Ax.Bg Go.Ax.Rt Go.RowKit Go.Ax.Idx Go.Ax.Cd
attribute [local irreducible] Ax zAM QOp zM zq
set_option maxRecDepth 100000
set_option maxHeartbeats 4000000
def averageR (m : List (List zAK)) (l : zCF) : (List zAK × List zAK) × Int :=
 if zKX m l ≠ 0 then (([], []), zKX m l) else if l = [] then (([], []), 8)
 else bothR ((cntQ Prod.fst l m.length).map (fun q => q / (l.length : Rat))) ((cntQ Prod.snd l (zDr m)).map (fun q => q / (l.length : Rat)))
def boundsA (p : (zAK × zAK) × Int) : AV := .tup [.str p.1.1, .str p.1.2, .int .i64 p.2]
end Go.Proofs.YtnkealfaldjipaaGreatDoor
namespace Go.Proofs.YtnkealfaldjipaaGreatDoor
open Go.Ax Go.Ax.Bg Go.Ax.Rt Go.RowKit Go.Ax.Idx Go.Ax.Cd
attribute [local irreducible] Ax zAM QOp zM zq
set_option maxRecDepth 100000
set_option maxHeartbeats 4000000
/-- Numbers that may not be there yet. -/
def zB8 : Option Rat → List AV
 | some q => zAD q
 | none => [.bool false, .nil, .nil]
abbrev zsC (l : List (Option Rat)) : Cells := zCW none 3 zB8 l
theorem zNv (n : Nat) : CEq (zAy n [.bool false, .nil, .nil]) (zsC (List.replicate n none)) := by
 refine ⟨by simp [zCW, Cells.len, zAy], rfl, fun i j hi hj => ?_⟩
 have hi : i < n := by simpa [Cells.len, zAy] using hi
 show (zB8 ((List.replicate n (none : Option Rat)).getD i none)).getD j .any = _
 rw [zAp none (by simpa using hi), List.getElem_replicate]
 rfl
theorem zEI {α : Type} (d : α) (n : Nat) (e : α → List AV) (zs : List α) (k : Nat) (a : α) (hk : k < zs.length) (i' j' : Nat) (hi' : i' < zs.length) (hj' : j' < n) : (zCW d n e (zs.set k a)).at i' j' = if i' = k then (e a).getD j' .any else (zCW d n e zs).at i' j' := by
 show (e ((zs.set k a).getD i' d)).getD j' .any = if i' = k then (e a).getD j' .any else (e (zs.getD i' d)).getD j' .any
 rw [Go.Ax.Dt.getD_set]
 by_cases h : i' = k
 · rw [if_pos h, if_pos ⟨h, hk⟩]
 · rw [if_neg h, if_neg (fun q => h q.1)]
def histA (p : zCF × Int) : AV := .tup [.ro (zBP p.1) 0 p.1.length, .int .i64 p.2]
theorem zGr (l : zCF) : z6 (zBP l) := by
 intro i j _ hj
 have hj : j < 2 := hj
 match j, hj with
 | 0, _ => rfl
 | 1, _ => rfl
end Go.Proofs.YtnkealfaldjipaaGreatDoor
namespace Go.Ax
variable [Pins]
open Go.RowKit
def eqIs (P : Program) (e : TypeId) (L M : List AV) : List Nat → Option Bool
 | [] => some true
 | i :: is => match eqIs P e L M is, L[i]?, M[i]? with
   | some r, some x, some y => (sclEq P e x y).map (· && r)
   | _, _, _ => none
theorem zLw {P : Program} {w w' : World} {S : Nat → Prop} {σ : Nat → Option Blk} {L M : List AV} {xs ys : Array Value} {d : Nat} {e : TypeId} (h1 : xs.size = L.length) (h2 : ∀ i, i < L.length → VR w S σ (L.getD i .any) (xs.getD i undef)) (h3 : ys.size = M.length) (h4 : ∀ i, i < M.length → VR w S σ (M.getD i .any) (ys.getD i undef)) :
   ∀ (is : List Nat) (b : Bool), eqIs P e L M is = some b → (Op.eqItems (d + 1) e 1 xs ys is).run P w' = .ok b w'
 | [], b, h => by simp [eqIs] at h; subst h; simp [Op.eqItems]
 | i :: is, b, h => by
   simp only [eqIs] at h
   split at h
   · rename_i r x y hr hL hM
     have ih := zLw (d := d) (w' := w') h1 h2 h3 h4 is r hr
     obtain ⟨v1, e1, r1⟩ := zOU h1 h2 hL
     obtain ⟨v2, e2, r2⟩ := zOU h3 h4 hM
     obtain ⟨q, hq, hb⟩ := Option.map_eq_some_iff.1 h
     obtain ⟨hp, hrun⟩ := zPf (w' := w') hq r1 r2 d
     simp only [Op.eqItems, Nat.mul_one]
     simp only [Sem.run_bind, run_part_plain w' hp e1, Result.andThen_ok, run_part_plain w' hp e2, hrun]
     subst hb
     cases q with
     | false => simp
     | true => simpa using ih
   · cases h
section
variable {P : Program} {fn : Func} {c : Ctx} {fr : Fr} {H : zQ} {k : List It} {ind : Bool} {d : Option Nat} {ty : TypeId} {pos : String} {after : Array Edge} {g : Option (Nat × Bool)}
theorem q_arrneq {x y : Operand} {t t' e : TypeId} {n : Nat} {inf : TypeInfo} {L M : List AV} {b : Bool} (hx : ev fr x = some (.agg L)) (hy : ev fr y = some (.agg M)) (ht : P.underlying t = some (.array n e)) (hi : P.info? e = some inf) (hc : P.cellsOf e = 1) (hg : P.eqGuardType P.depth t = false)
   (he : eqIs P e L M (List.range n) = some b) : QOp ind P fn c fr H ⟨d, .binOp .neq t x y t', ty, pos, after, g⟩ (.bool (!b)) := by
 intro w a σ S hr
 have h1 := hr.evAt hx
 have h2 := hr.evAt hy
 generalize hz : a.eval x = z at h1
 generalize hzy : a.eval y = zy at h2
 cases h1 with
 | agg _ _ xs a1 a2 a3 =>
   cases h2 with
   | agg _ _ ys b1 b2 b3 =>
     refine ⟨_, .bool _ _, fun w' _ => ?_⟩
     have hr := zLw (d := 9998) (w' := w') a1 a2 b1 b2 _ b he
     simp only [execOp, hz, hzy, Sem.run_bind, run_eqGuard_agg w' _ _ _ _ _ _ hg, Result.andThen_ok, run_neq_struct, show (10000 : Nat) = 9999 + 1 from rfl, run_equalIn_array w' 9999 _ _ ht hi, hc, hr]
     rfl
end
end Go.Ax
namespace Go.Proofs.YtnkealfaldjipaaGreatDoor
open Go.Ax Go.Ax.Bg Go.Ax.Rt Go.RowKit Go.Ax.Idx Go.Ax.Cd
attribute [local irreducible] Ax zAM QOp zM zq
set_option maxRecDepth 100000
set_option maxHeartbeats 4000000
theorem equalP (a b : zCF) (hlen : a.length ≤ 9223372036854775807) (hlb : b.length ≤ 9223372036854775807) : zV Tryz.prog 131 [.ro (zBP a) 0 a.length, .ro (zBP b) 0 b.length] (.bool (decide (a = b))) := by
 refine zM.value0 (zG (P := Tryz.prog) (fn := Tryz.f131) rfl rfl (by kernel_rfl) rfl (fun c hR hfix => ?_)) (fix := fun _ => False) (fun _ h => h) rfl rfl
 refine rn3 ?_
 refine zF rfl (fun h => ?_) (fun h => ?_)
 · refine rn2 ?_
   refine zI hR rfl ?_
   have : ¬ a = b := by rintro rfl; exact h rfl
   simp [zBL, this]
 have hab : a.length = b.length := by omega
 refine rn3 ?_
 refine zk (ι := Nat) (fun k => [(0, .ro (zBP a) 0 a.length), (1, .ro (zBP b) 0 b.length), (12, .int .i64 (a.length : Nat)), (13, .int .i64 (k : Nat))]) (fun _ => [])
   (fun k => k ≤ a.length ∧ a.take k = b.take k) (fun k => a.length - k) 0 ⟨⟨rfl, rfl, rfl, rfl, trivial⟩, rfl, Nat.zero_le _, rfl⟩ ?_
 intro k ⟨hk, heq⟩
 refine rn4 ?_
 refine zF rfl (fun h2 => ?_) (fun h2 => ?_)
 · have hk' : k < a.length := by omega
   have hkb : k < b.length := by omega
   have ha := zAm a (0, 0) k hk'
   have hb := zAm b (0, 0) k hkb
   refine rn1 ?_
   refine zl (by kernel_rfl) ?_
   refine zz (fuel := 0) [0, 1, 2, 3, 4, 5, 6, 7, 8] [(0, .ro (zBP a) 0 a.length), (1, .ro (zBP b) 0 b.length), (5, .int .i64 (k : Nat)), (12, .int .i64 (a.length : Nat)), (13, .int .i64 (k : Nat))] ⟨rfl, rfl, rfl, rfl, rfl, trivial⟩ (by kernel_rfl) (by decide) rfl rfl ?_
   refine zW rfl rfl (zH rfl) ?_
   refine zW rfl rfl (zH rfl) ?_
   refine zW rfl rfl (zh rfl rfl rfl rfl (by first | (simp only [Nat.zero_add, Int.toNat_natCast, Int.toNat_zero]; exact rfl) | exact rfl) (by omega)) ?_
   refine zW rfl rfl (zCT rfl rfl rfl rfl rfl rfl) ?_
   refine zW rfl rfl (zH rfl) ?_
   refine zW rfl rfl (zH rfl) ?_
   refine zW rfl rfl (zh rfl rfl rfl rfl (by first | (simp only [Nat.zero_add, Int.toNat_natCast, Int.toNat_zero]; exact rfl) | exact rfl) (by omega)) ?_
   refine zW rfl rfl (zCT rfl rfl rfl rfl rfl rfl) ?_
   refine zW rfl rfl (q_arrneq (L := zGz (a.getD k (0, 0))) (M := zGz (b.getD k (0, 0))) (b := decide ((a.getD k (0, 0)).1 = (b.getD k (0, 0)).1) && (decide ((a.getD k (0, 0)).2 = (b.getD k (0, 0)).2) && true)) rfl rfl rfl rfl (by kernel_rfl) (by kernel_rfl) rfl) ?_
   refine zAg ?_
   refine zi (by kernel_rfl) ?_
   repeat (refine zA ?_)
   by_cases h3 : a.getD k (0, 0) = b.getD k (0, 0)
   · rw [h3, decide_eq_true rfl, decide_eq_true rfl]
     refine rn5 ?_
     exact zP ⟨k + 1, ⟨by omega, by rw [ha, hb, heq, h3]⟩, by omega, ⟨rfl, rfl, rfl, rfl, trivial⟩, rfl⟩
   · have h4 : (decide ((a.getD k (0, 0)).1 = (b.getD k (0, 0)).1) && (decide ((a.getD k (0, 0)).2 = (b.getD k (0, 0)).2) && true)) = false := by
       rw [Bool.and_true, ← Bool.not_eq_true, Bool.and_eq_true, decide_eq_true_eq, decide_eq_true_eq]
       rintro ⟨e1, e2⟩
       exact h3 (Prod.ext e1 e2)
     rw [h4]
     refine rn6 ?_
     refine zI hR rfl ?_
     have : ¬ a = b := by rintro rfl; exact h3 rfl
     simp [zBL, this]
 · have hk' : k = a.length := by omega
   subst hk'
   rw [List.take_length, hab, List.take_length] at heq
   refine rn5 ?_
   refine zI hR rfl ?_
   simp [zBL, heq]
def pennT : List (List zAK) := [[[49], [45, 49]], [[45, 49], [49]]]
def allQ : List zAK → List Rat → Bool
 | [], [] => true
 | s :: r, q :: t => decide (IsQ s q) && allQ r t
 | _, _ => false
def histT : zCF := [(0, 0), (0, 1)]
end Go.Proofs.YtnkealfaldjipaaGreatDoor
namespace Go.Proofs.YtnkealfaldjipaaGreatDoor
open Go.Ax Go.Ax.Bg Go.Ax.Rt Go.RowKit Go.Ax.Idx Go.Ax.Cd
attribute [local irreducible] Ax zAM QOp zM zq
set_option maxRecDepth 100000
set_option maxHeartbeats 4000000
theorem zHY {α : Type} (d : α) (n : Nat) (e : α → List AV) (a b : List α) : CEq (.fn (a.length + b.length) n (fun i j => bif Nat.blt i a.length then (zCW d n e a).at i j else (zCW d n e b).at (0 + (i - a.length)) j)) (zCW d n e (a ++ b)) := by
 refine ⟨by simp [zCW, Cells.len], rfl, fun i j hi hj => ?_⟩
 show (e ((a ++ b).getD i d)).getD j .any = bif Nat.blt i a.length then (e (a.getD i d)).getD j .any else (e (b.getD (0 + (i - a.length)) d)).getD j .any
 by_cases h : i < a.length
 · rw [show Nat.blt i a.length = true from Nat.ble_eq_true_of_le h, zHD d h]; rfl
 · have h2 : Nat.blt i a.length = false := by
     cases e : Nat.blt i a.length with
     | false => rfl
     | true => have : i + 1 ≤ a.length := Nat.le_of_ble_eq_true e
               omega
   rw [h2, Nat.zero_add]
   have : (a ++ b).getD i d = b.getD (i - a.length) d := by
     simp only [List.getD]
     rw [List.getElem?_append_right (by omega)]
   rw [this]; rfl
theorem zH2 (l : zCF) (hl : l.length ≤ 1000000) : zJh Tryz.prog 183 [.ro (zBP l) 0 l.length] (fun N => .sl N 0 l.length) ⟨208, zBP l⟩ := by
 refine zM.fresh (K := fun r H => r = .sl 0 0 l.length ∧ H = [some ⟨208, zBP l⟩]) (zG (P := Tryz.prog) (fn := Tryz.f183) rfl rfl (by kernel_rfl) rfl (fun c hR hfix => ?_)) (fix := fun _ => False) (fun _ h => h) rfl (fun H => ⟨rfl, by simp [zHj, inB]⟩) ?_
 · refine rn0 ?_
   refine zMF rfl rfl rfl (fun b hb => ?_)
   refine rn0 ?_
   refine zDQ rfl (fun h => ?_) (fun h => ?_)
   · have := hb h
     have hn : l = [] := List.length_eq_zero_iff.mp this
     subst hn
     repeat (first | refine zB (zK rfl) ?_ | refine zC ?_ | refine zA ?_ | refine zX ?_ | refine zJ rfl ?_)
     refine zBq 2 ⟨208, zBP []⟩ rfl rfl ?_
     refine rn2 ?_
     exact zI hR rfl ⟨rfl, rfl⟩
   · refine rn1 ?_
     refine zEp rfl rfl rfl rfl rfl rfl rfl rfl rfl rfl ?_
     refine zA5 [some ⟨208, zBP []⟩] (zAL.eqv ⟨rfl, rfl, fun i j hi => absurd hi (Nat.not_lt_zero _)⟩ zAL.nil) ?_
     repeat (refine zB (zH rfl) ?_)
     refine zo rfl rfl rfl rfl rfl rfl rfl rfl rfl rfl rfl rfl (by show 0 + l.length ≤ l.length; omega) rfl (by show (0 + l.length) * 16 ≤ _ ∧ _; omega) ?_ (by rw [hfix]; exact fun h => h) ?_
     · intro i' j' hi' hj'
       have q := (zHY (0, 0) 2 zGz [] l).2.2 i' j' hi' hj'
       refine (congrArg (AV.forget 0) q.symm).trans (Eq.trans ?_ q)
       match j', hj' with
       | 0, _ => rfl
       | 1, _ => rfl
     refine zA5 [some ⟨208, zBP l⟩] (zAL.eqv (zHY (0, 0) 2 zGz [] l) zAL.nil) ?_
     refine rn0 ?_
     refine zI hR rfl ⟨?_, rfl⟩
     show AV.sl 0 0 (0 + l.length) = _; rw [Nat.zero_add]
 · rintro r H ⟨rfl, rfl⟩
   refine ⟨?_, fun h o ho => zGn (zGr _) h o ho, 0, rfl, fun n => rfl⟩
   intro o ho; simp at ho; subst ho; show 0 + l.length ≤ l.length; omega
def zJf (w : zCF) : List AV := [.ro (zBP w) 0 w.length]
abbrev zBt (W : List zCF) : Cells := zCW [] 1 zJf W
theorem zJ8 {α : Type} (d : α) (e : α → List AV) (l : List α) (x : Nat) (a : α) (v : AV) (hx : x < l.length) (hv : v = (e a).getD 0 .any) : CEq (.fn l.length 1 (fun i' j' => bif Nat.beq i' x && Nat.beq j' 0 then v else (e (l.getD i' d)).getD j' .any)) (zCW d 1 e (l.set x a)) := by
 refine ⟨by simp [zCW, Cells.len], rfl, fun i j hi hj => ?_⟩
 obtain rfl := Nat.lt_one_iff.1 (show j < 1 from hj)
 show (e ((l.set x a).getD i d)).getD 0 .any = bif Nat.beq i x && Nat.beq 0 0 then v else (e (l.getD i d)).getD 0 .any
 rw [Go.Ax.Dt.getD_set]
 by_cases h : i = x
 · subst h
   rw [if_pos ⟨rfl, hx⟩, hv, show Nat.beq i i = true from Nat.beq_refl i]; rfl
 · rw [if_neg (fun q => h q.1), zBj h]; rfl
theorem zLi {α : Type} {v : Nat → α} {P : α → Prop} : ∀ (l : List Int) (k : Nat) (a : List α), (∀ x ∈ a, P x) → (∀ j, k ≤ j → j < k + l.length → P (v j)) → ∀ x ∈ zAk v l k a, P x
 | [], _, a, h, _ => h
 | c :: r, k, a, h, hv => by
   rw [zAk]
   refine zLi r (k + 1) _ (fun x hx => ?_) (fun j h1 h2 => hv j (by omega) (by simp; omega))
   rcases List.mem_or_eq_of_mem_set hx with q | q
   · exact h x q
   · rw [q]; exact hv k (Nat.le_refl _) (by simp)
theorem zJa {α : Type} {P : α → Prop} {l : List α} {d : α} (h : ∀ x ∈ l, P x) (hd : P d) (i : Nat) : P (l.getD i d) := by
 rcases Nat.lt_or_ge i l.length with q | q
 · exact h _ (zAl d q)
 · have : l.getD i d = d := by simp [List.getD, q]
   rw [this]; exact hd
theorem wayV_len (p : Int) (n : TNode) (w : zCF) (k : Nat) : (zH5 p n w k).length ≤ w.length + 1 := by
 unfold zH5
 split
 · rw [List.length_append]; exact Nat.le_refl _
 · omega
theorem zI3 (t : zT) (p : Int) : ∀ i, ∀ w ∈ zBG t p i, w.length ≤ i
 | 0, w, hw => by
   rw [(List.mem_replicate.1 hw).2]; exact Nat.le_refl _
 | i + 1, w, hw => by
   have ih := zI3 t p i
   rw [zBG, zFM] at hw
   refine zLi (P := fun w : zCF => w.length ≤ i + 1) _ _ _ (fun x hx => Nat.le_succ_of_le (ih x hx)) (fun j _ _ => ?_) w hw
   have h1 := wayV_len p (t.getD i node0) ((zBG t p i).getD i []) j
   have h2 : ((zBG t p i).getD i []).length ≤ i := zJa (P := fun w : zCF => w.length ≤ i) ih (Nat.zero_le _) i
   omega
theorem zM0 {t : zT} (hv : Valid t) (p : Int) : ∀ w ∈ zDe t p, w.length ≤ 120 := fun w hw => Nat.le_trans (zI3 t p t.length w hw) hv.le
theorem zKw (W : List zCF) : z6 (zBt W) := by
 intro i j _ hj
 obtain rfl : j = 0 := by have hj : j < 1 := hj; omega
 rfl
theorem zJo (W : List zCF) (n : Nat) : zA2 n (zBt W) := by
 intro i j _ hj
 obtain rfl : j = 0 := by have hj : j < 1 := hj; omega
 rfl
theorem below2 {n : Nat} {o1 o2 : AObj} (h1 : zA2 n o1.c) (h2 : zA2 n o2.c) : ∀ (h : Nat) (o : AObj), ([some o1, some o2] : zQ)[h]? = some (some o) → zA2 n o.c := by
 intro h o ho
 match h, ho with
 | 0, ho => cases ho; exact h1
 | 1, ho => cases ho; exact h2
 | _ + 2, ho => simp at ho
theorem zNC (n : Nat) (kd pl nf : Int) (nx : List Int) (od : List zAK) (py : zAK) : zA2 n (.box [.int .i64 kd, .int .i64 pl, .int .i64 nf, .ro (.ints .i64 nx) 0 nx.length, .ro (.strs od) 0 od.length, .str py]) := by
 intro i j _ hj
 have hj : j < 6 := hj
 match j, hj with
 | 0, _ => rfl
 | 1, _ => rfl
 | 2, _ => rfl
 | 3, _ => rfl
 | 4, _ => rfl
 | 5, _ => rfl
theorem zLY (W : List zCF) (h : Nat) : CEq ((zBt W).forget h) (zBt W) := by
 refine ⟨rfl, rfl, fun i j _ hj => ?_⟩
 have hj : j < 1 := hj
 match j, hj with
 | 0, _ => rfl
theorem ways_ok (t : zT) (p : Int) (hT : ShortT t) (hv : Valid t) : zV Tryz.prog 130 [.ro (zd t) 0 t.length, .int .i64 p] (.ro (zBt (zDe t p)) 0 t.length) := by
 have hlen := hT.len
 have h120 := hv.le
 refine zM.value0 (zG (P := Tryz.prog) (fn := Tryz.f130) rfl rfl (by kernel_rfl) rfl (fun c hR hfix => ?_)) (fix := fun _ => False) (fun _ h => h) rfl rfl
 refine rn3 ?_
 refine zCB rfl rfl rfl rfl rfl rfl rfl rfl (by show 0 ≤ _ ∧ _ ≤ _ ∧ (24 : Int) * _ ≤ _ ∧ _; omega) ?_
 refine zK7 [some ⟨207, zBt (zBG t p 0)⟩] rfl (fun h o' ho' => ?_) ?_
 · match h, ho' with
   | 0, ho' =>
     cases ho'
     refine ⟨_, rfl, rfl, ?_, rfl, fun i j hi hj => ?_⟩
     · show (List.replicate t.length ([] : zCF)).length = ((t.length : Nat) : Int).toNat
       rw [List.length_replicate]; omega
     · obtain rfl := Nat.lt_one_iff.1 (show j < 1 from hj)
       have e : (List.replicate t.length ([] : zCF)).getD i [] = [] := by
         simp only [List.getD, List.getElem?_replicate]
         split <;> rfl
       show AEq .nil ((zJf ((List.replicate t.length ([] : zCF)).getD i [])).getD 0 .any)
       rw [e]; exact AEq.nil
   | _ + 1, ho' => simp at ho'
 refine rn3 ?_
 refine zk (ι := Nat) (fun i => [(0, .ro (zd t) 0 t.length), (1, .int .i64 p), (5, .sl 0 0 t.length), (13, .ro (zd t) 0 t.length), (14, .int .i64 (t.length : Nat)), (15, .int .i64 (i : Nat))]) (fun i => [some ⟨207, zBt (zBG t p i)⟩])
   (fun i => i ≤ t.length) (fun i => t.length - i) 0 ⟨⟨rfl, rfl, rfl, rfl, rfl, rfl, trivial⟩, rfl, Nat.zero_le _⟩ ?_
 intro i hi
 refine rn4 ?_
 refine zF rfl (fun h => ?_) (fun h => ?_)
 · have hi' : i < t.length := by omega
   have hsn := hT.node _ (zA6 node0 hi')
   have hbh := hv.behind hi'
   have hWl := zFA t p i
   have hWs := zI3 t p i
   have hnx : zBG t p (i + 1) = zAk (zH5 p (t.getD i node0) ((zBG t p i).getD i [])) (t.getD i node0).next 0 (zBG t p i) := by rw [zBG, zFM]
   generalize hW2 : zBG t p (i + 1) = W2 at *
   generalize zBG t p i = W at *
   obtain ⟨s1, s2, s3, s4⟩ := hsn
   refine rn6 ?_
   refine zL 19 (.agg (zBY (t.getD i node0))) rfl (AEq.of_eq rfl) ?_
   generalize hn : t.getD i node0 = n at *
   have hown : own p n = (decide (n.kind = 2) && decide (n.player = p)) := rfl
   obtain ⟨kd, pl, nf, nx, od, py⟩ := n
   simp only at *
   refine zR (c' := .box [.int .i64 kd, .int .i64 pl, .int .i64 nf, .ro (.ints .i64 nx) 0 nx.length, .ro (.strs od) 0 od.length, .str py]) rfl rfl rfl rfl rfl Nat.zero_lt_one rfl rfl (fun i' j' hi' hj' => ?_) ?_
   · rw [if_pos (Nat.lt_one_iff.1 hi')]; rfl
   refine zAn [some ⟨207, zBt W⟩, some ⟨40, .box [.int .i64 kd, .int .i64 pl, .int .i64 nf, .ro (.ints .i64 nx) 0 nx.length, .ro (.strs od) 0 od.length, .str py]⟩] rfl ?_
   generalize hv : zH5 p ⟨kd, pl, nf, nx, od, py⟩ (W.getD i []) = v at *
   refine rn5 ?_
   refine zk (ι := Nat) (fun j => [(0, .ro (zd t) 0 t.length), (1, .int .i64 p), (5, .sl 0 0 t.length), (6, .int .i64 (i : Nat)), (7, .ptr 1 0 0), (13, .ro (zd t) 0 t.length), (14, .int .i64 (t.length : Nat)), (15, .int .i64 (i : Nat)), (21, .ro (.ints .i64 nx) 0 nx.length), (22, .int .i64 (nx.length : Nat)), (23, .int .i64 (j : Nat))]) (fun j => [some ⟨207, zBt (zAk v (nx.take j) 0 W)⟩, some ⟨40, .box [.int .i64 kd, .int .i64 pl, .int .i64 nf, .ro (.ints .i64 nx) 0 nx.length, .ro (.strs od) 0 od.length, .str py]⟩])
     (fun j => j ≤ nx.length) (fun j => nx.length - j) 0 ⟨⟨rfl, rfl, rfl, rfl, rfl, rfl, rfl, rfl, rfl, rfl, rfl, trivial⟩, rfl, Nat.zero_le _⟩ ?_
   intro j hj
   refine rn4 ?_
   refine zF rfl (fun h5 => ?_) (fun h5 => ?_)
   · have hj' : j < nx.length := by omega
     obtain ⟨b1, b2⟩ := hbh _ (zAl 0 hj')
     have hAl : (zAk v (nx.take j) 0 W).length = t.length := by rw [zC0]; exact hWl
     have hAi : (zAk v (nx.take j) 0 W).getD i [] = W.getD i [] := zBX v [] _ _ _ (fun c hc => by have := hbh c (List.mem_of_mem_take hc); omega)
     have hst : zAk v (nx.take (j + 1)) 0 W = (zAk v (nx.take j) 0 W).set (nx.getD j 0).toNat (v j) := by
       rw [zCi hj', zDO, List.length_take, Nat.min_eq_left hj, Nat.zero_add]
     have hw0 : (W.getD i []).length ≤ i := zJa (P := fun w : zCF => w.length ≤ i) hWs (Nat.zero_le _) i
     have hvj : v j = zH5 p ⟨kd, pl, nf, nx, od, py⟩ (W.getD i []) j := by rw [hv]
     unfold zH5 at hvj
     rw [hown] at hvj
     simp only at hvj
     generalize hA2 : zAk v (nx.take (j + 1)) 0 W = A2 at *
     generalize zAk v (nx.take j) 0 W = A at *
     generalize W.getD i [] = w0 at *
     obtain ⟨x, hx⟩ := Int.eq_ofNat_of_zero_le (show 0 ≤ nx.getD j 0 by omega)
     rw [hx] at b1 b2 hst
     rw [Int.toNat_natCast] at hst
     have hxl : x < A.length := by omega
     have gi : i < (zBt A).len := by show i < A.length; omega
     have gx : x < (zBt A).len := hxl
     have hA1i : (A.set x w0).getD i [] = w0 := by rw [Go.Ax.Dt.getD_set, if_neg (by omega)]; exact hAi
     have hA1l : (A.set x w0).length = t.length := by rw [List.length_set]; exact hAl
     have gi1 : i < (zBt (A.set x w0)).len := by show i < (A.set x w0).length; omega
     have gx1 : x < (zBt (A.set x w0)).len := by show x < (A.set x w0).length; omega
     have hw0l : w0.length ≤ 1000000 := by omega
     repeat (first | refine zB (zH rfl) ?_ | refine zB (zK rfl) ?_ | refine zB (zA8 rfl rfl rfl) ?_ | refine zC ?_ | refine zA ?_ | refine zX ?_ | refine zJ rfl ?_ | refine zAA ?_ | refine zn ?_ | refine zB (zS rfl rfl rfl rfl rfl) ?_ | refine zB (zEk rfl rfl) ?_ | refine zB (zh rfl rfl rfl rfl (by first | (simp only [Nat.zero_add, Int.toNat_natCast, Int.toNat_zero]; exact rfl) | exact rfl) (by omega)) ?_ | refine zB (zZ rfl rfl rfl rfl rfl (by first | (simp only [Nat.zero_add, Int.toNat_natCast, Int.toNat_zero]; exact rfl) | exact rfl) (by omega)) ?_ | refine zB (zEc rfl rfl rfl rfl rfl (by first | assumption | omega)) ?_ | refine zB (zO rfl rfl rfl rfl rfl rfl) ?_ | refine zAi rfl rfl rfl rfl rfl rfl rfl (by first | assumption | (show _ < List.length _; first | assumption | omega)) ?_)
     refine zL 33 (.ro (zBP w0) 0 w0.length) rfl (AEq.of_eq (by rw [← hAi]; rfl)) ?_
     refine zL 29 (.int .i64 (x : Nat)) rfl (AEq.of_eq (by rw [hx])) ?_
     refine zL 9 (.int .i64 (x : Nat)) rfl (AEq.of_eq (by rw [hx])) ?_
     have hxn : (nx.getD j 0).toNat = x := by rw [hx, Int.toNat_natCast]
     refine zA5 [some ⟨207, zBt (A.set x w0)⟩, some ⟨40, .box [.int .i64 kd, .int .i64 pl, .int .i64 nf, .ro (.ints .i64 nx) 0 nx.length, .ro (.strs od) 0 od.length, .str py]⟩] (by rw [← hxn]; exact zAL.eqv (zJ8 [] zJf A (nx.getD j 0).toNat w0 _ (by omega) (by rw [← hAi])) (zAL.refl _)) ?_
     refine zt rfl rfl (fun g1 => ?_) (fun g1 => ?_)
     · refine rn5 ?_
       refine zF rfl (fun g2 => ?_) (fun g2 => ?_)
       · rw [decide_eq_true g1, decide_eq_true g2, Bool.true_and, if_pos rfl] at hvj
         skip
         refine zl (by kernel_rfl) ?_
         apply zCN (H := [some ⟨207, zBt (A.set x w0)⟩, some ⟨40, .box [.int .i64 kd, .int .i64 pl, .int .i64 nf, .ro (.ints .i64 nx) 0 nx.length, .ro (.strs od) 0 od.length, .str py]⟩, some ⟨208, zBP w0⟩]) [(0, .ro (zd t) 0 t.length), (1, .int .i64 p), (5, .sl 0 0 t.length), (6, .int .i64 (i : Nat)), (7, .ptr 1 0 0), (13, .ro (zd t) 0 t.length), (14, .int .i64 (t.length : Nat)), (15, .int .i64 (i : Nat)), (21, .ro (.ints .i64 nx) 0 nx.length), (22, .int .i64 (nx.length : Nat)), (23, .int .i64 (j : Nat)), (44, .sl 0 0 t.length), (45, .int .i64 (x : Nat)), (50, .sl 2 0 w0.length), (55, .ro (zEh 1 2 [.int .i64 nf, .int .i64 (j : Nat)]) 0 1)]
         · intro fin2
           refine zN 0 rfl (by kernel_rfl) (by kernel_rfl) (by kernel_rfl) rfl (zH rfl) rfl ?_
           refine zN 1 rfl (by kernel_rfl) (by kernel_rfl) (by kernel_rfl) rfl (zH rfl) rfl ?_
           refine zN 2 rfl (by kernel_rfl) (by kernel_rfl) (by kernel_rfl) rfl (zH rfl) rfl ?_
           refine zN 3 rfl (by kernel_rfl) (by kernel_rfl) (by kernel_rfl) rfl (zH rfl) rfl ?_
           refine zN 7 rfl (by kernel_rfl) (by kernel_rfl) (by kernel_rfl) rfl (zO rfl rfl rfl rfl rfl rfl) rfl ?_
           refine zN 9 rfl (by kernel_rfl) (by kernel_rfl) (by kernel_rfl) rfl (zH rfl) rfl ?_
           refine zN 4 rfl (by kernel_rfl) (by kernel_rfl) (by kernel_rfl) rfl (zZ rfl rfl rfl rfl rfl (by first | (simp only [Nat.zero_add, Int.toNat_natCast, Int.toNat_zero]; exact rfl) | exact rfl) (by omega)) rfl ?_
           refine zD (is := [5, 8]) (by kernel_rfl) (by simp) rfl ⟨fun o ho => ?_, fun o ho => ?_, trivial⟩
           all_goals (cases ho)
           · repeat (first | refine zC ?_ | refine zg ?_ | refine zB (zEc rfl rfl rfl rfl rfl (by first | assumption | omega)) ?_)
             refine zBI 49 (.ro (zBP w0) 0 w0.length) rfl (AEq.of_eq (show (zJf ((A.set x w0).getD i [])).getD 0 .any = .ro (zBP w0) 0 w0.length by rw [hA1i]; rfl)) ?_
             refine zD (is := [6, 8]) (by kernel_rfl) (by simp) rfl ⟨fun o ho => ?_, fun o ho => ?_, trivial⟩
             all_goals (cases ho)
             · refine zCP rfl rfl rfl (zH2 w0 hw0l) ?_
               refine rn1 ?_
               refine zD (is := [8]) (by kernel_rfl) (by simp) rfl ⟨fun o ho => ?_, trivial⟩
               all_goals (cases ho)
               refine rn4 ?_
               refine zN 10 rfl (by kernel_rfl) (by kernel_rfl) (by kernel_rfl) rfl (zAR rfl rfl rfl rfl rfl rfl) rfl ?_
               refine zD (is := [11]) (by kernel_rfl) (by simp) rfl ⟨fun o ho => ?_, trivial⟩
               all_goals (cases ho)
               refine rn3 ?_
               exact fin2 _ ⟨rfl, rfl, rfl, rfl, rfl, rfl, rfl, rfl, rfl, rfl, rfl, rfl, rfl, rfl, rfl, trivial⟩
             · refine rn4 ?_
               refine zN 10 rfl (by kernel_rfl) (by kernel_rfl) (by kernel_rfl) rfl (zAR rfl rfl rfl rfl rfl rfl) rfl ?_
               refine zD (is := [6, 11]) (by kernel_rfl) (by simp) rfl ⟨fun o ho => ?_, fun o ho => ?_, trivial⟩
               all_goals (cases ho)
               · refine zCP rfl rfl rfl (zH2 w0 hw0l) ?_
                 refine rn1 ?_
                 refine zD (is := [11]) (by kernel_rfl) (by simp) rfl ⟨fun o ho => ?_, trivial⟩
                 all_goals (cases ho)
                 refine rn3 ?_
                 exact fin2 _ ⟨rfl, rfl, rfl, rfl, rfl, rfl, rfl, rfl, rfl, rfl, rfl, rfl, rfl, rfl, rfl, trivial⟩
               · refine rn3 ?_
                 refine zD (is := [6]) (by kernel_rfl) (by simp) rfl ⟨fun o ho => ?_, trivial⟩
                 all_goals (cases ho)
                 refine zCP rfl rfl rfl (zH2 w0 hw0l) ?_
                 refine rn1 ?_
                 exact fin2 _ ⟨rfl, rfl, rfl, rfl, rfl, rfl, rfl, rfl, rfl, rfl, rfl, rfl, rfl, rfl, rfl, trivial⟩
           · refine rn4 ?_
             refine zN 10 rfl (by kernel_rfl) (by kernel_rfl) (by kernel_rfl) rfl (zAR rfl rfl rfl rfl rfl rfl) rfl ?_
             refine zD (is := [5, 11]) (by kernel_rfl) (by simp) rfl ⟨fun o ho => ?_, fun o ho => ?_, trivial⟩
             all_goals (cases ho)
             · repeat (first | refine zC ?_ | refine zg ?_ | refine zB (zEc rfl rfl rfl rfl rfl (by first | assumption | omega)) ?_)
               refine zBI 49 (.ro (zBP w0) 0 w0.length) rfl (AEq.of_eq (show (zJf ((A.set x w0).getD i [])).getD 0 .any = .ro (zBP w0) 0 w0.length by rw [hA1i]; rfl)) ?_
               refine zD (is := [6, 11]) (by kernel_rfl) (by simp) rfl ⟨fun o ho => ?_, fun o ho => ?_, trivial⟩
               all_goals (cases ho)
               · refine zCP rfl rfl rfl (zH2 w0 hw0l) ?_
                 refine rn1 ?_
                 refine zD (is := [11]) (by kernel_rfl) (by simp) rfl ⟨fun o ho => ?_, trivial⟩
                 all_goals (cases ho)
                 refine rn3 ?_
                 exact fin2 _ ⟨rfl, rfl, rfl, rfl, rfl, rfl, rfl, rfl, rfl, rfl, rfl, rfl, rfl, rfl, rfl, trivial⟩
               · refine rn3 ?_
                 refine zD (is := [6]) (by kernel_rfl) (by simp) rfl ⟨fun o ho => ?_, trivial⟩
                 all_goals (cases ho)
                 refine zCP rfl rfl rfl (zH2 w0 hw0l) ?_
                 refine rn1 ?_
                 exact fin2 _ ⟨rfl, rfl, rfl, rfl, rfl, rfl, rfl, rfl, rfl, rfl, rfl, rfl, rfl, rfl, rfl, trivial⟩
             · refine rn3 ?_
               refine zD (is := [5]) (by kernel_rfl) (by simp) rfl ⟨fun o ho => ?_, trivial⟩
               all_goals (cases ho)
               repeat (first | refine zC ?_ | refine zg ?_ | refine zB (zEc rfl rfl rfl rfl rfl (by first | assumption | omega)) ?_)
               refine zBI 49 (.ro (zBP w0) 0 w0.length) rfl (AEq.of_eq (show (zJf ((A.set x w0).getD i [])).getD 0 .any = .ro (zBP w0) 0 w0.length by rw [hA1i]; rfl)) ?_
               refine zD (is := [6]) (by kernel_rfl) (by simp) rfl ⟨fun o ho => ?_, trivial⟩
               all_goals (cases ho)
               refine zCP rfl rfl rfl (zH2 w0 hw0l) ?_
               refine rn1 ?_
               exact fin2 _ ⟨rfl, rfl, rfl, rfl, rfl, rfl, rfl, rfl, rfl, rfl, rfl, rfl, rfl, rfl, rfl, trivial⟩
         · refine zD (is := [12]) (by kernel_rfl) (by simp) rfl ⟨fun o ho => ?_, trivial⟩
           all_goals (cases ho)
           refine zo rfl rfl rfl rfl rfl rfl rfl rfl rfl rfl rfl rfl (by show 0 + 1 ≤ 1; omega) rfl (by show (w0.length + 1) * 16 ≤ _ ∧ _; omega) ?_ (by rw [hfix]; exact fun h => h) ?_
           · intro i' j' hi' hj'
             have q := (zE1 (0, 0) 2 zGz w0 (nf, (j : Int)) (zEh 1 2 [.int .i64 nf, .int .i64 (j : Nat)]) (fun j hj => by
               match j, hj with
               | 0, _ => rfl
               | 1, _ => rfl)).2.2 i' j' hi' hj'
             refine (congrArg (AV.forget 2) q.symm).trans (Eq.trans ?_ q)
             match j', hj' with
             | 0, _ => rfl
             | 1, _ => rfl
           refine zA5 [some ⟨207, zBt (A.set x w0)⟩, some ⟨40, .box [.int .i64 kd, .int .i64 pl, .int .i64 nf, .ro (.ints .i64 nx) 0 nx.length, .ro (.strs od) 0 od.length, .str py]⟩, some ⟨208, zBP (w0 ++ [(nf, (j : Int))])⟩] ?_ ?_
           · exact zAL.eqv (zLY (A.set x w0) 2) (zAL.eqv (CEq.refl _) (zAL.eqv (zE1 (0, 0) 2 zGz w0 (nf, (j : Int)) (zEh 1 2 [.int .i64 nf, .int .i64 (j : Nat)]) (fun j hj => by
               match j, hj with
               | 0, _ => rfl
               | 1, _ => rfl)) zAL.nil))
           refine zCy 2 56 (w0.length + 1) [(0, .ro (zd t) 0 t.length), (1, .int .i64 p), (5, .sl 0 0 t.length), (6, .int .i64 (i : Nat)), (7, .ptr 1 0 0), (13, .ro (zd t) 0 t.length), (14, .int .i64 (t.length : Nat)), (15, .int .i64 (i : Nat)), (21, .ro (.ints .i64 nx) 0 nx.length), (22, .int .i64 (nx.length : Nat)), (23, .int .i64 (j : Nat)), (44, .sl 0 0 t.length), (45, .int .i64 (x : Nat))] rfl (zGr _) rfl (by show w0.length + 1 ≤ (w0 ++ [(nf, (j : Int))]).length; rw [List.length_append]; exact Nat.le_refl _) ⟨rfl, rfl, rfl, rfl, rfl, rfl, rfl, rfl, rfl, rfl, rfl, rfl, rfl, trivial⟩ ?_
           refine zAn [some ⟨207, zBt (A.set x w0)⟩, some ⟨40, .box [.int .i64 kd, .int .i64 pl, .int .i64 nf, .ro (.ints .i64 nx) 0 nx.length, .ro (.strs od) 0 od.length, .str py]⟩, none] rfl ?_
           have hl9 : (w0 ++ [(nf, (j : Int))]).length = w0.length + 1 := by rw [List.length_append]; rfl
           refine zL 56 (.ro (zBP (w0 ++ [(nf, (j : Int))])) 0 (w0 ++ [(nf, (j : Int))]).length) rfl (AEq.of_eq (by rw [hl9])) ?_
           generalize w0 ++ [(nf, (j : Int))] = w1 at *
           refine rn1 ?_
           refine zN 13 rfl (by kernel_rfl) (by kernel_rfl) (by kernel_rfl) rfl (zZ rfl rfl rfl rfl rfl (by first | (simp only [Nat.zero_add, Int.toNat_natCast, Int.toNat_zero]; exact rfl) | exact rfl) (by omega)) rfl ?_
           refine zD (is := [14]) (by kernel_rfl) (by simp) rfl ⟨fun o ho => ?_, trivial⟩
           all_goals (cases ho)
           refine zAi rfl rfl rfl rfl rfl rfl rfl gx1 ?_
           refine zA5 [some ⟨207, zBt ((A.set x w0).set x w1)⟩, some ⟨40, .box [.int .i64 kd, .int .i64 pl, .int .i64 nf, .ro (.ints .i64 nx) 0 nx.length, .ro (.strs od) 0 od.length, .str py]⟩, none] (zAL.eqv (zJ8 [] zJf (A.set x w0) x w1 _ gx1 rfl) (zAL.refl _)) ?_
           refine rn1 ?_
           refine zi (by kernel_rfl) ?_
           repeat (refine zj ?_)
           refine zA ?_
           refine zAz [some ⟨207, zBt ((A.set x w0).set x w1)⟩, some ⟨40, .box [.int .i64 kd, .int .i64 pl, .int .i64 nf, .ro (.ints .i64 nx) 0 nx.length, .ro (.strs od) 0 od.length, .str py]⟩] [none] [(0, .ro (zd t) 0 t.length), (1, .int .i64 p), (5, .sl 0 0 t.length), (6, .int .i64 (i : Nat)), (7, .ptr 1 0 0), (13, .ro (zd t) 0 t.length), (14, .int .i64 (t.length : Nat)), (15, .int .i64 (i : Nat)), (21, .ro (.ints .i64 nx) 0 nx.length), (22, .int .i64 (nx.length : Nat)), (23, .int .i64 (j : Nat))] rfl ⟨rfl, rfl, rfl, rfl, rfl, rfl, rfl, rfl, rfl, rfl, rfl, trivial⟩ (fun h hh => by rw [hfix] at hh; exact absurd hh id) (below2 (zJo _ _) (zNC _ _ _ _ _ _ _)) rfl ?_
           refine rn3 ?_
           exact zP ⟨j + 1, by omega, by omega, ⟨rfl, rfl, rfl, rfl, rfl, rfl, rfl, rfl, rfl, rfl, rfl, trivial⟩, by rw [hA2, hst, hvj, List.set_set]⟩
       · rw [decide_eq_true g1, decide_eq_false g2, if_neg (by decide)] at hvj
         refine rn5 ?_
         exact zP ⟨j + 1, by omega, by omega, ⟨rfl, rfl, rfl, rfl, rfl, rfl, rfl, rfl, rfl, rfl, rfl, trivial⟩, by rw [hA2, hst, hvj]⟩
     · rw [decide_eq_false g1, Bool.false_and, if_neg (by decide)] at hvj
       refine rn6 ?_
       exact zP ⟨j + 1, by omega, by omega, ⟨rfl, rfl, rfl, rfl, rfl, rfl, rfl, rfl, rfl, rfl, rfl, trivial⟩, by rw [hA2, hst, hvj]⟩
   · have hje : j = nx.length := by omega
     subst hje
     rw [List.take_length, ← hnx]
     repeat (first | refine zj ?_ | refine zA3 ?_ | refine z8 ?_ | refine z7 ?_ | refine zAS ?_)
     refine zA ?_
     refine zAz [some ⟨207, zBt W2⟩] [some ⟨40, .box [.int .i64 kd, .int .i64 pl, .int .i64 nf, .ro (.ints .i64 nx) 0 nx.length, .ro (.strs od) 0 od.length, .str py]⟩] [(0, .ro (zd t) 0 t.length), (1, .int .i64 p), (5, .sl 0 0 t.length), (13, .ro (zd t) 0 t.length), (14, .int .i64 (t.length : Nat)), (15, .int .i64 (i : Nat))] rfl ⟨rfl, rfl, rfl, rfl, rfl, rfl, trivial⟩ (fun h hh => by rw [hfix] at hh; exact absurd hh id) (zDN (zJo _ _)) rfl ?_
     refine rn3 ?_
     exact zP ⟨i + 1, by omega, by omega, ⟨rfl, rfl, rfl, rfl, rfl, rfl, trivial⟩, by rw [hW2]⟩
 · have hie : i = t.length := by omega
   subst hie
   repeat (first | refine zA ?_ | refine zX ?_ | refine zA3 ?_ | refine z8 ?_ | refine z7 ?_ | refine zAS ?_)
   refine zBE 0 5 t.length [] rfl (zKw _) rfl (by show t.length ≤ (zBG t p t.length).length; rw [zFA]; exact Nat.le_refl _) trivial ?_
   refine rn0 ?_
   exact zI hR rfl rfl
end Go.Proofs.YtnkealfaldjipaaGreatDoor
