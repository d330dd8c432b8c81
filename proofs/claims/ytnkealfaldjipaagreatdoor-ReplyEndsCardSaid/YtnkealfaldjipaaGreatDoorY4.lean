import Derived.Test.YtnkealfaldjipaaGreatDoorY3
set_option linter.unusedVariables false
set_option linter.unusedSimpArgs false
namespace Go.Ax.Rt
open Go.Ax.Bg
abbrev zAG := List UInt8
def zIi (v : List zAG) : Int := if 40 < v.length then 2 else zDv v
def rowsE (w : Nat) : List (List zAG) → Int
 | [] => 0
 | r :: rs => if r.length = w then (if zIi r = 0 then rowsE w rs else zIi r) else 3
def zDq (m : List (List zAG)) : Nat := (m.getD 0 []).length
/-- matrix.Check -/
def zHT (m : List (List zAG)) : Int := if 40 < m.length then 2 else rowsE (zDq m) m
def inM (m : List (List zAG)) : List (List Rat) := m.map (fun r => r.map zAU)
def outM (q : List (List Rat)) : List (List zAG) × Int := if q.all (fun r => r.all zBp) then (q.map (fun r => r.map zAK), 0) else ([], 2)
def dotR (a b : List zAG) : zAG × Int := if zIi a ≠ 0 then ([], zIi a) else if zIi b ≠ 0 then ([], zIi b) else if a.length = b.length then zEK (dotQ (a.map zAU) (b.map zAU)) else ([], 3)
def applyR (m : List (List zAG)) (v : List zAG) : List zAG × Int := if zHT m ≠ 0 then ([], zHT m) else if zIi v ≠ 0 then ([], zIi v) else if m ≠ [] ∧ zDq m ≠ v.length then ([], 3) else zA2 (applyQ (inM m) (v.map zAU))
def mulR (a b : List (List zAG)) : List (List zAG) × Int := if zHT a ≠ 0 then ([], zHT a) else if zHT b ≠ 0 then ([], zHT b) else if zDq a = b.length then outM (mulQ (inM a) (inM b) (zDq b)) else ([], 3)
def transT (m : List (List zAG)) : List (List zAG) := (List.range (zDq m)).map (fun k => m.map (fun r => r.getD k []))
def transR (m : List (List zAG)) : List (List zAG) × Int := if zHT m ≠ 0 then ([], zHT m) else (transT m, 0)
/-- A valid matrix of so many rows and columns. -/
structure IsM (m : List (List zAG)) (p q : Nat) : Prop where
 rows : m.length = p
 cols : ∀ r ∈ m, r.length = q
 sp : p ≤ 40
 sq : m ≠ [] → q ≤ 40
 ok : ∀ r ∈ m, ∀ s ∈ r, zCq s = 0
theorem IsM.wid {m : List (List zAG)} {p q : Nat} (h : IsM m p q) (hne : m ≠ []) : zDq m = q := by
 obtain ⟨a, m', rfl⟩ := List.exists_cons_of_ne_nil hne
 exact h.cols a (by simp)
/-- Short texts. -/
def tiny (n k : Nat) (m : List (List zAG)) : Bool := decide (m.length ≤ n) && m.all (fun v => decide (v.length ≤ n) && v.all (fun s => decide (s.length ≤ k)))
end Go.Ax.Rt
namespace Go.Ax.Rt
open Go.Ax.Bg
/-- The product of short valid matrices. -/
structure Prod (a b : List (List zAG)) (t : List (List zAG)) (p q r K : Nat) : Prop where
 res : mulR a b = (t, 0)
 ok : IsM t p r
 val : inM t = mulQ (inM a) (inM b) r
 dig : ∀ x ∈ inM t, ∀ y ∈ x, D K y
end Go.Ax.Rt
namespace Go.Ax.Dt
def zCG (f : Nat → Int) : Nat → Int
 | 0 => 0
 | n + 1 => zCG f n + f n
theorem zBK {f g : Nat → Int} : ∀ {n : Nat}, (∀ i, i < n → f i = g i) → zCG f n = zCG g n
 | 0, _ => rfl
 | n + 1, h => by rw [zCG, zCG, zBK (fun i hi => h i (by omega)), h n (by omega)]
theorem zKd {f : Nat → Int} : ∀ {n : Nat}, (∀ i, i < n → f i = 0) → zCG f n = 0
 | 0, _ => rfl
 | n + 1, h => by rw [zCG, zKd (fun i hi => h i (by omega)), h n (by omega)]; rfl
theorem zDb (f g : Nat → Int) : ∀ n, zCG (fun i => f i + g i) n = zCG f n + zCG g n
 | 0 => rfl
 | n + 1 => by rw [zCG, zCG, zCG, zDb f g n]; omega
theorem zF6 (c : Int) (f : Nat → Int) : ∀ n, zCG (fun i => c * f i) n = c * zCG f n
 | 0 => by rw [zCG, zCG, Int.mul_zero]
 | n + 1 => by rw [zCG, zCG, zF6 c f n, Int.mul_add]
theorem zDc {f : Nat → Int} {n : Nat} (k : Nat) (hk : k < n) (h : ∀ i, i < n → i ≠ k → f i = 0) : zCG f n = f k := by
 induction n with
 | zero => omega
 | succ n ih =>
   rw [zCG]
   by_cases hkn : k = n
   · subst hkn
     rw [zKd (fun i hi => h i (by omega) (by omega))]; omega
   · rw [ih (by omega) (fun i hi hne => h i (by omega) hne), h n (by omega) (fun e => hkn e.symm)]; omega
theorem sumZ_two {f : Nat → Int} {n : Nat} (k l : Nat) (hk : k < n) (hl : l < n) (hkl : k ≠ l) (h : ∀ i, i < n → i ≠ k → i ≠ l → f i = 0) : zCG f n = f k + f l := by
 have e : zCG f n = zCG (fun i => (if i = k then f k else 0) + (if i = k then 0 else f i)) n := by
   refine zBK (fun i hi => ?_)
   by_cases hik : i = k
   · subst hik; simp
   · simp [hik]
 rw [e, zDb]
 rw [zDc k hk (fun i hi hne => by simp [hne]), zDc l hl (fun i hi hne => by
   by_cases hik : i = k
   · simp [hik]
   · simp [hik]; exact h i hi hik hne)]
 have : ¬ l = k := fun e => hkl e.symm
 simp [this]
abbrev V := Nat → Int
abbrev Mx := Nat → V
def sg : Nat → Int
 | 0 => 1
 | n + 1 => -sg n
def skip (i : Nat) (D : Mx) : Mx := fun a c => D (if a < i then a else a + 1) (c + 1)
def det : Nat → Mx → Int
 | 0, _ => 1
 | n + 1, D => zCG (fun i => sg i * (D i 0 * det n (skip i D))) (n + 1)
def put (D : Mx) (r : Nat) (v : V) : Mx := fun a => if a = r then v else D a
theorem zGi : ∀ {n : Nat} {D E : Mx}, (∀ a c, a < n → c < n → D a c = E a c) → det n D = det n E
 | 0, _, _, _ => rfl
 | n + 1, D, E, h => by
   rw [det, det]
   refine zBK (fun i hi => ?_)
   rw [h i 0 hi (by omega), zGi (D := skip i D) (E := skip i E) (fun a c ha hc => ?_)]
   unfold skip
   exact h _ _ (by split <;> omega) (by omega)
theorem zCc (D : Mx) (r : Nat) (v : V) : skip r (put D r v) = skip r D := by
 funext a c
 unfold skip put
 have : ¬ (if a < r then a else a + 1) = r := by split <;> omega
 rw [if_neg this]
theorem zF2 {D : Mx} {i r : Nat} {v : V} (h : i ≠ r) : skip i (put D r v) = put (skip i D) (if r < i then r else r - 1) (fun c => v (c + 1)) := by
 funext a c
 unfold skip put
 by_cases hri : r < i
 · rw [if_pos hri]
   by_cases ha : a = r
   · subst ha; rw [if_pos hri]; simp
   · by_cases hai : a < i
     · simp [hai, ha]
     · have : ¬ a + 1 = r := by omega
       simp [hai, ha, this]
 · rw [if_neg hri]
   by_cases ha : a = r - 1
   · subst ha
     have h1 : ¬ r - 1 < i := by omega
     have h2 : r - 1 + 1 = r := by omega
     simp [h1, h2]
   · by_cases hai : a < i
     · have : ¬ a = r := by omega
       simp [hai, ha, this]
     · have : ¬ a + 1 = r := by omega
       simp [hai, ha, this]
/-- The determinant is linear in each row. -/
theorem zGZ : ∀ (n : Nat) (D : Mx) (r : Nat) (u v : V), r < n → det n (put D r (fun c => u c + v c)) = det n (put D r u) + det n (put D r v)
 | 0, _, _, _, _, h => absurd h (Nat.not_lt_zero _)
 | n + 1, D, r, u, v, h => by
   rw [det, det, det, ← zDb]
   refine zBK (fun i hi => ?_)
   by_cases hir : i = r
   · subst hir
     rw [zCc, zCc, zCc]
     have e : ∀ w : V, put D i w i 0 = w 0 := fun w => by simp [put]
     rw [e, e, e, Int.add_mul, Int.mul_add]
   · have e : ∀ w : V, put D r w i 0 = D i 0 := fun w => by simp [put, hir]
     rw [zF2 hir, zF2 hir, zF2 hir, e, e, e, zGZ n _ _ _ _ (by split <;> omega), Int.mul_add, Int.mul_add]
theorem zFy : ∀ (n : Nat) (D : Mx) (r : Nat) (k : Int) (v : V), r < n → det n (put D r (fun c => k * v c)) = k * det n (put D r v)
 | 0, _, _, _, _, h => absurd h (Nat.not_lt_zero _)
 | n + 1, D, r, k, v, h => by
   rw [det, det, ← zF6]
   refine zBK (fun i hi => ?_)
   by_cases hir : i = r
   · subst hir
     rw [zCc, zCc]
     have e : ∀ w : V, put D i w i 0 = w 0 := fun w => by simp [put]
     rw [e, e, Int.mul_left_comm k, Int.mul_assoc]
   · have e : ∀ w : V, put D r w i 0 = D i 0 := fun w => by simp [put, hir]
     rw [zF2 hir, zF2 hir, e, e, zFy n _ _ _ _ (by split <;> omega), Int.mul_left_comm k, Int.mul_left_comm k]
theorem zLb (n : Nat) (D : Mx) (r : Nat) (h : r < n) : det n (put D r (fun _ => 0)) = 0 := by
 have := zFy n D r 0 (fun _ => 0) h
 simpa using this
/-- Two rows beside each other that are equal. -/
theorem zLQ : ∀ (n : Nat) (D : Mx) (r : Nat), r + 1 < n → (∀ c, c < n → D r c = D (r + 1) c) → det n D = 0
 | 0, _, _, h, _ => absurd h (Nat.not_lt_zero _)
 | n + 1, D, r, h, he => by
   rw [det, sumZ_two r (r + 1) (by omega) h (by omega) (fun i hi h1 h2 => ?_)]
   · have e : det n (skip r D) = det n (skip (r + 1) D) := zGi (fun a c ha hc => by
       unfold skip
       by_cases h1 : a < r
       · rw [if_pos h1, if_pos (by omega)]
       · rw [if_neg h1]
         by_cases h2 : a < r + 1
         · have : a = r := by omega
           subst this
           rw [if_pos h2]; exact (he _ (by omega)).symm
         · rw [if_neg h2])
     rw [e, he 0 (by omega), sg, Int.neg_mul]
     omega
   · have := zLQ n (skip i D) (if r < i then r else r - 1) (by split <;> omega) (fun c hc => by
       unfold skip
       by_cases hri : r < i
       · rw [if_pos hri, if_pos (show r < i from hri), if_pos (show r + 1 < i by omega)]
         exact he _ (by omega)
       · have e1 : ¬ r - 1 < i := by omega
         have e2 : ¬ r - 1 + 1 < i := by omega
         rw [if_neg hri, if_neg e1, if_neg e2, show r - 1 + 1 = r by omega]
         exact he _ (by omega))
     rw [this, Int.mul_zero, Int.mul_zero]
theorem zEY (D : Mx) {r s : Nat} (u v : V) (h : r ≠ s) : put (put D r u) s v = put (put D s v) r u := by
 funext a
 unfold put
 by_cases h1 : a = s
 · have : ¬ a = r := fun e => h (e.symm.trans h1)
   simp [h1]
   intro e; exact absurd e.symm h
 · simp [h1]
theorem zGL (D : Mx) (r : Nat) : put D r (D r) = D := by
 funext a; unfold put; split
 · rename_i h; rw [h]
 · rfl
/-- Exchange of two rows beside each other. -/
theorem det_swap (n : Nat) (D : Mx) (r : Nat) (u v : V) (h : r + 1 < n) : det n (put (put D r u) (r + 1) v) = - det n (put (put D r v) (r + 1) u) := by
 have key : ∀ w : V, det n (put (put D r w) (r + 1) w) = 0 := fun w => zLQ n _ r h (fun c _ => by unfold put; simp)
 have h0 := key (fun c => u c + v c)
 have add0 : ∀ w : V, det n (put (put D r (fun c => u c + v c)) (r + 1) w) = det n (put (put D r u) (r + 1) w) + det n (put (put D r v) (r + 1) w) := fun w => by
   rw [zEY D _ w (by omega), zGZ n _ _ _ _ (by omega), zEY D u w (by omega), zEY D v w (by omega)]
 rw [zGZ n _ _ _ _ h, add0, add0] at h0
 have h1 := key u
 have h2 := key v
 omega
theorem zNQ : ∀ (k : Nat) (n : Nat) (D : Mx) (r : Nat), r + (k + 1) < n → (∀ c, c < n → D r c = D (r + (k + 1)) c) → det n D = 0
 | 0, n, D, r, h, he => zLQ n D r h he
 | k + 1, n, D, r, h, he => by
   have e : D = put (put D (r + (k + 1)) (D (r + (k + 1)))) (r + (k + 1) + 1) (D (r + (k + 1) + 1)) := by
     rw [zGL, zGL]
   rw [e, det_swap n D (r + (k + 1)) _ _ (by omega), zNQ k n _ r (by omega) (fun c hc => ?_)]
   · rfl
   · have h1 : ¬ r = r + (k + 1) + 1 := by omega
     have h2 : ¬ r = r + (k + 1) := by omega
     have h3 : ¬ r + (k + 1) = r + (k + 1) + 1 := by omega
     unfold put
     rw [if_neg h1, if_neg h2, if_neg h3, if_pos rfl]
     exact he c hc
theorem zOd (n : Nat) (D : Mx) {r s : Nat} (hr : r < n) (hs : s < n) (hne : r ≠ s) : det n (put D r (D s)) = 0 := by
 rcases Nat.lt_or_gt_of_ne hne with h | h
 · refine zNQ (s - r - 1) n _ r (by omega) (fun c _ => ?_)
   rw [show r + (s - r - 1 + 1) = s by omega]
   have : ¬ s = r := fun e => hne e.symm
   simp [put, this]
 · refine zNQ (r - s - 1) n _ s (by omega) (fun c _ => ?_)
   rw [show s + (r - s - 1 + 1) = r by omega]
   have : ¬ s = r := fun e => hne e.symm
   simp [put, this]
/-- A row that is a sum of multiples of the rows. -/
theorem zL6 (n : Nat) (D : Mx) (r : Nat) (hr : r < n) (t : V) : ∀ k, k ≤ n → det n (put D r (fun c => zCG (fun i => t i * D i c) k)) = if r < k then t r * det n D else 0
 | 0, _ => by
   rw [if_neg (Nat.not_lt_zero _)]
   exact zLb n D r hr
 | k + 1, hk => by
   have ih := zL6 n D r hr t k (by omega)
   have e : (fun c => zCG (fun i => t i * D i c) (k + 1)) = (fun c => (fun c => zCG (fun i => t i * D i c) k) c + (fun c => t k * D k c) c) := rfl
   rw [e, zGZ n D r _ _ hr, ih, zFy n D r _ _ hr]
   by_cases hkr : k = r
   · subst hkr
     rw [if_neg (by omega), if_pos (by omega), zGL]; omega
   · rw [zOd n D hr (by omega) (fun e => hkr e.symm), Int.mul_zero, Int.add_zero]
     by_cases h1 : r < k
     · rw [if_pos h1, if_pos (by omega)]
     · rw [if_neg h1, if_neg (by omega)]
theorem zHU {n : Nat} {D : Mx} {r : Nat} (hr : r < n) {t w : V} (h : ∀ c, c < n → w c = zCG (fun i => t i * D i c) n) : det n (put D r w) = t r * det n D := by
 have := zL6 n D r hr t n (Nat.le_refl _)
 rw [if_pos hr] at this
 rw [← this]
 refine zGi (fun a c _ hc => ?_)
 unfold put
 split
 · exact h c hc
 · rfl
def zGu : Mx := fun a c => if a = c then 1 else 0
theorem zMA : ∀ n : Nat, det n zGu = 1
 | 0 => rfl
 | n + 1 => by
   rw [det, zDc 0 (by omega) (fun i hi hne => by simp [zGu, hne])]
   have : det n (skip 0 zGu) = det n zGu := zGi (fun a c _ _ => by simp [skip, zGu])
   rw [this, zMA n]; simp [sg, zGu]
def fct : Nat → Nat
 | 0 => 1
 | n + 1 => (n + 1) * fct n
/-- A column of the table, and the column of the beginning that it stands for. -/
def Sol (n : Nat) (D : Mx) (d : Int) (t0 t : V) : Prop := ∀ c, c < n → zCG (fun i => t i * D i c) n = d * t0 c
theorem sol_det {n : Nat} {D : Mx} {d s : Int} {t0 t : V} (hd : d ≠ 0) (hs : s * s = 1) (hD : det n D = s * d) (h : Sol n D d t0 t) {i : Nat} (hi : i < n) : t i = s * det n (put D i t0) := by
 have h1 := zHU (w := fun c => d * t0 c) hi (fun c hc => (h c hc).symm)
 rw [zFy n D i d t0 hi, hD] at h1
 have h2 : d * det n (put D i t0) = d * (s * t i) := by rw [h1, Int.mul_left_comm, Int.mul_comm (t i) d, Int.mul_left_comm]
 have h3 := Int.eq_of_mul_eq_mul_left hd h2
 rw [h3, ← Int.mul_assoc, hs, Int.one_mul]
/-- The pivot: the determinant of the new rows, and exact quotients. -/
theorem zKj {n : Nat} {D : Mx} {d s : Int} {t0 t : V} (hd : d ≠ 0) (hs : s * s = 1) (hD : det n D = s * d) (h : Sol n D d t0 t) {r : Nat} (hr : r < n) : det n (put D r t0) = s * t r := by
 rw [sol_det hd hs hD h hr, ← Int.mul_assoc, hs, Int.one_mul]
theorem sumZ_put {n : Nat} {D : Mx} {r : Nat} (hr : r < n) (v : V) (t : V) (c : Nat) : zCG (fun i => t i * put D r v i c) n = zCG (fun i => t i * D i c) n - t r * D r c + t r * v c := by
 have e : ∀ i, i < n → t i * put D r v i c = t i * D i c + (if i = r then t r * v c - t r * D r c else 0) := by
   intro i hi
   by_cases hir : i = r
   · subst hir; simp [put]; omega
   · simp [put, hir]
 rw [zBK e, zDb, zDc (f := fun i => if i = r then t r * v c - t r * D r c else 0) r hr (fun i hi hne => by simp [hne])]
 simp; omega
theorem zKc {n : Nat} {D : Mx} {d s : Int} {tc0 tc tj0 tj : V} (hd : d ≠ 0) (hs : s * s = 1) (hD : det n D = s * d) (hc : Sol n D d tc0 tc) (hj : Sol n D d tj0 tj) {r : Nat} (hr : r < n) (hp : tc r ≠ 0) :
   (∀ i, i < n → i ≠ r → d ∣ tj i * tc r - tc i * tj r) ∧ Sol n (put D r tc0) (tc r) tj0 (fun i => if i = r then tj r else (tj i * tc r - tc i * tj r) / d) := by
 have hD' := zKj hd hs hD hc hr
 -- the numerators are a solution of d times the new equation
 let N : V := fun i => if i = r then d * tj r else tj i * tc r - tc i * tj r
 have hN : ∀ c, c < n → zCG (fun i => N i * put D r tc0 i c) n = d * tc r * tj0 c := by
   intro c hcn
   rw [sumZ_put hr]
   have e : ∀ i, i < n → N i * D i c = (tc r * (tj i * D i c) + (-(tj r)) * (tc i * D i c)) + (if i = r then d * tj r * D r c else 0) := by
     intro i hi
     by_cases hir : i = r
     · subst hir
       simp only [N, if_true]
       have : tc i * (tj i * D i c) + -tj i * (tc i * D i c) = 0 := by
         rw [Int.neg_mul, Int.mul_left_comm]; omega
       omega
     · simp only [N, hir, if_false, Int.add_zero]
       rw [Int.sub_mul, Int.neg_mul, Int.mul_comm (tj i) (tc r), Int.mul_assoc, Int.mul_comm (tc i) (tj r), Int.mul_assoc]; omega
   rw [zBK e, zDb, zDb, zF6, zF6, hj c hcn, hc c hcn, zDc (f := fun i => if i = r then d * tj r * D r c else 0) r hr (fun i hi hne => by simp [hne])]
   simp only [N, if_true]
   have e1 : tc r * (d * tj0 c) = d * tc r * tj0 c := by rw [← Int.mul_assoc, Int.mul_comm (tc r) d]
   have e2 : -tj r * (d * tc0 c) = -(d * tj r * tc0 c) := by rw [Int.neg_mul, ← Int.mul_assoc, Int.mul_comm (tj r) d]
   rw [e1, e2]; omega
 have hex : ∀ i, i < n → N i = d * (s * det n (put (put D r tc0) i tj0)) := by
   intro i hi
   have h1 := zHU (D := put D r tc0) (w := fun c => d * tc r * tj0 c) hi (fun c hcn => (hN c hcn).symm)
   rw [zFy n _ i (d * tc r) tj0 hi, hD'] at h1
   have h2 : tc r * (d * (s * det n (put (put D r tc0) i tj0))) = tc r * N i := by
     have h3 : s * (d * tc r * det n (put (put D r tc0) i tj0)) = s * (N i * (s * tc r)) := by rw [h1]
     have h4 : s * (N i * (s * tc r)) = tc r * N i := by
       rw [Int.mul_left_comm, ← Int.mul_assoc s s, hs, Int.one_mul, Int.mul_comm]
     rw [h4] at h3
     rw [← h3]
     rw [Int.mul_assoc d, Int.mul_left_comm s d, Int.mul_left_comm s (tc r), Int.mul_left_comm d (tc r)]
   exact (Int.eq_of_mul_eq_mul_left hp h2).symm
 refine ⟨fun i hi hne => ?_, ?_⟩
 · have := hex i hi
   simp only [N, hne, if_false] at this
   exact ⟨_, this⟩
 · intro c hcn
   have h1 := hN c hcn
   have h2 : ∀ i, i < n → N i * put D r tc0 i c = d * ((fun i => if i = r then tj r else (tj i * tc r - tc i * tj r) / d) i * put D r tc0 i c) := by
     intro i hi
     by_cases hir : i = r
     · subst hir; simp only [N, if_true]; rw [Int.mul_assoc]
     · have h3 := hex i hi
       simp only [N, hir, if_false] at h3 ⊢
       have h4 : (tj i * tc r - tc i * tj r) / d = s * det n (put (put D r tc0) i tj0) := by rw [h3, Int.mul_ediv_cancel_left _ hd]
       rw [h4, ← Int.mul_assoc, ← h3]
   rw [zBK h2, zF6, Int.mul_assoc d] at h1
   exact Int.eq_of_mul_eq_mul_left hd h1
end Go.Ax.Dt
namespace Go.Ax.Dt
/-- The quotient of the absolute values, with the sign of the quotient. -/
def zJR (x d : Int) : Int := if (decide (x < 0) != decide (d < 0)) = true then -((x.natAbs / d.natAbs : Nat) : Int) else ((x.natAbs / d.natAbs : Nat) : Int)
theorem zPU {q d : Int} (hd : d ≠ 0) : zJR (d * q) d = q := by
 have hn : (d * q).natAbs / d.natAbs = q.natAbs := by rw [Int.natAbs_mul, Nat.mul_div_cancel_left _ (by omega)]
 unfold zJR
 rw [hn]
 rcases Int.lt_trichotomy q 0 with hq | hq | hq
 · rcases Int.lt_or_gt_of_ne hd with h | h
   · have h1 : ¬ d * q < 0 := Int.not_lt.2 (Int.le_of_lt (Int.mul_pos_of_neg_of_neg h hq))
     simp [h, h1]; omega
   · have h1 : d * q < 0 := Int.mul_neg_of_pos_of_neg h hq
     have h2 : ¬ d < 0 := by omega
     simp [h1, h2]; omega
 · subst hq; simp
 · rcases Int.lt_or_gt_of_ne hd with h | h
   · have h1 : d * q < 0 := Int.mul_neg_of_neg_of_pos h hq
     simp [h, h1]; omega
   · have h1 : ¬ d * q < 0 := Int.not_lt.2 (Int.le_of_lt (Int.mul_pos h hq))
     have h2 : ¬ d < 0 := by omega
     simp [h1, h2]; omega
theorem zPh {x d : Int} (hd : d ≠ 0) (h : d ∣ x) : zJR x d = x / d := by
 obtain ⟨q, rfl⟩ := h
 rw [zPU hd, Int.mul_ediv_cancel_left _ hd]
abbrev Tab := List (List Int)
def at2 (T : Tab) (i j : Nat) : Int := (T.getD i []).getD j 0
/-- The first row at or behind i that has no 0 in a column. -/
def zFJ (T : Tab) (c : Nat) : Nat → Nat → Nat
 | 0, i => i
 | f + 1, i => if at2 T i c = 0 then zFJ T c f (i + 1) else i
theorem zH1 (T : Tab) (c : Nat) : ∀ f i, i ≤ zFJ T c f i ∧ zFJ T c f i ≤ i + f ∧ (∀ a, i ≤ a → a < zFJ T c f i → at2 T a c = 0) ∧ (zFJ T c f i < i + f → at2 T (zFJ T c f i) c ≠ 0)
 | 0, i => ⟨Nat.le_refl _, Nat.le_refl _, fun a h1 h2 => absurd h2 (by rw [zFJ]; omega), fun h => absurd h (by rw [zFJ]; omega)⟩
 | f + 1, i => by
   rw [zFJ]
   by_cases h : at2 T i c = 0
   · rw [if_pos h]
     obtain ⟨h1, h2, h3, h4⟩ := zH1 T c f (i + 1)
     refine ⟨by omega, by omega, fun a ha hb => ?_, fun hb => h4 (by omega)⟩
     by_cases e : a = i
     · rw [e]; exact h
     · exact h3 a (by omega) hb
   · rw [if_neg h]
     exact ⟨Nat.le_refl _, by omega, fun a h1 h2 => absurd h2 (by omega), fun _ => h⟩
def zBA (T : Tab) (i k : Nat) : Tab := (T.set i (T.getD k [])).set k (T.getD i [])
def swp (i k a : Nat) : Nat := if a = k then i else if a = i then k else a
def zHW (R K : List Int) (p f d : Int) : List Int := (List.range R.length).map (fun j => zJR (R.getD j 0 * p - f * K.getD j 0) d)
def zC9 (T : Tab) (k c : Nat) (d : Int) : Tab := (List.range T.length).map (fun i => if i = k then T.getD k [] else zHW (T.getD i []) (T.getD k []) (at2 T k c) (at2 T i c) d)
structure Red where
 T : Tab
 piv : List Nat
 last : Int
 neg : Bool
def zH2 (r : Red) (c : Nat) : Red :=
 if r.T.length ≤ r.piv.length then r
 else if zFJ r.T c (r.T.length - r.piv.length) r.piv.length = r.T.length then r
 else ⟨zC9 (zBA r.T (zFJ r.T c (r.T.length - r.piv.length) r.piv.length) r.piv.length) r.piv.length c r.last, r.piv ++ [c], at2 (zBA r.T (zFJ r.T c (r.T.length - r.piv.length) r.piv.length) r.piv.length) r.piv.length c, if zFJ r.T c (r.T.length - r.piv.length) r.piv.length = r.piv.length then r.neg else !r.neg⟩
def redN (M : Tab) : Nat → Red
 | 0 => ⟨M, [], 1, false⟩
 | c + 1 => zH2 (redN M c) c
theorem getD_set {α : Type} (l : List α) (d x : α) (i j : Nat) : (l.set i x).getD j d = if j = i ∧ i < l.length then x else l.getD j d := by
 by_cases h : j = i
 · subst h
   by_cases h2 : j < l.length
   · simp [List.getD, h2]
   · have : l.length ≤ j := by omega
     simp [List.getD, h2, this]
 · have : ¬ i = j := fun e => h e.symm
   simp [List.getD, h, List.getElem?_set, this]
theorem zFK (T : Tab) (i k : Nat) : (zBA T i k).length = T.length := by simp [zBA]
theorem zIC (T : Tab) {i k : Nat} (hi : i < T.length) (hk : k < T.length) (a : Nat) : (zBA T i k).getD a [] = T.getD (swp i k a) [] := by
 unfold zBA swp
 rw [getD_set, List.length_set, getD_set]
 by_cases h1 : a = k
 · simp [h1, hk]
 · by_cases h2 : a = i
   · have h3 : ¬ i = k := fun e => h1 (h2.trans e)
     simp [h1, h2, hi, h3]
   · simp [h1, h2]
theorem zM7 (T : Tab) {k : Nat} (hk : k < T.length) : zBA T k k = T := by
 refine List.ext_getElem (zFK _ _ _) (fun a h1 h2 => ?_)
 have := zIC T hk hk a
 have e : swp k k a = a := by unfold swp; split <;> simp_all
 rw [e] at this
 simpa [List.getD, h1, h2] using this
theorem zET (T : Tab) {i k : Nat} (hi : i < T.length) (hk : k < T.length) (a j : Nat) : at2 (zBA T i k) a j = at2 T (swp i k a) j := by
 unfold at2; rw [zIC T hi hk]
theorem zPQ (T : Tab) (k c : Nat) (d : Int) : (zC9 T k c d).length = T.length := by simp [zC9]
theorem zPF (T : Tab) (k c : Nat) (d : Int) {i : Nat} (hi : i < T.length) : (zC9 T k c d).getD i [] = if i = k then T.getD k [] else zHW (T.getD i []) (T.getD k []) (at2 T k c) (at2 T i c) d := by
 unfold zC9
 simp [List.getD, hi]
theorem zJN (T : Tab) (k c : Nat) (d : Int) {L : Nat} (hT : ∀ x ∈ T, x.length = L) {i j : Nat} (hi : i < T.length) (hj : j < L) : at2 (zC9 T k c d) i j = if i = k then at2 T k j else zJR (at2 T i j * at2 T k c - at2 T i c * at2 T k j) d := by
 unfold at2
 rw [zPF T k c d hi]
 have hl : (T.getD i []).length = L := hT _ (by simp [List.getD, hi])
 by_cases h : i = k
 · rw [if_pos h, if_pos h]
 · rw [if_neg h, if_neg h]
   unfold zHW
   rw [hl]
   have : ∀ f : Nat → Int, ((List.range L).map f).getD j 0 = f j := fun f => by simp [List.getD, hj]
   rw [this]; rfl
theorem zLw (R K : List Int) (p f d : Int) : (zHW R K p f d).length = R.length := by simp [zHW]
theorem zPg (T : Tab) (k c : Nat) (d : Int) {L : Nat} (hk : k < T.length) (hT : ∀ x ∈ T, x.length = L) : ∀ x ∈ zC9 T k c d, x.length = L := by
 intro x hx
 obtain ⟨i, hi, rfl⟩ := List.mem_map.1 hx
 have hi : i < T.length := by simpa using hi
 split
 · exact hT _ (by simp [List.getD, hk])
 · rw [zLw]; exact hT _ (by simp [List.getD, hi])
theorem zPt (T : Tab) {i k : Nat} (hi : i < T.length) (hk : k < T.length) {L : Nat} (hT : ∀ x ∈ T, x.length = L) : ∀ x ∈ zBA T i k, x.length = L := by
 intro x hx
 obtain ⟨a, ha, rfl⟩ := List.getElem_of_mem hx
 have h1 := zIC T hi hk a
 have h2 : swp i k a < T.length := by rw [zFK] at ha; unfold swp; split; exact hi; split; exact hk; exact ha
 have h3 : (zBA T i k).getD a [] = (zBA T i k)[a] := by simp [List.getD, ha]
 rw [h3] at h1
 rw [h1]; exact hT _ (by simp [List.getD, h2])
/-- Exchange of two rows. -/
theorem det_exch (n : Nat) (D : Mx) {r s : Nat} (hr : r < n) (hs : s < n) (hne : r ≠ s) (u v : V) : det n (put (put D r u) s v) = - det n (put (put D r v) s u) := by
 have key : ∀ w : V, det n (put (put D r w) s w) = 0 := fun w => by
   have := zOd n (put D s w) hr hs hne
   rw [show put D s w s = w by simp [put]] at this
   rwa [zEY D w w hne]
 have h0 := key (fun c => u c + v c)
 have add0 : ∀ w : V, det n (put (put D r (fun c => u c + v c)) s w) = det n (put (put D r u) s w) + det n (put (put D r v) s w) := fun w => by
   rw [zEY D _ w hne, zGZ n _ _ _ _ hr, zEY D u w hne, zEY D v w hne]
 rw [zGZ n _ _ _ _ hs, add0, add0] at h0
 have h1 := key u
 have h2 := key v
 omega
theorem det_swp (n : Nat) (D : Mx) {i k : Nat} (hi : i < n) (hk : k < n) (hne : i ≠ k) : det n (fun a => D (swp i k a)) = - det n D := by
 have e1 : (fun a => D (swp i k a)) = put (put D i (D k)) k (D i) := by
   funext a
   unfold put swp
   by_cases h1 : a = k
   · rw [if_pos h1, if_pos h1]
   · by_cases h2 : a = i
     · rw [if_neg h1, if_pos h2, if_neg h1, if_pos h2]
     · rw [if_neg h1, if_neg h2, if_neg h1, if_neg h2]
 rw [e1, det_exch n D hi hk hne, zGL, zGL]
theorem sumZ_swp (f : Nat → Int) (n : Nat) {i k : Nat} (hi : i < n) (hk : k < n) : zCG (fun a => f (swp i k a)) n = zCG f n := by
 by_cases hne : i = k
 · subst hne
   refine zBK (fun a _ => ?_)
   unfold swp; split <;> simp_all
 have e : ∀ a, a < n → f (swp i k a) = f a + ((if a = i then f k - f i else 0) + (if a = k then f i - f k else 0)) := by
   intro a _
   unfold swp
   by_cases h1 : a = k
   · have h2 : ¬ a = i := fun e => hne (e.symm.trans h1)
     rw [if_pos h1, if_neg h2, if_pos h1, h1]; omega
   · by_cases h2 : a = i
     · rw [if_neg h1, if_pos h2, if_pos h2, if_neg h1, h2]; omega
     · rw [if_neg h1, if_neg h2, if_neg h2, if_neg h1]; omega
 rw [zBK e, zDb, zDb, zDc (f := fun a => if a = i then f k - f i else 0) i hi (fun a _ h => by simp [h]), zDc (f := fun a => if a = k then f i - f k else 0) k hk (fun a _ h => by simp [h])]
 simp; omega
/-- The table during the elimination, after so many columns. -/
structure RInv (n L B : Nat) (M : Tab) (c : Nat) (r : Red) : Prop where
 len : r.T.length = n
 row : ∀ x ∈ r.T, x.length = L
 pl : r.piv.length ≤ n
 pc : r.piv.length ≤ c
 full : r.piv.length = c → r.piv = List.range c
 last : r.last ≠ 0
 zero : ∀ i j, r.piv.length ≤ i → i < n → j < c → at2 r.T i j = 0
 base : ∃ (D : Mx) (s : Int), s * s = 1 ∧ det n D = s * r.last ∧ (∀ j, j < L → Sol n D r.last (fun a => at2 M a j) (fun i => at2 r.T i j)) ∧ (∀ a, a < r.piv.length → ∀ e, D a e = at2 M e (r.piv.getD a 0)) ∧ (∀ a e, a < n → e < n → (D a e).natAbs ≤ B)
theorem RInv.init {n L B : Nat} {M : Tab} (h1 : M.length = n) (h2 : ∀ x ∈ M, x.length = L) (hB : 1 ≤ B) : RInv n L B M 0 (redN M 0) where
 len := h1
 row := h2
 pl := Nat.zero_le _
 pc := Nat.zero_le _
 full := fun _ => rfl
 last := by show (1 : Int) ≠ 0; decide
 zero := fun i j _ _ hj => absurd hj (Nat.not_lt_zero _)
 base := by
   refine ⟨zGu, 1, rfl, by rw [zMA]; rfl, fun j _ e he => ?_, fun a ha => absurd ha (Nat.not_lt_zero _), fun a e _ _ => ?_⟩
   · rw [zDc e he (fun i _ hne => by simp [zGu, hne])]
     simp [zGu, redN]
   · unfold zGu; split <;> simp <;> omega
/-- Rows exchanged. -/
theorem RInv.swap {n L B c : Nat} {M : Tab} {r : Red} (h : RInv n L B M c r) {i : Nat} (hk : r.piv.length < n) (hki : r.piv.length ≤ i) (hi : i < n) : RInv n L B M c { r with T := zBA r.T i r.piv.length } where
 len := by rw [zFK]; exact h.len
 row := zPt _ (by rw [h.len]; exact hi) (by rw [h.len]; exact hk) h.row
 pl := h.pl
 pc := h.pc
 full := h.full
 last := h.last
 zero := fun a j h1 h2 h3 => by
   show at2 (zBA r.T i r.piv.length) a j = 0
   rw [zET _ (by rw [h.len]; exact hi) (by rw [h.len]; exact hk)]
   have h1 : r.piv.length ≤ a := h1
   refine h.zero _ j ?_ ?_ h3
   · unfold swp; split; exact hki; split; exact Nat.le_refl _; exact h1
   · unfold swp; split; exact hi; split; exact hk; exact h2
 base := by
   obtain ⟨D, s, hs, hD, hS, hp, hB⟩ := h.base
   by_cases e : i = r.piv.length
   · have : zBA r.T i r.piv.length = r.T := by rw [e]; exact zM7 _ (by rw [h.len]; exact hk)
     show ∃ (D : Mx) (s : Int), s * s = 1 ∧ det n D = s * r.last ∧ (∀ j, j < L → Sol n D r.last (fun a => at2 M a j) (fun a => at2 (zBA r.T i r.piv.length) a j)) ∧ (∀ a, a < r.piv.length → ∀ e, D a e = at2 M e (r.piv.getD a 0)) ∧ (∀ a e, a < n → e < n → (D a e).natAbs ≤ B)
     rw [this]
     exact ⟨D, s, hs, hD, hS, hp, hB⟩
   · refine ⟨fun a => D (swp i r.piv.length a), -s, by rw [Int.neg_mul_neg]; exact hs, by rw [det_swp n D hi hk e, hD, Int.neg_mul], fun j hj e he => ?_, fun a ha e => ?_, fun a e ha he => ?_⟩
     · have := hS j hj e he
       show zCG (fun a => at2 (zBA r.T i r.piv.length) a j * D (swp i r.piv.length a) e) n = r.last * at2 M e j
       rw [← this, ← sumZ_swp (fun a => at2 r.T a j * D a e) n hi hk]
       refine zBK (fun a _ => ?_)
       rw [zET _ (by rw [h.len]; exact hi) (by rw [h.len]; exact hk)]
     · have ha : a < r.piv.length := ha
       have : swp i r.piv.length a = a := by unfold swp; rw [if_neg (by omega), if_neg (by omega)]
       show D (swp i r.piv.length a) e = _
       rw [this]; exact hp a ha e
     · refine hB _ e ?_ he
       unfold swp; split; exact hi; split; exact hk; exact ha
/-- One elimination. -/
theorem RInv.elim {n L B c : Nat} {M : Tab} {r : Red} (h : RInv n L B M c r) (hk : r.piv.length < n) (hc : c < L) (hp : at2 r.T r.piv.length c ≠ 0) (hB : ∀ a j, a < n → j < L → (at2 M a j).natAbs ≤ B) (b : Bool) :
   RInv n L B M (c + 1) ⟨zC9 r.T r.piv.length c r.last, r.piv ++ [c], at2 r.T r.piv.length c, b⟩ ∧
   ∀ i j, i < n → i ≠ r.piv.length → j < L → at2 (zC9 r.T r.piv.length c r.last) i j * r.last = at2 r.T i j * at2 r.T r.piv.length c - at2 r.T i c * at2 r.T r.piv.length j := by
 obtain ⟨D, s, hs, hD, hS, hpv, hBD⟩ := h.base
 have hl := h.len
 have hex : ∀ i j, i < n → i ≠ r.piv.length → j < L → r.last ∣ at2 r.T i j * at2 r.T r.piv.length c - at2 r.T i c * at2 r.T r.piv.length j := fun i j hi hne hj =>
   (zKc h.last hs hD (hS c hc) (hS j hj) hk hp).1 i hi hne
 have hat : ∀ i j, i < n → j < L → at2 (zC9 r.T r.piv.length c r.last) i j = if i = r.piv.length then at2 r.T r.piv.length j else (at2 r.T i j * at2 r.T r.piv.length c - at2 r.T i c * at2 r.T r.piv.length j) / r.last := by
   intro i j hi hj
   rw [zJN _ _ _ _ h.row (by omega) hj]
   by_cases e : i = r.piv.length
   · rw [if_pos e, if_pos e]
   · rw [if_neg e, if_neg e, zPh h.last (hex i j hi e hj)]
 refine ⟨⟨by rw [zPQ]; exact hl, zPg _ _ _ _ (by omega) h.row, by simp; omega, by have := h.pc; simp; omega, fun hf => ?_, hp, fun i j h1 h2 h3 => ?_, ?_⟩, fun i j hi hne hj => ?_⟩
 · have hf : (r.piv ++ [c]).length = c + 1 := hf
   rw [List.length_append, List.length_singleton] at hf
   show r.piv ++ [c] = _
   rw [h.full (by omega), List.range_succ]
 · have h1 : (r.piv ++ [c]).length ≤ i := h1
   rw [List.length_append, List.length_singleton] at h1
   show at2 (zC9 r.T r.piv.length c r.last) i j = 0
   rw [hat i j h2 (by omega), if_neg (by omega)]
   by_cases e : j = c
   · subst e
     rw [Int.sub_self, Int.zero_ediv]
   · rw [h.zero i j (by omega) h2 (by omega), h.zero r.piv.length j (Nat.le_refl _) hk (by omega), Int.zero_mul, Int.mul_zero, Int.sub_self, Int.zero_ediv]
 · refine ⟨put D r.piv.length (fun a => at2 M a c), s, hs, zKj h.last hs hD (hS c hc) hk, fun j hj e he => ?_, fun a ha e => ?_, fun a e ha he => ?_⟩
   · have h1 := (zKc h.last hs hD (hS c hc) (hS j hj) hk hp).2 e he
     rw [← h1]
     refine zBK (fun i hi => ?_)
     show at2 (zC9 r.T r.piv.length c r.last) i j * _ = _
     rw [hat i j hi hj]
   · have ha : a < (r.piv ++ [c]).length := ha
     rw [List.length_append, List.length_singleton] at ha
     show put D r.piv.length (fun a => at2 M a c) a e = at2 M e ((r.piv ++ [c]).getD a 0)
     by_cases e1 : a = r.piv.length
     · subst e1
       simp [put, List.getD]
     · have h2 : a < r.piv.length := by omega
       have h3 := hpv a h2 e
       simp only [put, e1, if_false]
       rw [h3]
       simp [List.getD, List.getElem?_append_left h2]
   · unfold put
     split
     · exact hB e c he hc
     · exact hBD a e ha he
 · rw [hat i j hi hj, if_neg hne, Int.ediv_mul_cancel (hex i j hi hne hj)]
/-- A column without a pivot. -/
theorem RInv.none {n L B c : Nat} {M : Tab} {r : Red} (h : RInv n L B M c r) (hz : ∀ i, r.piv.length ≤ i → i < n → at2 r.T i c = 0) : RInv n L B M (c + 1) r where
 len := h.len
 row := h.row
 pl := h.pl
 pc := by have := h.pc; omega
 full := fun e => absurd e (by have := h.pc; omega)
 last := h.last
 zero := fun i j h1 h2 h3 => by
   by_cases e : j = c
   · subst e; exact hz i h1 h2
   · exact h.zero i j h1 h2 (by omega)
 base := h.base
theorem RInv.col {n L B c : Nat} {M : Tab} {r : Red} (h : RInv n L B M c r) (hc : c < L) (hB : ∀ a j, a < n → j < L → (at2 M a j).natAbs ≤ B) : RInv n L B M (c + 1) (zH2 r c) := by
 unfold zH2
 by_cases h1 : r.T.length ≤ r.piv.length
 · rw [if_pos h1]
   exact h.none (fun i h2 h3 => absurd h3 (by have := h.len; omega))
 rw [if_neg h1]
 have hl := h.len
 have hk : r.piv.length < n := by omega
 obtain ⟨p1, p2, p3, p4⟩ := zH1 r.T c (r.T.length - r.piv.length) r.piv.length
 rw [show r.piv.length + (r.T.length - r.piv.length) = r.T.length by omega] at p2 p4
 by_cases h2 : zFJ r.T c (r.T.length - r.piv.length) r.piv.length = r.T.length
 · rw [if_pos h2]
   exact h.none (fun i h3 h4 => p3 i h3 (by omega))
 rw [if_neg h2]
 have hi : zFJ r.T c (r.T.length - r.piv.length) r.piv.length < n := by omega
 have hs := h.swap hk p1 hi
 refine (hs.elim hk hc ?_ hB _).1
 show at2 (zBA r.T _ r.piv.length) r.piv.length c ≠ 0
 rw [zET _ (by omega) (by omega)]
 have : ∀ i k, swp i k k = i := fun i k => by unfold swp; rw [if_pos rfl]
 rw [this]
 exact p4 (by omega)
theorem RInv.all {n L B w : Nat} {M : Tab} (h1 : M.length = n) (h2 : ∀ x ∈ M, x.length = L) (h3 : 1 ≤ B) (hw : w ≤ L) (hB : ∀ a j, a < n → j < L → (at2 M a j).natAbs ≤ B) : RInv n L B M w (redN M w) := by
 induction w with
 | zero => exact RInv.init h1 h2 h3
 | succ c ih => exact (ih (by omega)).col (by omega) hB
/-- Rows that are proportional have their pivots in the same places. -/
structure Prop2 (n w : Nat) (r r' : Red) : Prop where
 piv : r'.piv = r.piv
 rows : ∀ i, i < n → ∃ α β : Int, α ≠ 0 ∧ β ≠ 0 ∧ ∀ j, j < w → α * at2 r'.T i j = β * at2 r.T i j
theorem zKb {n : Nat} {T T' : Tab} {c : Nat} (h : ∀ i, i < n → (at2 T' i c = 0 ↔ at2 T i c = 0)) : ∀ f i, i + f ≤ n → zFJ T' c f i = zFJ T c f i
 | 0, i, _ => rfl
 | f + 1, i, hi => by
   rw [zFJ, zFJ]
   by_cases e : at2 T i c = 0
   · rw [if_pos e, if_pos ((h i (by omega)).2 e)]
     exact zKb h f (i + 1) (by omega)
   · rw [if_neg e, if_neg (fun q => e ((h i (by omega)).1 q))]
theorem Prop2.zero {n w : Nat} {r r' : Red} (h : Prop2 n w r r') {i j : Nat} (hi : i < n) (hj : j < w) : at2 r'.T i j = 0 ↔ at2 r.T i j = 0 := by
 obtain ⟨α, β, ha, hb, he⟩ := h.rows i hi
 have := he j hj
 constructor
 · intro e; rw [e, Int.mul_zero] at this
   rcases Int.mul_eq_zero.1 this.symm with q | q
   · exact absurd q hb
   · exact q
 · intro e; rw [e, Int.mul_zero] at this
   rcases Int.mul_eq_zero.1 this with q | q
   · exact absurd q ha
   · exact q
theorem Prop2.col {n w L L' B B' c : Nat} {M M' : Tab} {r r' : Red} (h : Prop2 n w r r') (hr : RInv n L B M c r) (hr' : RInv n L' B' M' c r') (hc : c < w) (hw : w ≤ L) (hw' : w ≤ L')
   (hB : ∀ a j, a < n → j < L → (at2 M a j).natAbs ≤ B) (hB' : ∀ a j, a < n → j < L' → (at2 M' a j).natAbs ≤ B') : Prop2 n w (zH2 r c) (zH2 r' c) := by
 have hl := hr.len
 have hl' := hr'.len
 have hpp := h.piv
 unfold zH2
 rw [hpp, hl, hl']
 by_cases h1 : n ≤ r.piv.length
 · rw [if_pos h1, if_pos h1]; exact h
 rw [if_neg h1, if_neg h1]
 have hk : r.piv.length < n := by omega
 have hsame := zKb (fun i hi => h.zero (j := c) hi hc) (n - r.piv.length) r.piv.length (by omega)
 rw [hsame]
 obtain ⟨p1, p2, p3, p4⟩ := zH1 r.T c (n - r.piv.length) r.piv.length
 rw [show r.piv.length + (n - r.piv.length) = n by omega] at p2 p4
 generalize zFJ r.T c (n - r.piv.length) r.piv.length = i at *
 by_cases h2 : i = n
 · rw [if_pos h2, if_pos h2]; exact h
 rw [if_neg h2, if_neg h2]
 have hi : i < n := by omega
 have hsw : ∀ i k, swp i k k = i := fun i k => by unfold swp; rw [if_pos rfl]
 have hs := hr.swap hk p1 hi
 have hs' := hr'.swap (by rw [hpp]; exact hk) (by rw [hpp]; exact p1) hi
 have n1 : at2 (zBA r.T i r.piv.length) r.piv.length c ≠ 0 := by
   rw [zET _ (by omega) (by omega), hsw]; exact p4 hi
 have n2 : at2 (zBA r'.T i r'.piv.length) r'.piv.length c ≠ 0 := by
   rw [zET _ (by omega) (by rw [hpp]; omega), hsw]
   exact fun q => p4 hi ((h.zero hi hc).1 q)
 have e1 := (hs.elim hk (by omega) n1 hB true).2
 have e2 := (hs'.elim (by rw [hpp]; exact hk) (by omega) n2 hB' true).2
 simp only [hpp] at e2 n2
 have hsr : ∀ a, a < n → ∃ α β : Int, α ≠ 0 ∧ β ≠ 0 ∧ ∀ j, j < w → α * at2 (zBA r'.T i r.piv.length) a j = β * at2 (zBA r.T i r.piv.length) a j := by
   intro a ha
   have hb : swp i r.piv.length a < n := by unfold swp; split; exact hi; split; exact hk; exact ha
   obtain ⟨α, β, q1, q2, q3⟩ := h.rows _ hb
   refine ⟨α, β, q1, q2, fun j hj => ?_⟩
   rw [zET _ (by omega) (by omega), zET _ (by omega) (by omega)]
   exact q3 j hj
 refine ⟨rfl, fun a ha => ?_⟩
 obtain ⟨α, β, q1, q2, q3⟩ := hsr a ha
 by_cases hak : a = r.piv.length
 · refine ⟨α, β, q1, q2, fun j hj => ?_⟩
   show α * at2 (zC9 (zBA r'.T i r.piv.length) r.piv.length c r'.last) a j = β * at2 (zC9 (zBA r.T i r.piv.length) r.piv.length c r.last) a j
   rw [zJN _ _ _ _ hs.row (by rw [zFK]; omega) (by omega), zJN (zBA r'.T i r.piv.length) _ _ _ (by have := hs'.row; simp only [hpp] at this; exact this) (by rw [zFK]; omega) (by omega : j < L'), if_pos hak, if_pos hak]
   rw [hak] at q3
   exact q3 j hj
 · obtain ⟨γ, δ, k1, k2, k3⟩ := hsr r.piv.length hk
   refine ⟨α * γ * r'.last, β * δ * r.last, Int.mul_ne_zero (Int.mul_ne_zero q1 k1) hr'.last, Int.mul_ne_zero (Int.mul_ne_zero q2 k2) hr.last, fun j hj => ?_⟩
   have z1 := e1 a j ha hak (by omega)
   have z2 := e2 a j ha hak (by omega)
   have aj := q3 j hj
   have ac := q3 c hc
   have kj := k3 j hj
   have kc := k3 c hc
   show α * γ * r'.last * at2 (zC9 (zBA r'.T i r.piv.length) r.piv.length c r'.last) a j = β * δ * r.last * at2 (zC9 (zBA r.T i r.piv.length) r.piv.length c r.last) a j
   generalize at2 (zC9 (zBA r'.T i r.piv.length) r.piv.length c r'.last) a j = X' at *
   generalize at2 (zC9 (zBA r.T i r.piv.length) r.piv.length c r.last) a j = X at *
   generalize at2 (zBA r'.T i r.piv.length) a j = A' at *
   generalize at2 (zBA r.T i r.piv.length) a j = A at *
   generalize at2 (zBA r'.T i r.piv.length) a c = C' at *
   generalize at2 (zBA r.T i r.piv.length) a c = C at *
   generalize at2 (zBA r'.T i r.piv.length) r.piv.length j = K' at *
   generalize at2 (zBA r.T i r.piv.length) r.piv.length j = K at *
   generalize at2 (zBA r'.T i r.piv.length) r.piv.length c = P' at *
   generalize at2 (zBA r.T i r.piv.length) r.piv.length c = P at *
   generalize r'.last = l' at *
   generalize r.last = l at *
   have w1 : α * γ * l' * X' = (α * A') * (γ * P') - (α * C') * (γ * K') := by
     rw [show α * γ * l' * X' = α * γ * (X' * l') by grind, z2]; grind
   have w2 : β * δ * l * X = (β * A) * (δ * P) - (β * C) * (δ * K) := by
     rw [show β * δ * l * X = β * δ * (X * l) by grind, z1]; grind
   rw [w1, w2, aj, ac, kj, kc]
theorem Prop2.all {n w L L' B B' : Nat} {M M' : Tab} (h1 : M.length = n) (h2 : ∀ x ∈ M, x.length = L) (h1' : M'.length = n) (h2' : ∀ x ∈ M', x.length = L') (h3 : 1 ≤ B) (h3' : 1 ≤ B') (hw : w ≤ L) (hw' : w ≤ L')
   (hB : ∀ a j, a < n → j < L → (at2 M a j).natAbs ≤ B) (hB' : ∀ a j, a < n → j < L' → (at2 M' a j).natAbs ≤ B') (hs : ∀ i, i < n → ∃ α β : Int, α ≠ 0 ∧ β ≠ 0 ∧ ∀ j, j < w → α * at2 M' i j = β * at2 M i j) :
   ∀ c, c ≤ w → Prop2 n w (redN M c) (redN M' c)
 | 0, _ => ⟨rfl, hs⟩
 | c + 1, hc => (Prop2.all h1 h2 h1' h2' h3 h3' hw hw' hB hB' hs c (by omega)).col (RInv.all h1 h2 h3 (by omega) hB) (RInv.all h1' h2' h3' (by omega) hB') (by omega) hw hw' hB hB'
end Go.Ax.Dt
namespace Go.Ax.Rt
open Go.Ax.Bg Go.Ax.Dt
theorem zAe {α : Type} {l : List α} {j : Nat} (d : α) (h : j < l.length) : l.getD j d = l[j] := by simp [List.getD, h]
theorem zAr {α : Type} {l : List α} {j : Nat} (d : α) (h : j < l.length) : l.getD j d ∈ l := by rw [zAe d h]; exact List.getElem_mem h
theorem zFf {α : Type} {l r : List α} {j : Nat} (d : α) (h : j < l.length) : (l ++ r).getD j d = l.getD j d := by simp [List.getD, List.getElem?_append_left h]
theorem get_end {α : Type} {l : List α} {x d : α} : (l ++ [x]).getD l.length d = x := by simp [List.getD]
theorem num_den (q : Rat) : q * (q.den : Rat) = (q.num : Rat) := by
 have h : ((q.den : Int) : Rat) ≠ 0 := fun e => q.den_nz (by
   have := congrArg Rat.num e
   simpa using this)
 have h2 := Rat.num_divInt_den q
 rw [Rat.divInt_eq_div] at h2
 conv => lhs; lhs; rw [← h2]
 rw [← Rat.intCast_natCast, Rat.div_mul_cancel h]
/-- The factor that makes a row whole. -/
def facF : Nat → List Rat → Nat
 | f, [] => f
 | f, q :: r => facF (f * (q.den / Nat.gcd f q.den)) r
def wholeL (l : List Rat) : List Int := l.map (fun q => q.num * ((facF 1 l / q.den : Nat) : Int))
/-- SolveOf: rows with the right side at their end. -/
def solT (rows : List (List Rat)) (w : Nat) : Red := redN (rows.map wholeL) w
def zNl (rows : List (List Rat)) (w : Nat) : List Rat × Int :=
 if ((solT rows w).T.drop (solT rows w).piv.length).any (fun r => decide (r.getD w 0 ≠ 0)) then ([], 8)
 else if (solT rows w).piv.length < w then ([], 18)
 else ((List.range w).map (fun k => Rat.divInt (at2 (solT rows w).T k w) (at2 (solT rows w).T k k)), 0)
def augQ (m : List (List Rat)) (b : List Rat) : List (List Rat) := (List.range m.length).map (fun i => m.getD i [] ++ [b.getD i 0])
/-- matrix.Solve -/
def solveR (m : List (List zAG)) (b : List zAG) : List zAG × Int :=
 if zHT m ≠ 0 then ([], zHT m) else if zIi b ≠ 0 then ([], zIi b) else if b.length ≠ m.length then ([], 3)
 else if (zNl (augQ (inM m) (b.map zAU)) (zDq m)).2 ≠ 0 then ([], (zNl (augQ (inM m) (b.map zAU)) (zDq m)).2) else zA2 (zNl (augQ (inM m) (b.map zAU)) (zDq m)).1
def zOg : Nat → List (List Rat) → Nat
 | f, [] => f
 | f, r :: rs => zOg (f * facF 1 r) rs
def detQ (rows : List (List Rat)) : Rat := Rat.divInt (if (solT rows rows.length).neg then -(solT rows rows.length).last else (solT rows rows.length).last) (zOg 1 rows : Nat)
/-- matrix.Det -/
def detR (m : List (List zAG)) : zAG × Int :=
 if zHT m ≠ 0 then ([], zHT m) else if m.length ≠ zDq m then ([], 3)
 else if (solT (inM m) m.length).piv.length < m.length then ([48], 0) else zEK (detQ (inM m))
theorem zNm {a x y : Rat} (ha : a ≠ 0) (h : a * x = a * y) : x = y := by
 have h1 : a⁻¹ * (a * x) = a⁻¹ * (a * y) := by rw [h]
 rwa [← Rat.mul_assoc, ← Rat.mul_assoc, Rat.inv_mul_cancel a ha, Rat.one_mul, Rat.one_mul] at h1
theorem intc_ne {x : Int} (h : x ≠ 0) : (x : Rat) ≠ 0 := fun e => h (by
 have := congrArg Rat.num e
 simpa using this)
end Go.Ax.Rt
namespace Go.Ax.Rt
open Go.Ax.Bg Go.Ax.Dt
theorem dig_D {k : Nat} {q : Rat} (h1 : (Lib.decDigits q.num.natAbs).length ≤ k) (h2 : (Lib.decDigits q.den).length ≤ k) : D k q :=
 ⟨Nat.lt_of_lt_of_le (zD5 _) (Nat.pow_le_pow_right (by decide) h1), Nat.lt_of_lt_of_le (zD5 _) (Nat.pow_le_pow_right (by decide) h2)⟩
end Go.Ax.Rt
namespace Go.Ax.Rt
open Go.Ax.Bg
structure TNode where
 kind : Int
 player : Int
 info : Int
 next : List Int
 odds : List zAG
 pay : zAG
 deriving DecidableEq
def node0 : TNode := ⟨0, 0, 0, [], [], []⟩
abbrev zT := List TNode
def zEI (N i : Nat) (k : Int) : Bool := decide (k ≤ (i : Int)) || decide ((N : Int) ≤ k)
/-- the error of the children of a node -/
def zGF (N i : Nat) (l : List Int) : Int := if l.length = 0 then 3 else if 6 < l.length then 2 else if l.any (zEI N i) = true then 3 else 0
def zDm (N i : Nat) (n : TNode) : Int :=
 if n.kind = 0 then (if n.player ≠ 0 ∨ n.info ≠ 0 ∨ n.next ≠ [] ∨ n.odds ≠ [] then 3 else zCq n.pay)
 else if n.kind = 1 then (if n.player ≠ 0 ∨ n.info ≠ 0 ∨ n.pay ≠ [] then 3 else if zGF N i n.next ≠ 0 then zGF N i n.next else if n.odds.length ≠ n.next.length then 3 else zCm n.odds)
 else if n.kind = 2 then (if n.odds ≠ [] ∨ n.pay ≠ [] then 3 else if (n.player ≠ 0 ∧ n.player ≠ 1) ∨ n.info < 0 ∨ 10 ≤ n.info then 4 else zGF N i n.next)
 else 1
def zES (N : Nat) : Nat → zT → Int
 | _, [] => 0
 | i, n :: r => if zDm N i n = 0 then zES N (i + 1) r else zDm N i n
/-- how often a node is named -/
def named (t : zT) (k : Nat) : Nat := ((t.flatMap TNode.next).filter (fun x => decide (x = (k : Int)))).length
def zG1 (a b : TNode) : Bool := decide (a.kind = 2) && (decide (b.kind = 2) && (decide (a.player = b.player) && (decide (a.info = b.info) && decide (a.next.length ≠ b.next.length))))
def zGB (t : zT) : Int :=
 if 120 < t.length then 2 else if t.length = 0 then 8 else if zES t.length 0 t ≠ 0 then zES t.length 0 t
 else if (List.range t.length).any (fun k => decide (k ≠ 0) && decide (named t k ≠ 1)) = true then 3
 else if t.any (fun a => t.any (zG1 a)) = true then 3 else 0
def zCe (t : zT) (p : Int) : Int := if zGB t ≠ 0 then zGB t else if p ≠ 0 ∧ p ≠ 1 then 4 else 0
/-- Is it the player's move, in an information set? -/
def own (p : Int) (n : TNode) : Bool := decide (n.kind = 2) && decide (n.player = p)
def zA6 (p i : Int) (n : TNode) : Bool := own p n && decide (n.info = i)
/-- the first node of an information set -/
def zIn (t : zT) (p i : Int) : Nat := t.findIdx (zA6 p i)
def zd (t : zT) (p : Int) : List Int := ((List.range 10).map (fun i : Nat => (i : Int))).filter (fun i => t.any (zA6 p i))
def zc (t : zT) (p i : Int) : Nat := (t.getD (zIn t p i) node0).next.length
def zBW (t : zT) (p : Int) : List Int := (zd t p).map (fun i => ((zc t p i : Nat) : Int))
/-- What a valid game is. -/
structure Valid (t : zT) : Prop where
 le : t.length ≤ 120
 ne : t.length ≠ 0
 nodes : ∀ i, i < t.length → zDm t.length i (t.getD i node0) = 0
 once : ∀ k, k < t.length → k ≠ 0 → named t k = 1
 same : ∀ a ∈ t, ∀ b ∈ t, zG1 a b = false
theorem zKz (N : Nat) : ∀ (t : zT) (i : Nat), zES N i t = 0 → ∀ j, j < t.length → zDm N (i + j) (t.getD j node0) = 0
 | [], i, _, j, hj => absurd hj (Nat.not_lt_zero _)
 | n :: r, i, h, j, hj => by
   rw [zES] at h
   split at h
   · rename_i h0
     cases j with
     | zero => exact h0
     | succ j =>
       have := zKz N r (i + 1) h j (by simpa using hj)
       rw [show i + (j + 1) = i + 1 + j by omega]
       exact this
   · rename_i h0; exact absurd h h0
theorem zMD {t : zT} (h : zGB t = 0) : Valid t := by
 unfold zGB at h
 split at h
 · cases h
 split at h
 · cases h
 split at h
 · rename_i h3; exact absurd h h3
 split at h
 · cases h
 split at h
 · cases h
 rename_i h1 h2 h3 h4 h5
 refine ⟨by omega, h2, fun i hi => ?_, fun k hk h0 => ?_, fun a ha b hb => ?_⟩
 · have := zKz t.length t 0 (Classical.not_not.1 h3) i hi
   rwa [Nat.zero_add] at this
 · rw [Bool.not_eq_true, List.any_eq_false] at h4
   have := h4 k (by simpa using hk)
   simp only [Bool.and_eq_true, decide_eq_true_eq, not_and] at this
   exact Classical.not_not.1 (this h0)
 · rw [Bool.not_eq_true, List.any_eq_false] at h5
   have := h5 a ha
   rw [List.any_eq_true] at this
   cases hc : zG1 a b
   · rfl
   · exact absurd ⟨b, hb, hc⟩ this
/-- The children stand behind their parent. -/
theorem zBb {N i : Nat} {l : List Int} (h : zGF N i l = 0) : 1 ≤ l.length ∧ l.length ≤ 6 ∧ ∀ k ∈ l, (i : Int) < k ∧ k < N := by
 unfold zGF at h
 split at h
 · cases h
 split at h
 · cases h
 split at h
 · cases h
 rename_i h1 h2 h3
 refine ⟨by omega, by omega, fun k hk => ?_⟩
 rw [Bool.not_eq_true, List.any_eq_false] at h3
 have := h3 k hk
 unfold zEI at this
 simp only [Bool.or_eq_true, decide_eq_true_eq, not_or] at this
 omega
theorem Valid.child {t : zT} (h : Valid t) {i : Nat} (hi : i < t.length) : ((t.getD i node0).kind = 0 ∧ (t.getD i node0).next = []) ∨ (((t.getD i node0).kind = 1 ∨ (t.getD i node0).kind = 2) ∧ zGF t.length i (t.getD i node0).next = 0) := by
 have hn := h.nodes i hi
 unfold zDm at hn
 split at hn
 · rename_i h0
   split at hn
   · cases hn
   · rename_i h1
     simp only [not_or] at h1
     exact .inl ⟨h0, Classical.not_not.1 h1.2.2.1⟩
 · split at hn
   · rename_i h1
     split at hn
     · cases hn
     split at hn
     · rename_i h2; exact absurd hn h2
     rename_i h2 h3
     exact .inr ⟨.inl h1, Classical.not_not.1 h3⟩
   · split at hn
     · rename_i h2
       split at hn
       · cases hn
       split at hn
       · cases hn
       exact .inr ⟨.inr h2, hn⟩
     · cases hn
theorem Valid.behind {t : zT} (h : Valid t) {i : Nat} (hi : i < t.length) : ∀ k ∈ (t.getD i node0).next, (i : Int) < k ∧ k < t.length := by
 rcases h.child hi with ⟨_, h2⟩ | ⟨_, h2⟩
 · rw [h2]; intro k hk; simp at hk
 · exact (zBb h2).2.2
theorem Valid.few {t : zT} (h : Valid t) {i : Nat} (hi : i < t.length) : (t.getD i node0).next.length ≤ 6 := by
 rcases h.child hi with ⟨_, h2⟩ | ⟨_, h2⟩
 · rw [h2]; exact Nat.zero_le _
 · exact (zBb h2).2.1
theorem Valid.mine {t : zT} (h : Valid t) {i : Nat} (hi : i < t.length) {p : Int} (ho : own p (t.getD i node0) = true) : 0 ≤ (t.getD i node0).info ∧ (t.getD i node0).info < 10 ∧ 1 ≤ (t.getD i node0).next.length := by
 unfold own at ho
 rw [Bool.and_eq_true, decide_eq_true_eq, decide_eq_true_eq] at ho
 have hn := h.nodes i hi
 unfold zDm at hn
 rw [if_neg (by rw [ho.1]; decide), if_neg (by rw [ho.1]; decide), if_pos ho.1] at hn
 split at hn
 · cases hn
 split at hn
 · cases hn
 rename_i h1 h2
 simp only [not_or] at h2
 have := zBb hn
 exact ⟨by omega, by omega, this.1⟩
/-- Nodes of one set have equally many choices. -/
theorem Valid.width {t : zT} (h : Valid t) {i j : Nat} (hi : i < t.length) (hj : j < t.length) {p : Int} (hio : own p (t.getD i node0) = true) (hjo : own p (t.getD j node0) = true) (he : (t.getD i node0).info = (t.getD j node0).info) : (t.getD i node0).next.length = (t.getD j node0).next.length := by
 have hc := h.same _ (zAr node0 hi) _ (zAr node0 hj)
 unfold own at hio hjo
 rw [Bool.and_eq_true, decide_eq_true_eq, decide_eq_true_eq] at hio hjo
 unfold zG1 at hc
 rw [decide_eq_true hio.1, decide_eq_true hjo.1, decide_eq_true (by rw [hio.2, hjo.2]), decide_eq_true he, Bool.true_and, Bool.true_and, Bool.true_and, Bool.true_and, decide_eq_false_iff_not] at hc
 exact Classical.not_not.1 hc
end Go.Ax.Rt
namespace Go.Ax.Rt
open Go.Ax.Bg
/-- how often 0, 1, .. N-1 occur -/
def zDZ (N : Nat) (l : List Int) : List Int := (List.range N).map (fun k : Nat => (((l.filter (fun x => decide (x = (k : Int)))).length : Nat) : Int))
theorem zEQ (N : Nat) (l : List Int) : (zDZ N l).length = N := by simp [zDZ]
theorem zJb {N : Nat} {l : List Int} {k : Nat} (hk : k < N) : (zDZ N l).getD k 0 = (((l.filter (fun x => decide (x = (k : Int)))).length : Nat) : Int) := by simp [zDZ, List.getD, hk]
theorem cntT_nil (N : Nat) : zDZ N [] = List.replicate N 0 := by
 apply List.ext_getElem (by simp [zDZ])
 intro i h1 h2
 simp [zDZ]
theorem zPe {N : Nat} (l : List Int) {x : Int} (h0 : 0 ≤ x) (h1 : x < N) : zDZ N (l ++ [x]) = (zDZ N l).set x.toNat ((zDZ N l).getD x.toNat 0 + 1) := by
 rw [zJb (by omega)]
 apply List.ext_getElem (by simp [zDZ])
 intro i i1 i2
 rw [List.getElem_set]
 have hi : i < N := by simpa [zDZ] using i1
 simp only [zDZ, List.getElem_map, List.getElem_range, List.filter_append, List.length_append]
 by_cases h : x.toNat = i
 · rw [if_pos h, h]
   have : x = (i : Int) := by omega
   simp [this]
 · rw [if_neg h]
   have : ¬ x = (i : Int) := by omega
   simp [this]
theorem cntT_le (N : Nat) (l : List Int) (k : Nat) : 0 ≤ (zDZ N l).getD k 0 ∧ (zDZ N l).getD k 0 ≤ l.length := by
 by_cases hk : k < N
 · rw [zJb hk]
   have := List.length_filter_le (fun x => decide (x = (k : Int))) l
   omega
 · have : (zDZ N l).getD k 0 = 0 := by simp [zDZ, List.getD, hk]
   rw [this]; omega
theorem zJl (t : zT) {k : Nat} (hk : k < t.length) : (zDZ t.length (t.flatMap TNode.next)).getD k 0 = ((named t k : Nat) : Int) := zJb hk
/-- All but the first are named once. -/
theorem zPE {t : zT} (h0 : t.length ≠ 0) : ((zDZ t.length (t.flatMap TNode.next)).drop 1).any (fun n => decide (n ≠ 1)) = (List.range t.length).any (fun k => decide (k ≠ 0) && decide (named t k ≠ 1)) := by
 rw [Bool.eq_iff_iff, List.any_eq_true, List.any_eq_true]
 constructor
 · rintro ⟨x, hx, h⟩
   obtain ⟨i, hi, rfl⟩ := List.mem_iff_getElem.1 hx
   rw [List.length_drop, zEQ] at hi
   refine ⟨1 + i, by simp; omega, ?_⟩
   rw [List.getElem_drop] at h
   have e := zJl t (k := 1 + i) (by omega)
   rw [zAe 0 (by rw [zEQ]; omega)] at e
   rw [e] at h
   simp only [Bool.and_eq_true, decide_eq_true_eq] at h ⊢
   exact ⟨by omega, by omega⟩
 · rintro ⟨k, hk, h⟩
   have hk : k < t.length := by simpa using hk
   simp only [Bool.and_eq_true, decide_eq_true_eq] at h
   have e := zJl t hk
   refine ⟨_, List.mem_iff_getElem.2 ⟨k - 1, by rw [List.length_drop, zEQ]; omega, rfl⟩, ?_⟩
   rw [List.getElem_drop]
   rw [zAe 0 (by rw [zEQ]; omega)] at e
   have e2 : (zDZ t.length (t.flatMap TNode.next))[1 + (k - 1)]'(by rw [zEQ]; omega) = ((named t k : Nat) : Int) := by
     rw [← e]; congr 1; omega
   rw [e2, decide_eq_true_eq]
   omega
/-- the sizes of the information sets, as the loop finds them -/
abbrev KSz := List (Int × Int × Nat)
def kstep (S : KSz) (n : TNode) : KSz := if n.kind = 2 ∧ ∀ e ∈ S, ¬ (e.1 = n.player ∧ e.2.1 = n.info) then S ++ [(n.player, n.info, n.next.length)] else S
def ktab (t : zT) : KSz := t.foldl kstep []
def zIx (t : zT) : Prop := ∀ a ∈ t, ∀ b ∈ t, zG1 a b = false
structure KInv (t : zT) (S : KSz) : Prop where
 free : zIx t
 from_ : ∀ e ∈ S, ∃ b ∈ t, b.kind = 2 ∧ b.player = e.1 ∧ b.info = e.2.1 ∧ b.next.length = e.2.2
 all : ∀ a ∈ t, a.kind = 2 → ∃ e ∈ S, e.1 = a.player ∧ e.2.1 = a.info
theorem zMG {a b : TNode} : zG1 a b = true ↔ a.kind = 2 ∧ b.kind = 2 ∧ a.player = b.player ∧ a.info = b.info ∧ a.next.length ≠ b.next.length := by
 unfold zG1
 simp only [Bool.and_eq_true, decide_eq_true_eq]
theorem zJ2 {a b : TNode} : zG1 a b = false ↔ (a.kind = 2 → b.kind = 2 → a.player = b.player → a.info = b.info → a.next.length = b.next.length) := by
 rw [← Bool.not_eq_true, zMG]
 constructor
 · intro h h1 h2 h3 h4
   exact Classical.not_not.1 (fun h5 => h ⟨h1, h2, h3, h4, h5⟩)
 · rintro h ⟨h1, h2, h3, h4, h5⟩
   exact h5 (h h1 h2 h3 h4)
theorem KInv.nil : KInv [] [] := ⟨fun a ha => by simp at ha, fun e he => by simp at he, fun a ha => by simp at ha⟩
theorem zFP {t : zT} {n : TNode} (h : zIx t) (hn : ∀ a ∈ t, n.kind = 2 → a.kind = 2 → a.player = n.player → a.info = n.info → a.next.length = n.next.length) : zIx (t ++ [n]) := by
 intro a ha0 b hb0
 rw [zJ2]
 intro k1 k2 k3 k4
 rcases List.mem_append.1 ha0 with ha | ha <;> rcases List.mem_append.1 hb0 with hb | hb
 · exact zJ2.1 (h a ha b hb) k1 k2 k3 k4
 · have e := List.mem_singleton.1 hb
   rw [e] at k2 k3 k4 ⊢
   exact hn a ha k2 k1 k3 k4
 · have e := List.mem_singleton.1 ha
   rw [e] at k1 k3 k4 ⊢
   exact (hn b hb k1 k2 k3.symm k4.symm).symm
 · rw [List.mem_singleton.1 ha, List.mem_singleton.1 hb]
theorem KInv.skip {t : zT} {S : KSz} {n : TNode} (h : KInv t S) (hk : n.kind ≠ 2) : KInv (t ++ [n]) S :=
 ⟨zFP h.free (fun a _ h1 => absurd h1 hk), fun e he => by
   obtain ⟨b, hb, q⟩ := h.from_ e he
   exact ⟨b, List.mem_append_left _ hb, q⟩, fun a ha h1 => by
   rcases List.mem_append.1 ha with ha | ha
   · exact h.all a ha h1
   · rw [List.mem_singleton.1 ha] at h1; exact absurd h1 hk⟩
theorem KInv.hit {t : zT} {S : KSz} {n : TNode} {e : Int × Int × Nat} (h : KInv t S) (he : e ∈ S) (h1 : e.1 = n.player) (h2 : e.2.1 = n.info) (h3 : e.2.2 = n.next.length) : KInv (t ++ [n]) S :=
 ⟨zFP h.free (fun a ha q1 q2 q3 q4 => by
   obtain ⟨b, hb, p1, p2, p3, p4⟩ := h.from_ e he
   have := zJ2.1 (h.free a ha b hb) q2 p1 (by rw [q3, p2, h1]) (by rw [q4, p3, h2])
   rw [this, p4, h3]), fun e he => by
   obtain ⟨b, hb, q⟩ := h.from_ e he
   exact ⟨b, List.mem_append_left _ hb, q⟩, fun a ha q1 => by
   rcases List.mem_append.1 ha with ha | ha
   · exact h.all a ha q1
   · rw [List.mem_singleton.1 ha]; exact ⟨e, he, h1, h2⟩⟩
theorem KInv.miss {t : zT} {S : KSz} {n : TNode} (h : KInv t S) (hk : n.kind = 2) (hm : ∀ e ∈ S, ¬ (e.1 = n.player ∧ e.2.1 = n.info)) : KInv (t ++ [n]) (S ++ [(n.player, n.info, n.next.length)]) :=
 ⟨zFP h.free (fun a ha q1 q2 q3 q4 => by
   obtain ⟨e, he, p1, p2⟩ := h.all a ha q2
   exact absurd ⟨by rw [p1, q3], by rw [p2, q4]⟩ (hm e he)), fun e he => by
   rcases List.mem_append.1 he with he | he
   · obtain ⟨b, hb, q⟩ := h.from_ e he
     exact ⟨b, List.mem_append_left _ hb, q⟩
   · rw [List.mem_singleton.1 he]
     exact ⟨n, by simp, hk, rfl, rfl, rfl⟩, fun a ha q1 => by
   rcases List.mem_append.1 ha with ha | ha
   · obtain ⟨e, he, q⟩ := h.all a ha q1
     exact ⟨e, List.mem_append_left _ he, q⟩
   · rw [List.mem_singleton.1 ha]; exact ⟨_, List.mem_append_right _ (List.mem_singleton.2 rfl), rfl, rfl⟩⟩
theorem KInv.bad {t T : zT} {S : KSz} {n : TNode} {e : Int × Int × Nat} (h : KInv t S) (hT : ∀ a ∈ t, a ∈ T) (hn : n ∈ T) (hk : n.kind = 2) (he : e ∈ S) (h1 : e.1 = n.player) (h2 : e.2.1 = n.info) (h3 : e.2.2 ≠ n.next.length) : T.any (fun a => T.any (zG1 a)) = true := by
 obtain ⟨b, hb, p1, p2, p3, p4⟩ := h.from_ e he
 rw [List.any_eq_true]
 refine ⟨b, hT b hb, ?_⟩
 rw [List.any_eq_true]
 exact ⟨n, hn, zMG.2 ⟨p1, hk, by rw [p2, h1], by rw [p3, h2], by rw [p4]; exact h3⟩⟩
theorem zMm {t : zT} (h : zIx t) : t.any (fun a => t.any (zG1 a)) = false := by
 rw [List.any_eq_false]
 intro a ha h1
 obtain ⟨b, hb, h2⟩ := List.any_eq_true.1 h1
 rw [h a ha b hb] at h2
 cases h2
theorem zM0 {N i : Nat} {t : zT} (hi : i < t.length) : zES N i (t.drop i) = if zDm N i (t.getD i node0) = 0 then zES N (i + 1) (t.drop (i + 1)) else zDm N i (t.getD i node0) := by
 rw [List.drop_eq_getElem_cons hi, ← zAe node0 hi, zES]
theorem zNo {N i : Nat} {n : TNode} (h : zDm N i n = 0) : (∀ k ∈ n.next, (i : Int) < k ∧ k < N) ∧ n.next.length ≤ 6 := by
 unfold zDm at h
 split at h
 · split at h
   · cases h
   · rename_i h1
     simp only [not_or] at h1
     have := Classical.not_not.1 h1.2.2.1
     rw [this]
     exact ⟨fun k hk => by simp at hk, Nat.zero_le _⟩
 · split at h
   · split at h
     · cases h
     split at h
     · rename_i h2; exact absurd h h2
     rename_i h2 h3
     obtain ⟨q1, q2, q3⟩ := zBb (Classical.not_not.1 h3)
     exact ⟨q3, q2⟩
   · split at h
     · split at h
       · cases h
       split at h
       · cases h
       obtain ⟨q1, q2, q3⟩ := zBb h
       exact ⟨q3, q2⟩
     · cases h
/-- the nodes named by the first nodes -/
def zD8 (t : zT) (i : Nat) : List Int := (t.take i).flatMap TNode.next
theorem zNp {t : zT} {i : Nat} (hi : i < t.length) : zD8 t (i + 1) = zD8 t i ++ (t.getD i node0).next := by
 unfold zD8
 rw [List.take_succ_eq_append_getElem hi, List.flatMap_append, zAe node0 hi]
 simp
theorem zCh {l : List Int} {j : Nat} (hj : j < l.length) : l.take (j + 1) = l.take j ++ [l.getD j 0] := by
 rw [List.take_succ_eq_append_getElem hj, zAe 0 hj]
theorem zNR {l : zT} {j : Nat} (hj : j < l.length) : l.take (j + 1) = l.take j ++ [l.getD j node0] := by
 rw [List.take_succ_eq_append_getElem hj, zAe node0 hj]
def keyA (e : Int × Int × Nat) : Int × Int := (e.1, e.2.1)
end Go.Ax.Rt
namespace Go.Ax.Rt
open Go.Ax.Bg
structure RSeq where
 info : Int
 choice : Int
 before : Int
 deriving DecidableEq
def zBY : RSeq := ⟨-1, -1, -1⟩
structure RForm where
 seqs : List RSeq
 pos : List Int
 first : List (Int × Nat)
def zBI (m : List (Int × Nat)) (k : Int) : Option Nat := (m.find? (fun x => decide (x.1 = k))).map Prod.snd
def zBj (n : TNode) (b : Int) : List RSeq := (List.range n.next.length).map (fun k : Nat => ⟨n.info, (k : Int), b⟩)
def zAJ (p : Int) (n : TNode) (i : Nat) (f : RForm) : RForm :=
 if own p n = true ∧ zBI f.first n.info = none then ⟨f.seqs ++ zBj n (f.pos.getD i 0), f.pos, f.first ++ [(n.info, f.seqs.length)]⟩ else f
def zDS (v : Nat → Int) : List Int → Nat → List Int → List Int
 | [], _, a => a
 | c :: r, k, a => zDS v r (k + 1) (a.set c.toNat (v k))
def zGw (p : Int) (n : TNode) (i : Nat) (f : RForm) (k : Nat) : Int := if own p n = true then (((zBI f.first n.info).getD 0 : Nat) : Int) + (k : Int) else f.pos.getD i 0
def zId (p : Int) (n : TNode) (i : Nat) (f : RForm) : RForm := ⟨(zAJ p n i f).seqs, zDS (zGw p n i (zAJ p n i f)) n.next 0 (zAJ p n i f).pos, (zAJ p n i f).first⟩
def zAD (t : zT) (p : Int) : Nat → RForm
 | 0 => ⟨[zBY], List.replicate t.length 0, []⟩
 | i + 1 => zId p (t.getD i node0) i (zAD t p i)
theorem zHC {m : List (Int × Nat)} {k : Int} (h : zBI m k = none) : k ∉ m.map Prod.fst := by
 unfold zBI at h
 rw [Option.map_eq_none_iff, List.find?_eq_none] at h
 intro hk
 obtain ⟨x, hx, rfl⟩ := List.mem_map.1 hk
 exact h x hx (by simp)
theorem zCJ {m : List (Int × Nat)} {k : Int} {s : Nat} (h : zBI m k = some s) : (k, s) ∈ m := by
 unfold zBI at h
 obtain ⟨x, hx, rfl⟩ := Option.map_eq_some_iff.1 h
 have h1 := List.mem_of_find?_eq_some hx
 have h2 := List.find?_some hx
 have h3 : x.1 = k := by simpa using h2
 rw [← h3]; exact h1
theorem zIJ (v : Nat → Int) : ∀ (l : List Int) (k : Nat) (a : List Int), (zDS v l k a).length = a.length
 | [], _, a => rfl
 | c :: r, k, a => by rw [zDS, zIJ v r]; simp
theorem zIZ {v : Nat → Int} {P : Int → Prop} : ∀ (l : List Int) (k : Nat) (a : List Int), (∀ x ∈ a, P x) → (∀ j, k ≤ j → j < k + l.length → P (v j)) → ∀ x ∈ zDS v l k a, P x
 | [], _, a, h, _ => h
 | c :: r, k, a, h, hv => by
   rw [zDS]
   refine zIZ r (k + 1) _ (fun x hx => ?_) (fun j h1 h2 => hv j (by omega) (by simp; omega))
   rcases List.mem_or_eq_of_mem_set hx with q | q
   · exact h x q
   · rw [q]; exact hv k (Nat.le_refl _) (by simp)
theorem zDa {t : zT} (h : Valid t) {p x : Int} {i : Nat} (hi : i < t.length) (hs : zA6 p x (t.getD i node0) = true) : zc t p x = (t.getD i node0).next.length := by
 have hex : ∃ y ∈ t, zA6 p x y = true := ⟨_, zAr node0 hi, hs⟩
 have hlt : zIn t p x < t.length := List.findIdx_lt_length_of_exists hex
 have hin : zA6 p x (t.getD (zIn t p x) node0) = true := by
   rw [zAe node0 hlt]
   exact List.findIdx_getElem
 unfold zA6 at hs hin
 rw [Bool.and_eq_true, decide_eq_true_eq] at hs hin
 exact h.width hlt hi hin.1 hs.1 (by rw [hin.2, hs.2])
structure RI (t : zT) (p : Int) (i : Nat) (f : RForm) : Prop where
 s0 : f.seqs.getD 0 zBY = zBY ∧ 0 < f.seqs.length
 pl : f.pos.length = t.length
 pb : ∀ x ∈ f.pos, 0 ≤ x ∧ x < f.seqs.length
 keys : ∀ x, x ∈ f.first.map Prod.fst ↔ ∃ j, j < i ∧ zA6 p x (t.getD j node0) = true
 nd : (f.first.map Prod.fst).Nodup
 sl : f.seqs.length = 1 + (f.first.map (fun x => zc t p x.1)).sum
 fst : ∀ x ∈ f.first, 1 ≤ x.2 ∧ x.2 + zc t p x.1 ≤ f.seqs.length ∧ ∃ b : Int, 0 ≤ b ∧ b < x.2 ∧ ∀ k, k < zc t p x.1 → f.seqs.getD (x.2 + k) zBY = ⟨x.1, k, b⟩
 all : ∀ k, 1 ≤ k → k < f.seqs.length → ∃ x ∈ f.first, x.2 ≤ k ∧ k < x.2 + zc t p x.1
theorem RI.init (t : zT) (p : Int) : RI t p 0 (zAD t p 0) where
 s0 := ⟨rfl, Nat.zero_lt_one⟩
 pl := List.length_replicate
 pb := fun x hx => by
   obtain ⟨_, rfl⟩ := List.mem_replicate.1 hx
   exact ⟨by decide, by show (0 : Int) < ((1 : Nat) : Int); decide⟩
 keys := fun x => ⟨fun h => by simp [zAD] at h, fun ⟨j, hj, _⟩ => absurd hj (Nat.not_lt_zero _)⟩
 nd := List.nodup_nil
 sl := rfl
 fst := fun x hx => by simp [zAD] at hx
 all := fun k h1 h2 => by
   have : (zAD t p 0).seqs.length = 1 := rfl
   omega
/-- A new information set. -/
theorem RI.add {t : zT} (hv : Valid t) {p : Int} {i : Nat} {f : RForm} (h : RI t p i f) (hi : i < t.length) :
   RI t p i f → (f.seqs.getD 0 zBY = zBY) → let n := t.getD i node0; let g := zAJ p n i f
   g.seqs.getD 0 zBY = zBY ∧ 0 < g.seqs.length ∧ g.pos = f.pos ∧ f.seqs.length ≤ g.seqs.length ∧ (∀ x, x ∈ g.first.map Prod.fst ↔ ∃ j, j < i + 1 ∧ zA6 p x (t.getD j node0) = true) ∧ (g.first.map Prod.fst).Nodup ∧
   g.seqs.length = 1 + (g.first.map (fun x => zc t p x.1)).sum ∧
   (∀ x ∈ g.first, 1 ≤ x.2 ∧ x.2 + zc t p x.1 ≤ g.seqs.length ∧ ∃ b : Int, 0 ≤ b ∧ b < x.2 ∧ ∀ k, k < zc t p x.1 → g.seqs.getD (x.2 + k) zBY = ⟨x.1, k, b⟩) ∧
   (∀ k, 1 ≤ k → k < g.seqs.length → ∃ x ∈ g.first, x.2 ≤ k ∧ k < x.2 + zc t p x.1) ∧ (own p n = true → ∃ s, zBI g.first n.info = some s) := by
 intro _ _
 obtain ⟨h0, h0l⟩ := h.s0
 intro n g
 have hkey : ∀ x, (∃ j, j < i + 1 ∧ zA6 p x (t.getD j node0) = true) ↔ ((∃ j, j < i ∧ zA6 p x (t.getD j node0) = true) ∨ zA6 p x n = true) := by
   intro x
   constructor
   · rintro ⟨j, h1, h2⟩
     by_cases e : j = i
     · subst e; exact .inr h2
     · exact .inl ⟨j, by omega, h2⟩
   · rintro (⟨j, h1, h2⟩ | h2)
     · exact ⟨j, by omega, h2⟩
     · exact ⟨i, by omega, h2⟩
 by_cases hc : own p n = true ∧ zBI f.first n.info = none
 · have eg : g = ⟨f.seqs ++ zBj n (f.pos.getD i 0), f.pos, f.first ++ [(n.info, f.seqs.length)]⟩ := by
     show zAJ p n i f = _
     unfold zAJ; rw [if_pos hc]
   have hin : zA6 p n.info n = true := by unfold zA6; rw [hc.1]; simp
   have hw : zc t p n.info = n.next.length := zDa hv hi hin
   have hnl : (zBj n (f.pos.getD i 0)).length = n.next.length := by simp [zBj]
   have hno := zHC hc.2
   have hb := h.pb (f.pos.getD i 0) (zAr 0 (by rw [h.pl]; exact hi))
   rw [eg]
   refine ⟨by rw [zFf _ h0l]; exact h0, by rw [List.length_append]; omega, rfl, by rw [List.length_append]; omega, fun x => ?_, ?_, ?_, fun x hx => ?_, fun k h1 h2 => ?_, fun _ => ?_⟩
   · rw [hkey, List.map_append, List.mem_append, h.keys x]
     constructor
     · rintro (q | q)
       · exact .inl q
       · right
         have : x = n.info := by simpa using q
         rw [this]; exact hin
     · rintro (q | q)
       · exact .inl q
       · right
         unfold zA6 at q
         rw [Bool.and_eq_true, decide_eq_true_eq] at q
         simp [q.2]
   · rw [List.map_append, List.nodup_append]
     refine ⟨h.nd, by simp, fun a ha b hb e => ?_⟩
     have : b = n.info := by simpa using hb
     rw [← this, ← e] at hno
     exact hno ha
   · rw [List.length_append, hnl, List.map_append, List.sum_append, h.sl]
     simp [hw]
     omega
   · rcases List.mem_append.1 hx with q | q
     · obtain ⟨a1, a2, b, b1, b2, b3⟩ := h.fst x q
       refine ⟨a1, by rw [List.length_append]; omega, b, b1, b2, fun k hk => ?_⟩
       rw [zFf _ (by omega)]
       exact b3 k hk
     · have hx' : x = (n.info, f.seqs.length) := by simpa using q
       subst hx'
       refine ⟨h0l, by rw [List.length_append, hnl]; show _ + zc t p n.info ≤ _; omega, f.pos.getD i 0, hb.1, hb.2, fun k hk => ?_⟩
       have hk : k < n.next.length := by
         have : k < zc t p n.info := hk
         omega
       show (f.seqs ++ zBj n (f.pos.getD i 0)).getD (f.seqs.length + k) zBY = _
       have e : (f.seqs ++ zBj n (f.pos.getD i 0)).getD (f.seqs.length + k) zBY = (zBj n (f.pos.getD i 0)).getD k zBY := by
         simp only [List.getD]
         rw [List.getElem?_append_right (by omega), Nat.add_sub_cancel_left]
       rw [e]
       unfold zBj
       rw [zCt _ _ 0 _ _ (by simpa using hk)]
       simp [List.getD, hk]
   · rw [List.length_append, hnl] at h2
     by_cases hk : k < f.seqs.length
     · obtain ⟨x, x1, x2, x3⟩ := h.all k h1 hk
       exact ⟨x, List.mem_append_left _ x1, x2, x3⟩
     · refine ⟨(n.info, f.seqs.length), by simp, by show f.seqs.length ≤ k; omega, by show k < f.seqs.length + zc t p n.info; omega⟩
   · refine ⟨f.seqs.length, ?_⟩
     unfold zBI at hc ⊢
     rw [Option.map_eq_none_iff] at hc
     rw [List.find?_append, hc.2]
     simp
 · have eg : g = f := by
     show zAJ p n i f = _
     unfold zAJ; rw [if_neg hc]
   rw [eg]
   have hold : own p n = true → ∃ s, zBI f.first n.info = some s := by
     intro ho
     cases e : zBI f.first n.info with
     | none => exact absurd ⟨ho, e⟩ hc
     | some s => exact ⟨s, rfl⟩
   refine ⟨h0, h0l, rfl, Nat.le_refl _, fun x => ?_, h.nd, h.sl, h.fst, h.all, hold⟩
   rw [hkey, h.keys x]
   constructor
   · exact .inl
   · rintro (q | q)
     · exact q
     · unfold zA6 at q
       rw [Bool.and_eq_true, decide_eq_true_eq] at q
       obtain ⟨s, hs⟩ := hold q.1
       refine (h.keys x).1 ?_
       rw [← q.2]
       exact List.mem_map.2 ⟨_, zCJ hs, rfl⟩
theorem RI.step {t : zT} (hv : Valid t) {p : Int} {i : Nat} {f : RForm} (h : RI t p i f) (hi : i < t.length) : RI t p (i + 1) (zId p (t.getD i node0) i f) := by
 obtain ⟨a1, a2, a3, a4, a5, a6, a7, a8, a9, a10⟩ := RI.add hv h hi h h.s0.1
 generalize hn : t.getD i node0 = n at *
 generalize hg : zAJ p n i f = g at *
 have est : zId p n i f = ⟨g.seqs, zDS (zGw p n i g) n.next 0 g.pos, g.first⟩ := by unfold zId; rw [hg]
 rw [est]
 refine ⟨⟨a1, a2⟩, by rw [zIJ, a3]; exact h.pl, zIZ _ _ _ (fun x hx => ?_) (fun j h1 h2 => ?_), a5, a6, a7, a8, a9⟩
 · rw [a3] at hx
   have := h.pb x hx
   show 0 ≤ x ∧ x < ((g.seqs.length : Nat) : Int)
   omega
 · show 0 ≤ zGw p n i g j ∧ zGw p n i g j < ((g.seqs.length : Nat) : Int)
   unfold zGw
   split
   · rename_i ho
     obtain ⟨s, hs⟩ := a10 ho
     obtain ⟨b1, b2, _⟩ := a8 _ (zCJ hs)
     have hw : zc t p n.info = n.next.length := by
       rw [← hn]
       refine zDa hv hi ?_
       unfold zA6
       rw [hn, ho]; simp
     rw [hs]
     simp only [Option.getD_some] at *
     omega
   · rw [a3]
     have := h.pb (f.pos.getD i 0) (zAr 0 (by rw [h.pl]; exact hi))
     omega
theorem RI.all_n {t : zT} (hv : Valid t) (p : Int) : ∀ i, i ≤ t.length → RI t p i (zAD t p i)
 | 0, _ => RI.init t p
 | i + 1, hi => (RI.all_n hv p i (by omega)).step hv (by omega)
def zf (t : zT) (p : Int) : List RSeq := (zAD t p t.length).seqs
theorem zBn {t : zT} (hv : Valid t) {p x : Int} : x ∈ zd t p ↔ ∃ j, j < t.length ∧ zA6 p x (t.getD j node0) = true := by
 unfold zd
 rw [List.mem_filter, List.any_eq_true]
 constructor
 · rintro ⟨_, y, hy, h2⟩
   obtain ⟨j, hj, rfl⟩ := List.getElem_of_mem hy
   exact ⟨j, hj, by rw [zAe node0 hj]; exact h2⟩
 · rintro ⟨j, hj, h2⟩
   refine ⟨?_, t.getD j node0, zAr node0 hj, h2⟩
   unfold zA6 at h2
   rw [Bool.and_eq_true, decide_eq_true_eq] at h2
   have hm := hv.mine hj h2.1
   rw [h2.2] at hm
   refine List.mem_map.2 ⟨x.toNat, List.mem_range.2 (by omega), by omega⟩
theorem zGK (t : zT) (p : Int) : (zd t p).Nodup := by
 unfold zd
 refine List.Nodup.sublist List.filter_sublist ?_
 rw [List.nodup_iff_pairwise_ne, List.pairwise_map]
 exact (List.nodup_iff_pairwise_ne.1 List.nodup_range).imp (fun h => by omega)
/-- RecallNumbers: how the sequences are numbered. -/
theorem zAm {t : zT} (hv : Valid t) (p : Int) :
   (zf t p).length = 1 + ((zd t p).map (zc t p)).sum ∧ (zf t p).getD 0 zBY = zBY ∧ 0 < (zf t p).length ∧
   ∀ k, k + 1 < (zf t p).length → ((zf t p).getD (k + 1) zBY).info ∈ zd t p ∧ 0 ≤ ((zf t p).getD (k + 1) zBY).before ∧ ((zf t p).getD (k + 1) zBY).before ≤ k ∧
     (0 < ((zf t p).getD (k + 1) zBY).choice → (zf t p).getD k zBY = ⟨((zf t p).getD (k + 1) zBY).info, ((zf t p).getD (k + 1) zBY).choice - 1, ((zf t p).getD (k + 1) zBY).before⟩) := by
 have h := RI.all_n hv p t.length (Nat.le_refl _)
 have hperm : ((zAD t p t.length).first.map Prod.fst).Perm (zd t p) :=
   (List.perm_ext_iff_of_nodup h.nd (zGK t p)).2 (fun x => by rw [h.keys x, zBn hv])
 refine ⟨?_, h.s0.1, h.s0.2, fun k hk => ?_⟩
 · show (zAD t p t.length).seqs.length = _
   rw [h.sl, ← (hperm.map (zc t p)).sum_nat, List.map_map]
   rfl
 · obtain ⟨x, x1, x2, x3⟩ := h.all (k + 1) (by omega) hk
   obtain ⟨y1, y2, b, b1, b2, b3⟩ := h.fst x x1
   have e1 := b3 (k + 1 - x.2) (by omega)
   rw [show x.2 + (k + 1 - x.2) = k + 1 by omega] at e1
   have e1' : (zf t p).getD (k + 1) zBY = ⟨x.1, ((k + 1 - x.2 : Nat) : Int), b⟩ := e1
   rw [e1']
   refine ⟨hperm.mem_iff.1 (List.mem_map.2 ⟨x, x1, rfl⟩), b1, by show b ≤ (k : Int); omega, fun hc => ?_⟩
   have hc : (0 : Int) < ((k + 1 - x.2 : Nat) : Int) := hc
   have e2 := b3 (k - x.2) (by omega)
   rw [show x.2 + (k - x.2) = k by omega] at e2
   have e2' : (zf t p).getD k zBY = ⟨x.1, ((k - x.2 : Nat) : Int), b⟩ := e2
   rw [e2']
   show (⟨x.1, _, b⟩ : RSeq) = ⟨x.1, ((k + 1 - x.2 : Nat) : Int) - 1, b⟩
   congr 1
   omega
end Go.Ax.Rt
namespace Go.Ax.Rt
open Go.Ax.Bg
/-- What is left of a number that may be negative. -/
def posQ (q : Rat) : Rat := if q.num < 0 then 0 else q
def zAk : Rat → List Rat → Rat
 | acc, [] => acc
 | acc, q :: r => zAk (acc + q) r
def matchQ (x : List Rat) : List Rat :=
 if zAk 0 (x.map posQ) = 0 then (x.map posQ).map (fun _ => Rat.divInt 1 x.length) else (x.map posQ).map (fun q => q / zAk 0 (x.map posQ))
/-- regret.Match -/
def matchR (v : List zAG) : List zAG × Int :=
 if v = [] then ([], 8) else if 12 < v.length then ([], 2) else if zIi v ≠ 0 then ([], zIi v) else zA2 (matchQ (v.map zAU))
theorem zIw : ∀ (qs : List Rat) (acc : Rat), (∀ q ∈ qs, 0 ≤ q) → acc ≤ zAk acc qs
 | [], acc, _ => Rat.le_refl
 | q :: r, acc, h => by
   rw [zAk]
   refine Rat.le_trans ?_ (zIw r _ (fun x hx => h x (by simp [hx])))
   have := (Rat.add_le_add_left (c := acc)).2 (h q (by simp))
   rwa [Rat.add_zero] at this
structure Matched (v p : List zAG) : Prop where
 res : matchR v = (p, 0)
 len : p.length = v.length
 odds : zCm p = 0
 zero : (∃ s ∈ v, 0 < zAU s) → ∀ i, i < v.length → (p.getD i [] ≠ [48] ↔ 0 < zAU (v.getD i []))
 good : ∀ s ∈ v, zCq s = 0
end Go.Ax.Rt
namespace Go.Ax.Rt
open Go.Ax.Bg
abbrev zCH := List (Int × Int)
/-- matgame.Check -/
def gameE (m : List (List zAG)) : Int := if 12 < m.length then 2 else if zHT m ≠ 0 then zHT m else if zDq m = 0 then 8 else if 12 < zDq m then 2 else 0
def outside (m : List (List zAG)) (x : Int × Int) : Bool := decide (x.1 < 0) || (decide ((m.length : Int) ≤ x.1) || (decide (x.2 < 0) || decide ((zDq m : Int) ≤ x.2)))
/-- regret.Check -/
def zKe (m : List (List zAG)) (l : zCH) : Int := if gameE m ≠ 0 then gameE m else if 200 < l.length then 2 else if l.any (outside m) = true then 4 else 0
/-- How often a row, a column was played. -/
def cnt (f : Int × Int → Int) (l : zCH) (i : Nat) : Nat := (l.filter (fun x => decide (f x = (i : Int)))).length
def cntQ (f : Int × Int → Int) (l : zCH) (n : Nat) : List Rat := (List.range n).map (fun i => ((cnt f l i : Nat) : Rat))
def rowsS (m : List (List Rat)) (l : zCH) (w : Nat) : List Rat := m.map (fun r => dotQ r (cntQ Prod.snd l w))
def colsS (m : List (List Rat)) (l : zCH) (w : Nat) : List Rat := (colsQ m w).map (fun c => dotQ c (cntQ Prod.fst l m.length))
def elQ (m : List (List Rat)) (x : Int × Int) : Rat := (m.getD x.1.toNat []).getD x.2.toNat 0
def gotQ (m : List (List Rat)) (l : zCH) : Rat := zAk 0 (l.map (elQ m))
def regA (m : List (List Rat)) (l : zCH) (w : Nat) : List Rat := (rowsS m l w).map (fun q => q - gotQ m l)
def regB (m : List (List Rat)) (l : zCH) (w : Nat) : List Rat := (colsS m l w).map (fun q => gotQ m l - q)
def bothR (a b : List Rat) : (List zAG × List zAG) × Int := if (zA2 a).2 ≠ 0 then (([], []), 2) else if (zA2 b).2 ≠ 0 then (([], []), 2) else ((a.map zAK, b.map zAK), 0)
/-- regret.Regrets -/
def regretsR (m : List (List zAG)) (l : zCH) : (List zAG × List zAG) × Int := if zKe m l ≠ 0 then (([], []), zKe m l) else bothR (regA (inM m) l (zDq m)) (regB (inM m) l (zDq m))
/-- The first greatest number, or the first least one. -/
def zKn (sg : Int) (x : List Rat) : Nat → Nat
 | 0 => 0
 | k + 1 => if 0 < zI1 (x.getD k 0) (x.getD (zKn sg x k) 0) * sg then k else zKn sg x k
def lowQ (m : List (List Rat)) (l : zCH) (w : Nat) : Rat := (colsS m l w).getD (zKn (-1) (colsS m l w) w) 0
def highQ (m : List (List Rat)) (l : zCH) (w : Nat) : Rat := (rowsS m l w).getD (zKn 1 (rowsS m l w) m.length) 0
/-- regret.Bounds -/
def boundsR (m : List (List zAG)) (l : zCH) : (zAG × zAG) × Int :=
 if zKe m l ≠ 0 then (([], []), zKe m l) else if l = [] then (([], []), 8)
 else if zBp (lowQ (inM m) l (zDq m) / (l.length : Nat)) && zBp (highQ (inM m) l (zDq m) / (l.length : Nat)) then ((zAK (lowQ (inM m) l (zDq m) / (l.length : Nat)), zAK (highQ (inM m) l (zDq m) / (l.length : Nat))), 0) else (([], []), 2)
/-- The law. -/
structure Zero (m : List (List zAG)) (l : zCH) (a b : List zAG) (lo hi : zAG) : Prop where
 reg : regretsR m l = ((a, b), 0)
 bnd : boundsR m l = ((lo, hi), 0)
 ga : ∀ s ∈ a, zCq s = 0
 gb : ∀ s ∈ b, zCq s = 0
 la : a.length = m.length
 lb : b.length = zDq m
 best : ∃ i k s q, zGv a = (((i : Nat) : Int), 0) ∧ zGv b = (((k : Nat) : Int), 0) ∧ i < a.length ∧ k < b.length ∧ twoR (fun x y => x + y) (a.getD i []) (b.getD k []) = (s, 0) ∧ divR s (zAK ((l.length : Nat) : Rat)) = (q, 0) ∧ twoR (fun x y => x - y) hi lo = (q, 0)
/-- One round more. -/
structure PlaySt where
 rows : List Rat
 cols : List Rat
 out : List (Nat × Nat)
def playStep (m : List (List Rat)) (s : PlaySt) : PlaySt :=
 let i := zKn 1 s.rows s.rows.length
 let k := zKn (-1) s.cols s.cols.length
 ⟨(List.range s.rows.length).map (fun j => s.rows.getD j 0 + (m.getD j []).getD k 0), (List.range s.cols.length).map (fun j => s.cols.getD j 0 + (m.getD i []).getD j 0), s.out ++ [(i, k)]⟩
def playN (m : List (List Rat)) (w : Nat) : Nat → PlaySt
 | 0 => ⟨List.replicate m.length 0, List.replicate w 0, []⟩
 | n + 1 => playStep m (playN m w n)
def histOf (l : List (Nat × Nat)) : zCH := l.map (fun x => ((x.1 : Int), (x.2 : Int)))
/-- regret.Play -/
def playR (m : List (List zAG)) (n : Int) : zCH × Int := if gameE m ≠ 0 then ([], gameE m) else if n < 0 ∨ 200 < n then ([], 4) else (histOf (playN (inM m) (zDq m) n.toNat).out, 0)
end Go.Ax.Rt
namespace Go.Ax.Rt
open Go.Ax.Bg
theorem zH0 (q : Rat) : ∀ (l : List Rat) (acc : Rat), zAk acc (l ++ [q]) = zAk acc l + q
 | [], acc => rfl
 | a :: r, acc => by rw [List.cons_append, zAk, zAk, zH0 q r]
theorem sumQ_Dk {k : Nat} {l : List Rat} (h : ∀ q ∈ l, D k q) : ∀ {acc : Rat} {j : Nat}, D j acc → D (j + l.length * (k + 1)) (zAk acc l) := by
 induction l with
 | nil => intro acc j ha; rw [List.length_nil, Nat.zero_mul]; exact ha
 | cons a r ih =>
   intro acc j ha
   rw [zAk, List.length_cons, Nat.add_mul]
   exact (ih (fun q hq => h q (by simp [hq])) (ha.add (h a (by simp)))).mono (by omega)
/-- The first k elements are changed. -/
def zFM {α : Type} (f : α → α) (x : List α) (k : Nat) : List α := (x.take k).map f ++ x.drop k
theorem zJT {α : Type} (f : α → α) (x : List α) (k : Nat) : (zFM f x k).length = x.length := by
 simp [zFM]; omega
theorem zJn {α : Type} (f : α → α) (x : List α) (d : α) {k : Nat} (hk : k < x.length) : (zFM f x k).getD k d = x.getD k d := by
 have h : ((x.take k).map f).length = k := by simp; omega
 unfold zFM
 simp only [List.getD]
 rw [List.getElem?_append_right (by omega), h, Nat.sub_self, List.getElem?_drop, Nat.add_zero]
/-- The counters, as integers. -/
def cntI (f : Int × Int → Int) (l : zCH) (n : Nat) : List Int := (List.range n).map (fun i => ((cnt f l i : Nat) : Int))
/-- The first k elements have something added. -/
def updL (g : Nat → Rat) (x : List Rat) (k : Nat) : List Rat := (List.range x.length).map (fun j => if j < k then x.getD j 0 + g j else x.getD j 0)
end Go.Ax.Rt
namespace Go.Ax.Rt
open Go.Ax.Bg
theorem zKv : ∀ (m : Nat) (l : List Rat), m ≤ l.length → zBc (fun c => l.getD c 0) m = zAk 0 (l.take m)
 | 0, l, _ => rfl
 | m + 1, l, h => by
   rw [zBc, zKv m l (by omega), List.take_succ_eq_append_getElem (by omega), zH0, zAe 0 (by omega)]
def zEA (o : Int → List Rat) (s : RSeq) (P : List Rat) : Rat := if s.before < 0 then 1 else P.getD s.before.toNat 0 * (o s.info).getD s.choice.toNat 0
def zEB (l : List RSeq) (o : Int → List Rat) : Nat → List Rat
 | 0 => []
 | k + 1 => zEB l o k ++ [zEA o (l.getD k zBY) (zEB l o k)]
theorem zHs (l : List RSeq) (o : Int → List Rat) : ∀ k, (zEB l o k).length = k
 | 0 => rfl
 | k + 1 => by rw [zEB, List.length_append, zHs l o k]; rfl
theorem zD4 (l : List RSeq) (o : Int → List Rat) {j : Nat} : ∀ {k : Nat}, j < k → (zEB l o k).getD j 0 = zEA o (l.getD j zBY) (zEB l o j)
 | 0, h => absurd h (Nat.not_lt_zero _)
 | k + 1, h => by
   rw [zEB]
   by_cases e : j = k
   · subst e
     have : (zEB l o j ++ [zEA o (l.getD j zBY) (zEB l o j)]).getD j 0 = zEA o (l.getD j zBY) (zEB l o j) := by
       have h2 := get_end (l := zEB l o j) (x := zEA o (l.getD j zBY) (zEB l o j)) (d := 0)
       rwa [zHs] at h2
     exact this
   · rw [zFf 0 (by rw [zHs]; omega)]
     exact zD4 l o (by omega)
theorem zIz (l : List RSeq) (o : Int → List Rat) {j k n : Nat} (h1 : j < k) (h2 : j < n) : (zEB l o k).getD j 0 = (zEB l o n).getD j 0 := by
 rw [zD4 l o h1, zD4 l o h2]
theorem zOw {m : List (Int × Nat)} (h : (m.map Prod.fst).Nodup) {x y : Int × Nat} (hx : x ∈ m) (hy : y ∈ m) (e : x.1 = y.1) : x = y := by
 obtain ⟨i, hi, rfl⟩ := List.getElem_of_mem hx
 obtain ⟨j, hj, rfl⟩ := List.getElem_of_mem hy
 have hp := List.pairwise_iff_getElem.1 h
 rcases Nat.lt_trichotomy i j with q | q | q
 · exact absurd (by rw [List.getElem_map, List.getElem_map]; exact e) (hp i j (by simpa using hi) (by simpa using hj) q)
 · subst q; rfl
 · exact absurd (by rw [List.getElem_map, List.getElem_map]; exact e.symm) (hp j i (by simpa using hj) (by simpa using hi) q)
theorem zMd {t : zT} (hv : Valid t) (p : Int) : (zf t p).length ≤ 61 := by
 have h := (zAm hv p).1
 rw [h]
 have h1 : (zd t p).length ≤ 10 := by
   unfold zd
   refine Nat.le_trans (List.length_filter_le _ _) (by simp)
 have h2 : ∀ x ∈ zd t p, zc t p x ≤ 6 := by
   intro x hx
   obtain ⟨j, hj, hs⟩ := (zBn hv).1 hx
   rw [zDa hv hj hs]
   exact hv.few hj
 have key : ∀ l : List Int, (∀ x ∈ l, zc t p x ≤ 6) → (l.map (zc t p)).sum ≤ 6 * l.length := by
   intro l
   induction l with
   | nil => intro _; exact Nat.le_refl _
   | cons a r ih =>
     intro hl
     have h3 := hl a (by simp)
     have h4 := ih (fun x hx => hl x (by simp [hx]))
     simp only [List.map_cons, List.sum_cons, List.length_cons]
     omega
 have := key _ h2
 omega
/-- The probabilities that belong to a strategy. -/
structure Strat (t : zT) (p : Int) (o : Int → List Rat) (k : Nat) : Prop where
 len : ∀ x ∈ zd t p, (o x).length = zc t p x
 sum : ∀ x ∈ zd t p, zAk 0 (o x) = 1
 nn : ∀ x ∈ zd t p, ∀ q ∈ o x, 0 ≤ q
 dig : ∀ x ∈ zd t p, ∀ q ∈ o x, D k q
def zCK (t : zT) (p : Int) (o : Int → List Rat) : List Rat := zEB (zf t p) o (zf t p).length
/-- What stands at a sequence that is not the first one. -/
theorem seq_at {t : zT} (hv : Valid t) {p : Int} {k : Nat} (h1 : 1 ≤ k) (hk : k < (zf t p).length) : ∃ (x : Int × Nat) (b : Nat), x ∈ (zAD t p t.length).first ∧ x.1 ∈ zd t p ∧ x.2 ≤ k ∧ k < x.2 + zc t p x.1 ∧ b < x.2 ∧ 1 ≤ x.2 ∧ x.2 + zc t p x.1 ≤ (zf t p).length ∧
   ∀ c, c < zc t p x.1 → (zf t p).getD (x.2 + c) zBY = ⟨x.1, (c : Int), (b : Int)⟩ := by
 have h := RI.all_n hv p t.length (Nat.le_refl _)
 obtain ⟨x, x1, x2, x3⟩ := h.all k h1 hk
 obtain ⟨y1, y2, b, b1, b2, b3⟩ := h.fst x x1
 obtain ⟨n, rfl⟩ := Int.eq_ofNat_of_zero_le b1
 exact ⟨x, n, x1, (zBn hv).2 ((h.keys x.1).1 (List.mem_map.2 ⟨x, x1, rfl⟩)), x2, x3, by omega, y1, y2, b3⟩
end Go.Ax.Rt
namespace Go.Ax.Rt
open Go.Ax.Bg
abbrev Way := List (Int × Int)
def zGh (v : Nat → Way) : List Int → Nat → List Way → List Way
 | [], _, a => a
 | c :: r, k, a => zGh v r (k + 1) (a.set c.toNat (v k))
theorem zIT (v : Nat → Way) : ∀ (l : List Int) (k : Nat) (a : List Way), (zGh v l k a).length = a.length
 | [], _, a => rfl
 | c :: r, k, a => by rw [zGh, zIT v r]; simp
def zII (p : Int) (n : TNode) (w : Way) (k : Nat) : Way := if own p n = true then w ++ [(n.info, (k : Int))] else w
def zBH (t : zT) (p : Int) : Nat → List Way
 | 0 => List.replicate t.length []
 | i + 1 => zGh (zII p (t.getD i node0) ((zBH t p i).getD i [])) (t.getD i node0).next 0 (zBH t p i)
theorem zE0 (t : zT) (p : Int) : ∀ i, (zBH t p i).length = t.length
 | 0 => List.length_replicate
 | i + 1 => by rw [zBH, zIT, zE0 t p i]
def zAv (t : zT) (p : Int) : Nat → List (Int × Nat)
 | 0 => []
 | i + 1 => if own p (t.getD i node0) = true ∧ zBI (zAv t p i) (t.getD i node0).info = none then zAv t p i ++ [((t.getD i node0).info, i)] else zAv t p i
def zEi (t : zT) (p : Int) (W : List Way) : Nat → Bool
 | 0 => true
 | i + 1 => zEi t p W i && (if own p (t.getD i node0) = true then (match zBI (zAv t p i) (t.getD i node0).info with | none => true | some k => decide (W.getD i [] = W.getD k [])) else true)
def zCL (t : zT) (p : Int) : Bool := zEi t p (zBH t p t.length) t.length
theorem zEc {t : zT} {p : Int} : ∀ {i : Nat} {x : Int × Nat}, x ∈ zAv t p i → x.2 < i ∧ own p (t.getD x.2 node0) = true ∧ (t.getD x.2 node0).info = x.1
 | 0, x, h => by simp [zAv] at h
 | i + 1, x, h => by
   rw [zAv] at h
   split at h
   · rename_i hc
     rcases List.mem_append.1 h with q | q
     · obtain ⟨h1, h2⟩ := zEc q
       exact ⟨by omega, h2⟩
     · have : x = ((t.getD i node0).info, i) := by simpa using q
       subst this
       exact ⟨Nat.lt_succ_self _, hc.1, rfl⟩
   · obtain ⟨h1, h2⟩ := zEc h
     exact ⟨by omega, h2⟩
/-- RecallAlone: with at most one node in each set. -/
theorem alone {t : zT} {p : Int} (h : ∀ i j, i < j → j < t.length → own p (t.getD i node0) = true → own p (t.getD j node0) = true → (t.getD i node0).info ≠ (t.getD j node0).info) : zCL t p = true := by
 unfold zCL
 have key : ∀ (W : List Way) (i : Nat), i ≤ t.length → zEi t p W i = true := by
   intro W i
   induction i with
   | zero => intro _; rfl
   | succ i ih =>
     intro hi
     rw [zEi, ih (by omega), Bool.true_and]
     split
     · rename_i ho
       cases e : zBI (zAv t p i) (t.getD i node0).info with
       | none => rfl
       | some k =>
         obtain ⟨h1, h2, h3⟩ := zEc (zCJ e)
         exact absurd h3 (h k i h1 (by omega) h2 ho)
     · rfl
 exact key _ _ (Nat.le_refl _)
end Go.Ax.Rt
namespace Go.Ax.Rt
open Go.Ax.Bg
/-- The probabilities of the children of a node: none where a node has no own ones. -/
abbrev z7 := Nat → Option (List Rat)
def setQ (v : Nat → Rat) : List Int → Nat → List Rat → List Rat
 | [], _, a => a
 | c :: r, k, a => setQ v r (k + 1) (a.set c.toNat (v k))
theorem zMj (v : Nat → Rat) : ∀ (l : List Int) (k : Nat) (a : List Rat), (setQ v l k a).length = a.length
 | [], _, a => rfl
 | c :: r, k, a => by rw [setQ, zMj v r]; simp
def zLR (o : Option (List Rat)) (q : Rat) (k : Nat) : Rat := match o with | none => q | some l => q * l.getD k 0
def zBm (t : zT) (o : z7) : Nat → List Rat
 | 0 => (List.replicate t.length 0).set 0 1
 | i + 1 => setQ (zLR (o i) ((zBm t o i).getD i 0)) (t.getD i node0).next 0 (zBm t o i)
def zU (t : zT) (o : z7) : List Rat := zBm t o t.length
theorem zCI (t : zT) (o : z7) : ∀ i, (zBm t o i).length = t.length
 | 0 => by simp [zBm]
 | i + 1 => by rw [zBm, zMj, zCI t o i]
theorem zFR (v : Nat → Rat) {j : Nat} : ∀ (l : List Int) (k : Nat) (a : List Rat), (∀ c ∈ l, c.toNat ≠ j) → (setQ v l k a).getD j 0 = a.getD j 0
 | [], _, a, _ => rfl
 | c :: r, k, a, h => by
   rw [setQ, zFR v r (k + 1) _ (fun c hc => h c (by simp [hc])), Go.Ax.Dt.getD_set, if_neg]
   exact fun q => h c (by simp) q.1.symm
theorem zOa (v : Nat → Rat) : ∀ (l : List Int) (k : Nat) (a : List Rat) (m : Nat), m < l.length → (l.map Int.toNat).Nodup → (∀ c ∈ l, c.toNat < a.length) → (setQ v l k a).getD (l.getD m 0).toNat 0 = v (k + m)
 | [], _, a, m, h, _, _ => absurd h (Nat.not_lt_zero _)
 | c :: r, k, a, m, h, hn, hl => by
   rw [List.map_cons, List.nodup_cons] at hn
   rw [setQ]
   cases m with
   | zero =>
     have : (c :: r).getD 0 0 = c := rfl
     rw [this, zFR, Go.Ax.Dt.getD_set, if_pos ⟨rfl, hl c (by simp)⟩, Nat.add_zero]
     intro x hx e
     exact hn.1 (List.mem_map.2 ⟨x, hx, e⟩)
   | succ m =>
     have : (c :: r).getD (m + 1) 0 = r.getD m 0 := rfl
     rw [this, zOa v r (k + 1) _ m (by simpa using h) hn.2 (fun x hx => by rw [List.length_set]; exact hl x (by simp [hx]))]
     congr 1; omega
/-- Who names whom. -/
def kid (t : zT) (i : Nat) (c : Nat) : Prop := (c : Int) ∈ (t.getD i node0).next
theorem zJP (l : List Int) (k : Int) : (l.filter (fun x => decide (x = k))).length = l.count k := by
 rw [List.count_eq_length_filter]
 congr 1
theorem zKK (t : zT) (k : Nat) : named t k = (t.map (fun n => n.next.count (k : Int))).sum := by
 unfold named
 rw [zJP]
 induction t with
 | nil => rfl
 | cons n r ih => rw [List.flatMap_cons, List.count_append, List.map_cons, List.sum_cons, ih]
theorem sum_one {l : List Nat} (h : l.sum = 1) {i j : Nat} (hi : i < l.length) (hj : j < l.length) (hij : i ≠ j) (h1 : 1 ≤ l[i]) (h2 : 1 ≤ l[j]) : False := by
 induction l generalizing i j with
 | nil => simp at hi
 | cons a r ih =>
   have mem_le : ∀ (r : List Nat) (k : Nat) (hk : k < r.length), r[k] ≤ r.sum := by
     intro r
     induction r with
     | nil => intro k hk; simp at hk
     | cons b q ihq =>
       intro k hk
       cases k with
       | zero => simp
       | succ k =>
         have := ihq k (by simpa using hk)
         simp only [List.getElem_cons_succ, List.sum_cons]
         omega
   rw [List.sum_cons] at h
   cases i with
   | zero =>
     cases j with
     | zero => exact hij rfl
     | succ j =>
       have := mem_le r j (by simpa using hj)
       simp only [List.getElem_cons_zero, List.getElem_cons_succ] at h1 h2
       omega
   | succ i =>
     cases j with
     | zero =>
       have := mem_le r i (by simpa using hi)
       simp only [List.getElem_cons_zero, List.getElem_cons_succ] at h1 h2
       omega
     | succ j =>
       simp only [List.getElem_cons_succ] at h1 h2
       have := mem_le r i (by simpa using hi)
       refine ih (by omega) (by simpa using hi) (by simpa using hj) (by omega) h1 h2
/-- Each node but the first has one parent, and is named once there. -/
theorem Valid.parent {t : zT} (h : Valid t) {c i j : Nat} (hc : c < t.length) (h0 : c ≠ 0) (hi : i < t.length) (hj : j < t.length) (k1 : kid t i c) (k2 : kid t j c) : i = j := by
 have hn := h.once c hc h0
 rw [zKK] at hn
 apply Classical.byContradiction
 intro hij
 refine sum_one hn (i := i) (j := j) (by simpa using hi) (by simpa using hj) hij ?_ ?_
 · rw [List.getElem_map, ← zAe node0 hi]
   exact List.count_pos_iff.2 k1
 · rw [List.getElem_map, ← zAe node0 hj]
   exact List.count_pos_iff.2 k2
theorem Valid.has {t : zT} (h : Valid t) {c : Nat} (hc : c < t.length) (h0 : c ≠ 0) : ∃ i, i < t.length ∧ kid t i c := by
 have hn := h.once c hc h0
 unfold named at hn
 have hne : (t.flatMap TNode.next).filter (fun x => decide (x = (c : Int))) ≠ [] := by intro e; rw [e] at hn; cases hn
 obtain ⟨x, hx⟩ := List.exists_mem_of_ne_nil _ hne
 obtain ⟨h1, h2⟩ := List.mem_filter.1 hx
 obtain ⟨n, hn1, hn2⟩ := List.mem_flatMap.1 h1
 obtain ⟨i, hi, rfl⟩ := List.getElem_of_mem hn1
 refine ⟨i, hi, ?_⟩
 unfold kid
 rw [zAe node0 hi]
 have : x = (c : Int) := by simpa using h2
 rw [← this]; exact hn2
theorem Valid.kid_lt {t : zT} (h : Valid t) {c i : Nat} (hi : i < t.length) (k : kid t i c) : i < c ∧ c < t.length := by
 have := h.behind hi _ k
 omega
theorem Valid.kids_nodup {t : zT} (h : Valid t) {i : Nat} (hi : i < t.length) : ((t.getD i node0).next.map Int.toNat).Nodup := by
 rw [List.nodup_iff_pairwise_ne, List.pairwise_map, List.pairwise_iff_getElem]
 intro a b ha hb hab e
 have ma := List.getElem_mem ha
 have mb := List.getElem_mem hb
 have b1 := h.behind hi _ ma
 have b2 := h.behind hi _ mb
 have e2 : (t.getD i node0).next[a] = (t.getD i node0).next[b] := by omega
 obtain ⟨c, hc⟩ := Int.eq_ofNat_of_zero_le (show 0 ≤ (t.getD i node0).next[a] by omega)
 have hn := h.once c (by omega) (by omega)
 rw [zKK] at hn
 have h2 : 2 ≤ (t.getD i node0).next.count (c : Int) := by
   have hs : [(c : Int), (c : Int)].Sublist (t.getD i node0).next := by
     have h3 : (t.getD i node0).next = (t.getD i node0).next.take b ++ (t.getD i node0).next.drop b := (List.take_append_drop b _).symm
     rw [h3]
     have h4 : (c : Int) ∈ (t.getD i node0).next.take b := by
       rw [List.mem_take_iff_getElem]
       exact ⟨a, by omega, hc⟩
     have h5 : (c : Int) ∈ (t.getD i node0).next.drop b := by
       rw [List.mem_drop_iff_getElem]
       exact ⟨0, by simpa using hb, by simp only [Nat.add_zero]; rw [← e2]; exact hc⟩
     have := List.Sublist.append (List.singleton_sublist.2 h4) (List.singleton_sublist.2 h5)
     simpa using this
   have := hs.count_le (c : Int)
   simpa using this
 have h6 : (t.map (fun n => n.next.count (c : Int)))[i]'(by simpa using hi) ≤ (t.map (fun n => n.next.count (c : Int))).sum := by
   have mem_le : ∀ (r : List Nat) (k : Nat) (hk : k < r.length), r[k] ≤ r.sum := by
     intro r
     induction r with
     | nil => intro k hk; simp at hk
     | cons b q ihq =>
       intro k hk
       cases k with
       | zero => simp
       | succ k =>
         have := ihq k (by simpa using hk)
         simp only [List.getElem_cons_succ, List.sum_cons]
         omega
   exact mem_le _ _ _
 rw [List.getElem_map, ← zAe node0 hi] at h6
 omega
/-- What does not change any more. -/
theorem zHG {t : zT} (h : Valid t) (o : z7) {j : Nat} (hj : j < t.length) : ∀ d i, j ≤ i → i + d ≤ t.length → (zBm t o (i + d)).getD j 0 = (zBm t o i).getD j 0
 | 0, i, _, _ => rfl
 | d + 1, i, h1, h2 => by
   rw [← Nat.add_assoc, zBm, zFR, zHG h o hj d i h1 (by omega)]
   intro c hc e
   have := h.behind (show i + d < t.length by omega) c hc
   omega
theorem zCR {t : zT} (h : Valid t) (o : z7) : (zU t o).getD 0 0 = 1 := by
 have hn := h.ne
 have := zHG h o (j := 0) (by omega) t.length 0 (Nat.le_refl _) (by omega)
 rw [Nat.zero_add] at this
 unfold zU
 rw [this, zBm, Go.Ax.Dt.getD_set, if_pos ⟨rfl, by simp; omega⟩]
/-- Each child's probability is that of its parent, times that of the choice. -/
theorem zD1 {t : zT} (h : Valid t) (o : z7) {i m : Nat} (hi : i < t.length) (hm : m < (t.getD i node0).next.length) : (zU t o).getD ((t.getD i node0).next.getD m 0).toNat 0 = zLR (o i) ((zU t o).getD i 0) m := by
 have hb := h.behind hi _ (zAr 0 hm)
 have hc : ((t.getD i node0).next.getD m 0).toNat < t.length := by omega
 have h1 : (zBm t o (i + 1)).getD ((t.getD i node0).next.getD m 0).toNat 0 = zLR (o i) ((zBm t o i).getD i 0) m := by
   rw [zBm, zOa _ _ _ _ m hm (h.kids_nodup hi) (fun c hc => by rw [zCI]; have := h.behind hi c hc; omega), Nat.zero_add]
 have h2 := zHG h o (j := i) hi (t.length - i) i (Nat.le_refl _) (by omega)
 rw [show i + (t.length - i) = t.length by omega] at h2
 -- the child is not touched again
 have key : ∀ d, i + 1 + d ≤ t.length → (zBm t o (i + 1 + d)).getD ((t.getD i node0).next.getD m 0).toNat 0 = (zBm t o (i + 1)).getD ((t.getD i node0).next.getD m 0).toNat 0 := by
   intro d
   induction d with
   | zero => intro _; rfl
   | succ d ih =>
     intro hd
     rw [← Nat.add_assoc, zBm, zFR, ih (by omega)]
     intro c hc2 e
     have hc3 := h.behind (show i + 1 + d < t.length by omega) c hc2
     have k1 : kid t i ((t.getD i node0).next.getD m 0).toNat := by
       unfold kid
       rw [show ((((t.getD i node0).next.getD m 0).toNat : Nat) : Int) = (t.getD i node0).next.getD m 0 by omega]
       exact zAr 0 hm
     have k2 : kid t (i + 1 + d) ((t.getD i node0).next.getD m 0).toNat := by
       unfold kid
       rw [← e, show ((c.toNat : Nat) : Int) = c by omega]
       exact hc2
     have := h.parent hc (by omega) hi (by omega) k1 k2
     omega
 have h3 := key (t.length - (i + 1)) (by omega)
 rw [show i + 1 + (t.length - (i + 1)) = t.length by omega] at h3
 unfold zU
 rw [h3, h1, h2]
end Go.Ax.Rt
namespace Go.Ax.Rt
open Go.Ax.Bg
theorem zDz {f : Nat → Rat} {a : Nat} : ∀ {n : Nat}, a < n → zBc (fun j => if j = a then f j else 0) n = f a
 | 0, h => absurd h (Nat.not_lt_zero _)
 | n + 1, h => by
   rw [zBc]
   by_cases e : n = a
   · subst e
     have : zBc (fun j => if j = n then f j else 0) n = 0 := by
       rw [zBM (g := fun _ => 0) (fun i hi => by rw [if_neg (by omega)]), zGX]
     rw [this, if_pos rfl, Rat.zero_add]
   · rw [zDz (n := n) (by omega), if_neg e, Rat.add_zero]
theorem zB3 : ∀ (l : List Rat) (a : Rat), zAk a l = a + zAk 0 l
 | [], a => by rw [zAk, zAk, Rat.add_zero]
 | q :: r, a => by rw [zAk, zAk, zB3 r (a + q), zB3 r (0 + q), Rat.zero_add, Rat.add_assoc]
/-- A sum over some of the indices. -/
theorem zJQ {f : Nat → Rat} {n : Nat} : ∀ (ks : List Nat), ks.Nodup → (∀ k ∈ ks, k < n) → zBc (fun j => if j ∈ ks then f j else 0) n = zAk 0 (ks.map f)
 | [], _, _ => by
   rw [zBM (g := fun _ => 0) (fun i hi => by rw [if_neg (by simp)]), zGX]; rfl
 | a :: r, hn, hl => by
   rw [List.nodup_cons] at hn
   rw [List.map_cons, zAk, zB3, Rat.zero_add, ← zJQ r hn.2 (fun k hk => hl k (by simp [hk])), ← zDz (f := f) (hl a (by simp)), ← zF3]
   refine zBM (fun j hj => ?_)
   by_cases h1 : j = a
   · subst h1
     rw [if_pos (by simp), if_pos rfl, if_neg hn.1, Rat.add_zero]
   · by_cases h2 : j ∈ r
     · rw [if_pos (by simp [h2]), if_neg h1, if_pos h2, Rat.zero_add]
     · rw [if_neg (by simp [h1, h2]), if_neg h1, if_neg h2, Rat.zero_add]
/-- The probabilities at each node that is no end. -/
structure OddsOK (t : zT) (o : z7) (d : Nat) : Prop where
 at' : ∀ i, i < t.length → (t.getD i node0).kind ≠ 0 → ∃ l, o i = some l ∧ l.length = (t.getD i node0).next.length ∧ zAk 0 l = 1 ∧ ∀ q ∈ l, 0 ≤ q ∧ D d q
def zFZ (t : zT) (i : Nat) : List Nat := (t.getD i node0).next.map Int.toNat
theorem zGW {t : zT} (h : Valid t) {i j : Nat} (hi : i < t.length) : j ∈ zFZ t i ↔ kid t i j := by
 unfold zFZ kid
 rw [List.mem_map]
 constructor
 · rintro ⟨x, hx, rfl⟩
   have := h.behind hi x hx
   rw [show ((x.toNat : Nat) : Int) = x by omega]; exact hx
 · intro hx; exact ⟨_, hx, Int.toNat_natCast j⟩
theorem zLj {t : zT} (h : Valid t) {i : Nat} (hi : i < t.length) (hk : (t.getD i node0).kind = 0) : zFZ t i = [] := by
 rcases h.child hi with ⟨_, h2⟩ | ⟨h1, _⟩
 · unfold zFZ; rw [h2]; rfl
 · rcases h1 with h1 | h1 <;> rw [hk] at h1 <;> exact absurd h1 (by decide)
/-- The children together are as probable as their parent. -/
theorem zJA {t : zT} (h : Valid t) {o : z7} {d : Nat} (ho : OddsOK t o d) {i : Nat} (hi : i < t.length) (hk : (t.getD i node0).kind ≠ 0) : zAk 0 ((zFZ t i).map (fun j => (zU t o).getD j 0)) = (zU t o).getD i 0 := by
 obtain ⟨l, h1, h2, h3, h4⟩ := ho.at' i hi hk
 have e : (zFZ t i).map (fun j => (zU t o).getD j 0) = l.map (fun q => (zU t o).getD i 0 * q) := by
   apply List.ext_getElem (by simp [zFZ, h2])
   intro m hm1 hm2
   have hm : m < (t.getD i node0).next.length := by simpa [zFZ] using hm1
   have := zD1 h o hi hm
   rw [h1] at this
   simp only [List.getElem_map]
   have e1 : (zFZ t i)[m]'(by simpa [zFZ] using hm) = ((t.getD i node0).next.getD m 0).toNat := by
     simp only [zFZ, List.getElem_map]
     rw [zAe 0 hm]
   have hml : m < l.length := by rw [h2]; exact hm
   rw [e1, this]
   exact congrArg (fun x => (zU t o).getD i 0 * x) (zAe 0 hml)
 have key : ∀ (q : Rat) (l : List Rat) (a : Rat), zAk (q * a) (l.map (fun x => q * x)) = q * zAk a l := by
   intro q l
   induction l with
   | nil => intro a; rfl
   | cons x r ih => intro a; rw [List.map_cons, zAk, zAk, ← Rat.mul_add, ih]
 rw [e]
 have := key ((zU t o).getD i 0) l 0
 rw [Rat.mul_zero] at this
 rw [this, h3, Rat.mul_one]
def zEs (t : zT) (i j : Nat) : Prop := (j < i ∧ (t.getD j node0).kind = 0) ∨ (i ≤ j ∧ (j = 0 ∨ ∃ a, a < i ∧ kid t a j))
open Classical in
theorem zKO {t : zT} (h : Valid t) {o : z7} {d : Nat} (ho : OddsOK t o d) : ∀ i, i ≤ t.length → zBc (fun j => if zEs t i j then (zU t o).getD j 0 else 0) t.length = 1
 | 0, _ => by
   have hn := h.ne
   rw [zBM (g := fun j => if j = 0 then (zU t o).getD j 0 else 0) (fun j hj => ?_), zDz (by omega), zCR h]
   by_cases e : j = 0
   · rw [if_pos e, if_pos (.inr ⟨Nat.zero_le _, .inl e⟩)]
   · rw [if_neg e, if_neg]
     rintro (⟨q, _⟩ | ⟨_, q | ⟨a, q, _⟩⟩)
     · omega
     · exact e q
     · omega
 | i + 1, hi => by
   have ih := zKO h ho i (by omega)
   have hi' : i < t.length := by omega
   have hfi : zEs t i i := by
     right
     refine ⟨Nat.le_refl _, ?_⟩
     by_cases e : i = 0
     · exact .inl e
     · obtain ⟨a, ha, hk⟩ := h.has hi' e
       exact .inr ⟨a, (h.kid_lt ha hk).1, hk⟩
   have hkn : ∀ j, kid t i j → j < t.length → ¬ zEs t i j := by
     intro j hk hj
     have := h.kid_lt hi' hk
     rintro (⟨q, _⟩ | ⟨_, q | ⟨a, q, hk2⟩⟩)
     · omega
     · omega
     · have := h.parent hj (by omega) hi' (by omega) hk hk2
       omega
   have split1 : zBc (fun j => if zEs t (i + 1) j then (zU t o).getD j 0 else 0) t.length
       = zBc (fun j => (if zEs t i j then (zU t o).getD j 0 else 0) + ((if j ∈ zFZ t i then (zU t o).getD j 0 else 0) + (if j = i then (if (t.getD i node0).kind = 0 then 0 else - (zU t o).getD i 0) else 0))) t.length := by
     refine zBM (fun j hj => ?_)
     have hmk := zGW h hi' (j := j)
     by_cases e : j = i
     · subst e
       have hnk : ¬ kid t j j := fun hk => by have := h.kid_lt hi' hk; omega
       rw [if_pos hfi, if_neg (fun q => hnk (hmk.1 q)), if_pos rfl, Rat.zero_add]
       by_cases hk : (t.getD j node0).kind = 0
       · rw [if_pos hk, if_pos (.inl ⟨Nat.lt_succ_self _, hk⟩), Rat.add_zero]
       · rw [if_neg hk, if_neg, Rat.add_neg_cancel]
         rintro (⟨_, q⟩ | ⟨q, _⟩)
         · exact hk q
         · omega
     · rw [if_neg e, Rat.add_zero]
       by_cases hk : kid t i j
       · rw [if_pos (hmk.2 hk), if_neg (hkn j hk hj), Rat.zero_add, if_pos]
         have := h.kid_lt hi' hk
         exact .inr ⟨by omega, .inr ⟨i, Nat.lt_succ_self _, hk⟩⟩
       · rw [if_neg (fun q => hk (hmk.1 q)), Rat.add_zero]
         have : zEs t (i + 1) j ↔ zEs t i j := by
           constructor
           · rintro (⟨q1, q2⟩ | ⟨q1, q2 | ⟨a, q2, q3⟩⟩)
             · exact .inl ⟨by omega, q2⟩
             · omega
             · by_cases ea : a = i
               · subst ea; exact absurd q3 hk
               · exact .inr ⟨by omega, .inr ⟨a, by omega, q3⟩⟩
           · rintro (⟨q1, q2⟩ | ⟨q1, q2 | ⟨a, q2, q3⟩⟩)
             · exact .inl ⟨by omega, q2⟩
             · subst q2
               have : i = 0 := by omega
               exact absurd this.symm e
             · exact .inr ⟨by omega, .inr ⟨a, by omega, q3⟩⟩
         by_cases hf : zEs t i j
         · rw [if_pos hf, if_pos (this.2 hf)]
         · rw [if_neg hf, if_neg (fun q => hf (this.1 q))]
   rw [split1, zF3, zF3, ih, zJQ (zFZ t i) (h.kids_nodup hi') (fun k hk => (h.kid_lt hi' ((zGW h hi').1 hk)).2)]
   have e2 : zBc (fun j => if j = i then (if (t.getD i node0).kind = 0 then 0 else - (zU t o).getD i 0) else 0) t.length = (if (t.getD i node0).kind = 0 then 0 else - (zU t o).getD i 0) :=
     zDz (f := fun _ => if (t.getD i node0).kind = 0 then 0 else - (zU t o).getD i 0) hi'
   rw [e2]
   by_cases hk : (t.getD i node0).kind = 0
   · rw [if_pos hk, zLj h hi' hk]
     show (1 : Rat) + (0 + 0) = 1
     rw [Rat.add_zero, Rat.add_zero]
   · rw [if_neg hk, zJA h ho hi' hk, Rat.add_neg_cancel, Rat.add_zero]
def zt (t : zT) : List Nat := (List.range t.length).filter (fun i => decide ((t.getD i node0).kind = 0))
theorem zMo {t : zT} (h : Valid t) {o : z7} {d : Nat} (ho : OddsOK t o d) : zAk 0 ((zt t).map (fun j => (zU t o).getD j 0)) = 1 := by
 classical
 have h1 := zKO h ho t.length (Nat.le_refl _)
 rw [← zJQ (n := t.length) (zt t) (List.Nodup.sublist List.filter_sublist List.nodup_range) (fun k hk => by
   have := (List.mem_filter.1 hk).1
   simpa using this), ← h1]
 refine zBM (fun j hj => ?_)
 have : j ∈ zt t ↔ zEs t t.length j := by
   unfold zt zEs
   rw [List.mem_filter, List.mem_range, decide_eq_true_eq]
   constructor
   · exact .inl
   · rintro (q | ⟨q, _⟩)
     · exact q
     · omega
 by_cases hf : j ∈ zt t
 · rw [if_pos hf, if_pos (this.1 hf)]
 · rw [if_neg hf, if_neg (fun q => hf (this.2 q))]
end Go.Ax.Rt
namespace Go.Ax.Rt
open Go.Ax.Bg
theorem zJk : ∀ (N : Nat) (l : List Nat), l.Nodup → (∀ x ∈ l, x < N) → l.length ≤ N
 | 0, [], _, _ => Nat.le_refl _
 | 0, a :: r, _, h => absurd (h a (by simp)) (Nat.not_lt_zero _)
 | N + 1, l, hn, h => by
   by_cases hN : N ∈ l
   · have h1 := zJk N (l.erase N) (hn.erase N) (fun x hx => by
       have h2 := (hn.mem_erase_iff).1 hx
       have := h x h2.2
       omega)
     rw [List.length_erase_of_mem hN] at h1
     omega
   · have h1 := zJk N l hn (fun x hx => by
       have := h x hx
       have : x ≠ N := fun e => hN (e ▸ hx)
       omega)
     omega
theorem zJt {t : zT} (h : Valid t) : (t.flatMap TNode.next).length ≤ t.length := by
 have hb : ∀ x ∈ t.flatMap TNode.next, 0 < x ∧ x < t.length := by
   intro x hx
   obtain ⟨n, hn1, hn2⟩ := List.mem_flatMap.1 hx
   obtain ⟨i, hi, rfl⟩ := List.getElem_of_mem hn1
   have := h.behind hi x (by rw [zAe node0 hi]; exact hn2)
   omega
 have hnd : (t.flatMap TNode.next).Nodup := by
   rw [List.nodup_iff_count]
   intro a
   by_cases ha : a ∈ t.flatMap TNode.next
   · have hb' := hb a ha
     have h1 := h.once a.toNat (by omega) (by omega)
     unfold named at h1
     rw [zJP, show ((a.toNat : Nat) : Int) = a by omega] at h1
     omega
   · rw [List.count_eq_zero_of_not_mem ha]; omega
 have hl := zJk t.length ((t.flatMap TNode.next).map Int.toNat) (by
   rw [List.nodup_iff_pairwise_ne, List.pairwise_map]
   refine List.Pairwise.imp_of_mem ?_ (List.nodup_iff_pairwise_ne.1 hnd)
   intro a b ha hb2 hab e
   have := hb a ha
   have := hb b hb2
   omega) (fun x hx => by
   obtain ⟨y, hy, rfl⟩ := List.mem_map.1 hx
   have := hb y hy
   omega)
 simpa using hl
/-- A number whose multiple by B is whole. -/
def Dv (B : Nat) (q : Rat) : Prop := ∃ z : Int, q * (B : Rat) = (z : Rat)
theorem Dv.den {B : Nat} {q : Rat} (h : Dv B q) (hB : B ≠ 0) : q.den ∣ B := by
 obtain ⟨z, hz⟩ := h
 have hB' : ((B : Int) : Rat) ≠ 0 := intc_ne (by omega)
 have e : q = Rat.divInt z B := by
   rw [Rat.divInt_eq_div, ← hz, ← Rat.intCast_natCast]
   have h1 := Rat.div_mul_cancel (a := q * ((B : Int) : Rat)) hB'
   refine zNm hB' ?_
   rw [Rat.mul_comm _ (q * ((B : Int) : Rat) / ((B : Int) : Rat)), h1, Rat.mul_comm]
 rw [e, (zHn z B hB).2.1]
 exact Nat.div_dvd_of_dvd (Nat.gcd_dvd_right _ _)
theorem Dv.of_den {q : Rat} : Dv q.den q := ⟨q.num, num_den q⟩
theorem Dv.mono {A B : Nat} {q : Rat} (h : Dv A q) (hd : A ∣ B) : Dv B q := by
 obtain ⟨z, hz⟩ := h
 obtain ⟨k, rfl⟩ := hd
 refine ⟨z * k, ?_⟩
 rw [Rat.natCast_mul, ← Rat.mul_assoc, hz, Rat.intCast_mul, Rat.intCast_natCast]
theorem Dv.add {B : Nat} {a b : Rat} (ha : Dv B a) (hb : Dv B b) : Dv B (a + b) := by
 obtain ⟨x, hx⟩ := ha
 obtain ⟨y, hy⟩ := hb
 exact ⟨x + y, by rw [Rat.add_mul, hx, hy, Rat.intCast_add]⟩
theorem Dv.mul {A B : Nat} {a b : Rat} (ha : Dv A a) (hb : Dv B b) : Dv (A * B) (a * b) := by
 obtain ⟨x, hx⟩ := ha
 obtain ⟨y, hy⟩ := hb
 refine ⟨x * y, ?_⟩
 rw [Rat.intCast_mul, ← hx, ← hy, Rat.natCast_mul]
 grind
theorem Dv.zero (B : Nat) : Dv B 0 := ⟨0, by rw [Rat.zero_mul]; rfl⟩
theorem Dv.one (B : Nat) : Dv B 1 := ⟨B, by rw [Rat.one_mul, Rat.intCast_natCast]⟩
/-- A number from 0 to 1 is not longer than its denominator. -/
theorem unit_D {B K : Nat} {q : Rat} (h : Dv B q) (hB : B ≠ 0) (h0 : 0 ≤ q) (h1 : q ≤ 1) (hK : B < 10 ^ K) : D K q := by
 have hd := Nat.le_of_dvd (by omega) (h.den hB)
 refine ⟨?_, by omega⟩
 have hn : q.num ≤ q.den := by
   have h2 := Rat.not_lt.2 h1
   rw [Rat.lt_iff] at h2
   have h3 : ¬ ((1 : Int) * (q.den : Int) < q.num * 1) := h2
   omega
 have := Rat.num_nonneg.2 h0
 omega
def zGz : List Nat → Nat
 | [] => 1
 | a :: r => a * zGz r
theorem zKl {l : List Nat} (h : ∀ x ∈ l, 0 < x) : 0 < zGz l := by
 induction l with
 | nil => exact Nat.one_pos
 | cons a r ih => rw [zGz]; exact Nat.mul_pos (h a (by simp)) (ih (fun x hx => h x (by simp [hx])))
theorem zIB {l : List Nat} {x : Nat} (h : x ∈ l) : x ∣ zGz l := by
 induction l with
 | nil => simp at h
 | cons a r ih =>
   rw [zGz]
   rcases List.mem_cons.1 h with rfl | q
   · exact Nat.dvd_mul_right _ _
   · exact Nat.dvd_trans (ih q) (Nat.dvd_mul_left _ _)
theorem zJh {l : List Nat} {d : Nat} (h : ∀ x ∈ l, x ≤ 10 ^ d) : zGz l ≤ 10 ^ (d * l.length) := by
 induction l with
 | nil => rw [zGz, List.length_nil, Nat.mul_zero, Nat.pow_zero]; exact Nat.le_refl _
 | cons a r ih =>
   rw [zGz, List.length_cons, Nat.mul_add, Nat.mul_one, Nat.add_comm, Nat.pow_add]
   exact Nat.mul_le_mul (h a (by simp)) (ih (fun x hx => h x (by simp [hx])))
def pden (o : Option (List Rat)) : Nat := match o with | none => 1 | some l => zGz (l.map Rat.den)
theorem pden_pos (o : Option (List Rat)) : 0 < pden o := by
 cases o with
 | none => exact Nat.one_pos
 | some l => exact zKl (fun x hx => by obtain ⟨q, _, rfl⟩ := List.mem_map.1 hx; exact q.den_pos)
def Bd (o : z7) : Nat → Nat
 | 0 => 1
 | i + 1 => Bd o i * pden (o i)
theorem zJq (o : z7) : ∀ i, 0 < Bd o i
 | 0 => Nat.one_pos
 | i + 1 => Nat.mul_pos (zJq o i) (pden_pos _)
theorem zHA (o : z7) {i : Nat} : ∀ d, Bd o i ∣ Bd o (i + d)
 | 0 => Nat.dvd_refl _
 | d + 1 => Nat.dvd_trans (zHA o d) (Nat.dvd_mul_right _ _)
/-- An end has no probabilities of its own. -/
structure OddsAll (t : zT) (o : z7) (d : Nat) : Prop extends OddsOK t o d where
 none : ∀ i, i < t.length → (t.getD i node0).kind = 0 → o i = none
theorem zJr {t : zT} {i j : Nat} (h : Valid t) (hi : i < t.length) (hk : kid t i j) : ∃ m, m < (t.getD i node0).next.length ∧ ((t.getD i node0).next.getD m 0).toNat = j := by
 obtain ⟨m, hm, he⟩ := List.getElem_of_mem hk
 exact ⟨m, hm, by rw [zAe 0 hm, he]; exact Int.toNat_natCast j⟩
theorem zLk {t : zT} {i j : Nat} (h : Valid t) (hi : i < t.length) (hk : kid t i j) : (t.getD i node0).kind ≠ 0 := by
 intro e
 have := zLj h hi e
 have h2 := (zGW h hi).2 hk
 rw [this] at h2; simp at h2
theorem zD6 {t : zT} (h : Valid t) {o : z7} {d : Nat} (ho : OddsAll t o d) : ∀ j, j < t.length → Dv (Bd o j) ((zU t o).getD j 0) ∧ 0 ≤ (zU t o).getD j 0 := by
 intro j
 induction j using Nat.strongRecOn with
 | ind j ih =>
   intro hj
   by_cases h0 : j = 0
   · subst h0
     rw [zCR h]
     exact ⟨Dv.one _, by decide +kernel⟩
   · obtain ⟨i, hi, hk⟩ := h.has hj h0
     have hlt := h.kid_lt hi hk
     obtain ⟨m, hm, he⟩ := zJr h hi hk
     obtain ⟨l, l1, l2, l3, l4⟩ := ho.at' i hi (zLk h hi hk)
     have hr := zD1 h o hi hm
     rw [he, l1] at hr
     have hr : (zU t o).getD j 0 = (zU t o).getD i 0 * l.getD m 0 := hr
     obtain ⟨g1, g2⟩ := ih i (by omega) hi
     have hq := l4 (l.getD m 0) (zAr 0 (by omega))
     rw [hr]
     refine ⟨?_, Rat.mul_nonneg g2 hq.1⟩
     have h5 : Dv (Bd o (i + 1)) ((zU t o).getD i 0 * l.getD m 0) := by
       refine (g1.mul (Dv.of_den (q := l.getD m 0))).mono ?_
       show _ ∣ Bd o i * pden (o i)
       rw [l1]
       exact Nat.mul_dvd_mul (Nat.dvd_refl _) (zIB (List.mem_map.2 ⟨_, zAr 0 (by omega), rfl⟩))
     have h6 := zHA o (i := i + 1) (j - (i + 1))
     rw [show i + 1 + (j - (i + 1)) = j by omega] at h6
     exact h5.mono h6
theorem Bd_le {t : zT} (h : Valid t) {o : z7} {d : Nat} (ho : OddsAll t o d) : ∀ i, i ≤ t.length → Bd o i ≤ 10 ^ (d * ((t.take i).flatMap TNode.next).length)
 | 0, _ => by simp [Bd]
 | i + 1, hi => by
   have ih := Bd_le h ho i (by omega)
   have hi' : i < t.length := by omega
   have hp : pden (o i) ≤ 10 ^ (d * (t.getD i node0).next.length) := by
     by_cases hk : (t.getD i node0).kind = 0
     · rw [ho.none i hi' hk]
       exact Nat.pow_pos (by decide)
     · obtain ⟨l, l1, l2, l3, l4⟩ := ho.at' i hi' hk
       rw [l1, ← l2]
       have := zJh (l := l.map Rat.den) (d := d) (fun x hx => by
         obtain ⟨q, hq, rfl⟩ := List.mem_map.1 hx
         exact Nat.le_of_lt (l4 q hq).2.2)
       rwa [List.length_map] at this
   rw [Bd, List.take_succ_eq_append_getElem hi', List.flatMap_append, List.length_append, Nat.mul_add, Nat.pow_add]
   refine Nat.mul_le_mul ih ?_
   rw [zAe node0 hi'] at hp
   simpa using hp
/-- The ends' probabilities, one after the other, never grow too long. -/
theorem zLq {B : Nat} (hB : B ≠ 0) {K : Nat} (hK : B < 10 ^ K) (hK2 : K ≤ 2000) : ∀ (qs : List Rat) (acc : Rat), Dv B acc → 0 ≤ acc → (∀ q ∈ qs, Dv B q ∧ 0 ≤ q) → zAk acc qs ≤ 1 → (zHu acc qs).2 = 0
 | [], _, _, _, _, _ => rfl
 | q :: r, acc, h1, h2, h3, h4 => by
   rw [zAk] at h4
   have hq := h3 q (by simp)
   have g1 := h1.add hq.1
   have g2 : 0 ≤ acc + q := Rat.add_nonneg h2 hq.2
   have g3 : acc + q ≤ 1 := Rat.le_trans (zIw r (acc + q) (fun x hx => (h3 x (by simp [hx])).2)) h4
   rw [zHu, if_pos ((unit_D g1 hB g2 g3 hK).fit hK2)]
   exact zLq hB hK hK2 r _ g1 g2 (fun x hx => h3 x (by simp [hx])) h4
/-- ReplyEnds. -/
theorem zIu {t : zT} (h : Valid t) {o : z7} {d : Nat} (ho : OddsAll t o d) (hn : t.length ≤ 40) {j : Nat} (hj : j < t.length) : Dv (Bd o t.length) ((zU t o).getD j 0) ∧ Bd o t.length < 10 ^ (d * 40 + 1) := by
 obtain ⟨g1, g2⟩ := zD6 h ho j hj
 have h6 := zHA o (i := j) (t.length - j)
 rw [show j + (t.length - j) = t.length by omega] at h6
 refine ⟨g1.mono h6, ?_⟩
 have h7 := Bd_le h ho t.length (Nat.le_refl _)
 rw [List.take_length] at h7
 have h8 := zJt h
 have h9 : d * (t.flatMap TNode.next).length ≤ d * 40 := Nat.mul_le_mul_left _ (by omega)
 have h10 : 10 ^ (d * (t.flatMap TNode.next).length) ≤ 10 ^ (d * 40) := Nat.pow_le_pow_right (by decide) h9
 have : 0 < 10 ^ (d * 40) := Nat.pow_pos (by decide)
 rw [Nat.pow_succ]
 omega
theorem reach_le {t : zT} (h : Valid t) {o : z7} {d : Nat} (ho : OddsAll t o d) : ∀ j, j < t.length → (zU t o).getD j 0 ≤ 1 := by
 intro j
 induction j using Nat.strongRecOn with
 | ind j ih =>
   intro hj
   by_cases h0 : j = 0
   · subst h0; rw [zCR h]; exact Rat.le_refl
   · obtain ⟨i, hi, hk⟩ := h.has hj h0
     have hlt := h.kid_lt hi hk
     have hs := zJA h ho.toOddsOK hi (zLk h hi hk)
     have h1 := ih i (by omega) hi
     have hm := (zGW h hi).2 hk
     have key : ∀ (l : List Rat) (x : Rat), (∀ q ∈ l, 0 ≤ q) → x ∈ l → x ≤ zAk 0 l := by
       intro l
       induction l with
       | nil => intro x _ hx; simp at hx
       | cons a r ihl =>
         intro x hq hx
         rw [zAk, zB3, Rat.zero_add]
         have ha := hq a (by simp)
         have hr := zIw r 0 (fun y hy => hq y (by simp [hy]))
         rcases List.mem_cons.1 hx with rfl | hx
         · have := (Rat.add_le_add_left (c := x)).2 hr
           rwa [Rat.add_zero] at this
         · have h2 := ihl x (fun y hy => hq y (by simp [hy])) hx
           have := (Rat.add_le_add_left (c := zAk 0 r)).2 ha
           rw [Rat.add_zero, Rat.add_comm] at this
           exact Rat.le_trans h2 this
     refine Rat.le_trans ?_ h1
     rw [← hs]
     refine key _ _ (fun q hq => ?_) (List.mem_map.2 ⟨j, hm, rfl⟩)
     obtain ⟨k, hk2, rfl⟩ := List.mem_map.1 hq
     exact (zD6 h ho k (h.kid_lt hi ((zGW h hi).1 hk2)).2).2
end Go.Ax.Rt
namespace Go.Ax.Rt
open Go.Ax.Bg
def zAl {α : Type} (v : Nat → α) : List Int → Nat → List α → List α
 | [], _, a => a
 | c :: r, k, a => zAl v r (k + 1) (a.set c.toNat (v k))
theorem zCs {α : Type} (v : Nat → α) : ∀ (l : List Int) (k : Nat) (a : List α), (zAl v l k a).length = a.length
 | [], _, a => rfl
 | c :: r, k, a => by rw [zAl, zCs v r]; simp
theorem zDI {α : Type} (v : Nat → α) (x : Int) : ∀ (l : List Int) (k : Nat) (a : List α), zAl v (l ++ [x]) k a = (zAl v l k a).set x.toNat (v (k + l.length))
 | [], k, a => rfl
 | c :: r, k, a => by
   rw [List.cons_append, zAl, zAl, zDI v x r (k + 1)]
   congr 2
   rw [List.length_cons]; omega
theorem zBV {α : Type} (v : Nat → α) (d : α) {j : Nat} : ∀ (l : List Int) (k : Nat) (a : List α), (∀ c ∈ l, c.toNat ≠ j) → (zAl v l k a).getD j d = a.getD j d
 | [], _, a, _ => rfl
 | c :: r, k, a, h => by
   rw [zAl, zBV v d r (k + 1) _ (fun c hc => h c (by simp [hc])), Go.Ax.Dt.getD_set, if_neg]
   exact fun q => h c (by simp) q.1.symm
theorem zLB {α : Type} (v : Nat → α) (d : α) : ∀ (l : List Int) (k : Nat) (a : List α) (m : Nat), m < l.length → (l.map Int.toNat).Nodup → (∀ c ∈ l, c.toNat < a.length) → (zAl v l k a).getD (l.getD m 0).toNat d = v (k + m)
 | [], _, a, m, h, _, _ => absurd h (Nat.not_lt_zero _)
 | c :: r, k, a, m, h, hn, hl => by
   rw [List.map_cons, List.nodup_cons] at hn
   rw [zAl]
   cases m with
   | zero =>
     have : (c :: r).getD 0 0 = c := rfl
     rw [this, zBV, Go.Ax.Dt.getD_set, if_pos ⟨rfl, hl c (by simp)⟩, Nat.add_zero]
     intro x hx e
     exact hn.1 (List.mem_map.2 ⟨x, hx, e⟩)
   | succ m =>
     have : (c :: r).getD (m + 1) 0 = r.getD m 0 := rfl
     rw [this, zLB v d r (k + 1) _ m (by simpa using h) hn.2 (fun x hx => by rw [List.length_set]; exact hl x (by simp [hx]))]
     congr 1; omega
theorem zH6 (v : Nat → Int) : ∀ (l : List Int) (k : Nat) (a : List Int), zDS v l k a = zAl v l k a
 | [], _, a => rfl
 | c :: r, k, a => by rw [zDS, zAl, zH6 v r]
theorem zEz (v : Nat → Way) : ∀ (l : List Int) (k : Nat) (a : List Way), zGh v l k a = zAl v l k a
 | [], _, a => rfl
 | c :: r, k, a => by rw [zGh, zAl, zEz v r]
/-- A table over the nodes, made from parents to children. -/
theorem zL5 {α : Type} {t : zT} (h : Valid t) (d : α) (T : Nat → List α) (v : Nat → Nat → α) (hT : ∀ i, i < t.length → T (i + 1) = zAl (v i) (t.getD i node0).next 0 (T i)) {j : Nat} (hj : j < t.length) : ∀ e i, j ≤ i → i + e ≤ t.length → (T (i + e)).getD j d = (T i).getD j d
 | 0, i, _, _ => rfl
 | e + 1, i, h1, h2 => by
   rw [← Nat.add_assoc, hT _ (by omega), zBV, zL5 h d T v hT hj e i h1 (by omega)]
   intro c hc e'
   have := h.behind (show i + e < t.length by omega) c hc
   omega
theorem zOL {α : Type} {t : zT} (h : Valid t) (d : α) (T : Nat → List α) (v : Nat → Nat → α) (hl : ∀ i, (T i).length = t.length) (hT : ∀ i, i < t.length → T (i + 1) = zAl (v i) (t.getD i node0).next 0 (T i)) {i m : Nat} (hi : i < t.length) (hm : m < (t.getD i node0).next.length) :
   (T t.length).getD ((t.getD i node0).next.getD m 0).toNat d = v i m := by
 have hb := h.behind hi _ (zAr 0 hm)
 have hc : ((t.getD i node0).next.getD m 0).toNat < t.length := by omega
 have h1 : (T (i + 1)).getD ((t.getD i node0).next.getD m 0).toNat d = v i m := by
   rw [hT i hi, zLB _ d _ _ _ m hm (h.kids_nodup hi) (fun c hc => by rw [hl]; have := h.behind hi c hc; omega), Nat.zero_add]
 have key : ∀ e, i + 1 + e ≤ t.length → (T (i + 1 + e)).getD ((t.getD i node0).next.getD m 0).toNat d = (T (i + 1)).getD ((t.getD i node0).next.getD m 0).toNat d := by
   intro e
   induction e with
   | zero => intro _; rfl
   | succ e ih =>
     intro hd
     rw [← Nat.add_assoc, hT _ (by omega), zBV, ih (by omega)]
     intro c hc2 e'
     have hc3 := h.behind (show i + 1 + e < t.length by omega) c hc2
     have k1 : kid t i ((t.getD i node0).next.getD m 0).toNat := by
       unfold kid
       rw [show ((((t.getD i node0).next.getD m 0).toNat : Nat) : Int) = (t.getD i node0).next.getD m 0 by omega]
       exact zAr 0 hm
     have k2 : kid t (i + 1 + e) ((t.getD i node0).next.getD m 0).toNat := by
       unfold kid
       rw [← e', show ((c.toNat : Nat) : Int) = c by omega]
       exact hc2
     have := h.parent hc (by omega) hi (by omega) k1 k2
     omega
 have h3 := key (t.length - (i + 1)) (by omega)
 rw [show i + 1 + (t.length - (i + 1)) = t.length by omega] at h3
 rw [h3, h1]
theorem zGI {α : Type} {t : zT} (h : Valid t) (d : α) (T : Nat → List α) (v : Nat → Nat → α) (hT : ∀ i, i < t.length → T (i + 1) = zAl (v i) (t.getD i node0).next 0 (T i)) {i : Nat} (hi : i < t.length) : (T i).getD i d = (T t.length).getD i d := by
 have := zL5 h d T v hT hi (t.length - i) i (Nat.le_refl _) (by omega)
 rw [show i + (t.length - i) = t.length by omega] at this
 exact this.symm
/-- the sequence of each node -/
def zBo (t : zT) (p : Int) : List Int := (zAD t p t.length).pos
def zDh (t : zT) (p : Int) : List Way := zBH t p t.length
abbrev zH7 (t : zT) (p : Int) : List (Int × Nat) := (zAD t p t.length).first
theorem zF5 (p : Int) (n : TNode) (i : Nat) (f : RForm) : (zAJ p n i f).pos = f.pos := by
 unfold zAJ; split <;> rfl
theorem zFz (t : zT) (p : Int) (i : Nat) : (zAD t p (i + 1)).pos = zAl (zGw p (t.getD i node0) i (zAJ p (t.getD i node0) i (zAD t p i))) (t.getD i node0).next 0 (zAD t p i).pos := by
 rw [zAD, zId]
 show zDS _ _ _ (zAJ _ _ _ _).pos = _
 rw [zH6, zF5]
theorem zEM (t : zT) (p : Int) : ∀ i, (zAD t p i).pos.length = t.length
 | 0 => List.length_replicate
 | i + 1 => by rw [zFz, zCs, zEM t p i]
theorem zPI {m m' : List (Int × Nat)} {k : Int} {s : Nat} (h : zBI m k = some s) : zBI (m ++ m') k = some s := by
 unfold zBI at h ⊢
 obtain ⟨x, hx, rfl⟩ := Option.map_eq_some_iff.1 h
 rw [List.find?_append, hx]; rfl
theorem zJ3 {t : zT} {p : Int} {k : Int} {s : Nat} {i : Nat} : ∀ e, zBI (zAD t p i).first k = some s → zBI (zAD t p (i + e)).first k = some s
 | 0, h => h
 | e + 1, h => by
   rw [← Nat.add_assoc, zAD, zId]
   show zBI (zAJ _ _ _ _).first k = some s
   have := zJ3 e h
   unfold zAJ
   split
   · exact zPI this
   · exact this
theorem zMM {t : zT} {p : Int} (hv : Valid t) {i : Nat} (hi : i < t.length) (ho : own p (t.getD i node0) = true) : ∃ s, zBI (zAJ p (t.getD i node0) i (zAD t p i)).first (t.getD i node0).info = some s ∧ zBI (zH7 t p) (t.getD i node0).info = some s := by
 have h := RI.all_n hv p i (by omega)
 obtain ⟨s, hs⟩ := (RI.add hv h hi h h.s0.1).2.2.2.2.2.2.2.2.2 ho
 refine ⟨s, hs, ?_⟩
 have h2 : zBI (zAD t p (i + 1)).first (t.getD i node0).info = some s := hs
 have := zJ3 (t.length - (i + 1)) h2
 rwa [show i + 1 + (t.length - (i + 1)) = t.length by omega] at this
abbrev zGc (t : zT) (p x : Int) : Nat := (zBI (zH7 t p) x).getD 0
theorem zN6 {t : zT} (hv : Valid t) (p : Int) {i m : Nat} (hi : i < t.length) (hm : m < (t.getD i node0).next.length) :
   (zBo t p).getD ((t.getD i node0).next.getD m 0).toNat 0 = if own p (t.getD i node0) = true then ((zGc t p (t.getD i node0).info : Nat) : Int) + (m : Int) else (zBo t p).getD i 0 := by
 have hk := zOL hv (0 : Int) (fun i => (zAD t p i).pos) (fun i => zGw p (t.getD i node0) i (zAJ p (t.getD i node0) i (zAD t p i))) (zEM t p) (fun i _ => zFz t p i) hi hm
 have hp := zGI hv (0 : Int) (fun i => (zAD t p i).pos) _ (fun i _ => zFz t p i) hi
 refine hk.trans ?_
 unfold zGw
 split
 · rename_i ho
   obtain ⟨s, h1, h2⟩ := zMM hv hi ho
   rw [h1]
   unfold zGc
   rw [h2]
 · rw [zF5]; exact hp
theorem zMN {t : zT} (hv : Valid t) (p : Int) : (zBo t p).getD 0 0 = 0 := by
 have hn := hv.ne
 have := zGI hv (0 : Int) (fun i => (zAD t p i).pos) _ (fun i _ => zFz t p i) (i := 0) (by omega)
 refine this.symm.trans ?_
 show (List.replicate t.length (0 : Int)).getD 0 0 = 0
 simp only [List.getD, List.getElem?_replicate]
 split <;> rfl
theorem way_kid {t : zT} (hv : Valid t) (p : Int) {i m : Nat} (hi : i < t.length) (hm : m < (t.getD i node0).next.length) :
   (zDh t p).getD ((t.getD i node0).next.getD m 0).toNat [] = zII p (t.getD i node0) ((zDh t p).getD i []) m := by
 have hT : ∀ i, i < t.length → zBH t p (i + 1) = zAl (zII p (t.getD i node0) ((zBH t p i).getD i [])) (t.getD i node0).next 0 (zBH t p i) := fun i _ => by rw [zBH, zEz]
 have hk := zOL hv ([] : Way) (fun i => zBH t p i) (fun i => zII p (t.getD i node0) ((zBH t p i).getD i [])) (zE0 t p) hT hi hm
 have hp := zGI hv ([] : Way) (fun i => zBH t p i) _ hT hi
 refine hk.trans ?_
 show zII p _ ((zBH t p i).getD i []) m = _
 rw [show (zBH t p i).getD i [] = (zDh t p).getD i [] from hp]
theorem way_root {t : zT} (hv : Valid t) (p : Int) : (zDh t p).getD 0 [] = [] := by
 have hn := hv.ne
 have hT : ∀ i, i < t.length → zBH t p (i + 1) = zAl (zII p (t.getD i node0) ((zBH t p i).getD i [])) (t.getD i node0).next 0 (zBH t p i) := fun i _ => by rw [zBH, zEz]
 have := zGI hv ([] : Way) (fun i => zBH t p i) _ hT (i := 0) (by omega)
 refine this.symm.trans ?_
 show (List.replicate t.length ([] : Way)).getD 0 [] = []
 simp only [List.getD, List.getElem?_replicate]
 split <;> rfl
def posW (F : Int → Nat) (w : Way) : Int := match w.getLast? with
 | none => 0
 | some x => ((F x.1 : Nat) : Int) + x.2
theorem zOv {t : zT} (hv : Valid t) (p : Int) : ∀ j, j < t.length → (zBo t p).getD j 0 = posW (zGc t p) ((zDh t p).getD j []) := by
 intro j
 induction j using Nat.strongRecOn with
 | ind j ih =>
   intro hj
   by_cases h0 : j = 0
   · subst h0
     rw [zMN hv, way_root hv]; rfl
   · obtain ⟨i, hi, hk⟩ := hv.has hj h0
     have hlt := hv.kid_lt hi hk
     obtain ⟨m, hm, he⟩ := zJr hv hi hk
     have h1 := zN6 hv p hi hm
     have h2 := way_kid hv p hi hm
     rw [he] at h1 h2
     rw [h1, h2]
     unfold zII
     split
     · unfold posW
       rw [List.getLast?_append]
       rfl
     · exact ih i (by omega) hi
theorem zEd {t : zT} {p : Int} {x : Int × Nat} {i : Nat} : ∀ e, x ∈ zAv t p i → x ∈ zAv t p (i + e)
 | 0, h => h
 | e + 1, h => by
   rw [← Nat.add_assoc, zAv]
   split
   · exact List.mem_append_left _ (zEd e h)
   · exact zEd e h
theorem zFU (t : zT) (p : Int) : ∀ i, ((zAv t p i).map Prod.fst).Nodup
 | 0 => List.nodup_nil
 | i + 1 => by
   rw [zAv]
   split
   · rename_i hc
     rw [List.map_append, List.nodup_append]
     refine ⟨zFU t p i, by simp, fun a ha b hb e => ?_⟩
     have : b = (t.getD i node0).info := by simpa using hb
     have hno := zHC hc.2
     rw [← this, ← e] at hno
     exact hno ha
   · exact zFU t p i
theorem zJW {t : zT} {p : Int} {W : List Way} : ∀ {n i : Nat}, zEi t p W n = true → i < n → own p (t.getD i node0) = true → ∃ k, ((t.getD i node0).info, k) ∈ zAv t p n ∧ W.getD i [] = W.getD k []
 | 0, i, _, h, _ => absurd h (Nat.not_lt_zero _)
 | n + 1, i, hp, hi, ho => by
   rw [zEi, Bool.and_eq_true] at hp
   by_cases e : i = n
   · subst e
     have h2 := hp.2
     rw [if_pos ho] at h2
     cases hl : zBI (zAv t p i) (t.getD i node0).info with
     | none =>
       refine ⟨i, ?_, rfl⟩
       rw [zAv, if_pos ⟨ho, hl⟩]
       simp
     | some k =>
       rw [hl] at h2
       exact ⟨k, zEd 1 (zCJ hl), by simpa using h2⟩
   · obtain ⟨k, k1, k2⟩ := zJW hp.1 (by omega) ho
     exact ⟨k, zEd 1 k1, k2⟩
/-- With perfect recall, the nodes of a set have the same sequence. -/
theorem perf_pos {t : zT} (hv : Valid t) {p : Int} (hp : zCL t p = true) {i j : Nat} (hi : i < t.length) (hj : j < t.length) (oi : own p (t.getD i node0) = true) (oj : own p (t.getD j node0) = true) (he : (t.getD i node0).info = (t.getD j node0).info) : (zBo t p).getD i 0 = (zBo t p).getD j 0 := by
 obtain ⟨a, a1, a2⟩ := zJW hp hi oi
 obtain ⟨b, b1, b2⟩ := zJW hp hj oj
 have := zOw (zFU t p t.length) a1 b1 he
 have hab : a = b := congrArg Prod.snd this
 rw [zOv hv p i hi, zOv hv p j hj]
 show posW _ ((zBH t p t.length).getD i []) = posW _ ((zBH t p t.length).getD j [])
 rw [a2, b2, hab]
/-- The blocks of sequences: what stands there, and where it comes from. -/
theorem zMx {t : zT} (hv : Valid t) (p : Int) : ∀ i, i ≤ t.length → ∀ x ∈ (zAD t p i).first, ∃ j, j < i ∧ zA6 p x.1 (t.getD j node0) = true ∧ x.2 + (t.getD j node0).next.length ≤ (zAD t p i).seqs.length ∧
   ∀ c, c < (t.getD j node0).next.length → (zAD t p i).seqs.getD (x.2 + c) zBY = ⟨x.1, (c : Int), (zBo t p).getD j 0⟩
 | 0, _, x, hx => by simp [zAD] at hx
 | i + 1, hi, x, hx => by
   have ih := zMx hv p i (by omega)
   have hp := zGI hv (0 : Int) (fun i => (zAD t p i).pos) _ (fun i _ => zFz t p i) (i := i) (by omega)
   have hx : x ∈ (zAJ p (t.getD i node0) i (zAD t p i)).first := hx
   show ∃ j, j < i + 1 ∧ _ ∧ _ ≤ (zAJ p (t.getD i node0) i (zAD t p i)).seqs.length ∧ ∀ c, _ → (zAJ p (t.getD i node0) i (zAD t p i)).seqs.getD (x.2 + c) zBY = _
   generalize hn : t.getD i node0 = n at *
   unfold zAJ at hx ⊢
   split at hx
   · rename_i hc
     rw [if_pos hc]
     rcases List.mem_append.1 hx with q | q
     · obtain ⟨j, j1, j2, j3, j4⟩ := ih x q
       refine ⟨j, by omega, j2, by show _ ≤ (_ ++ _ : List RSeq).length; rw [List.length_append]; omega, fun c hc2 => ?_⟩
       show ((zAD t p i).seqs ++ _).getD (x.2 + c) zBY = _
       rw [zFf _ (by omega)]
       exact j4 c hc2
     · have hx' : x = (n.info, (zAD t p i).seqs.length) := by simpa using q
       subst hx'
       refine ⟨i, Nat.lt_succ_self _, ?_, ?_, fun c hc2 => ?_⟩
       · rw [hn]; unfold zA6; rw [hc.1]; simp
       · rw [hn]
         show (zAD t p i).seqs.length + n.next.length ≤ ((zAD t p i).seqs ++ zBj n _).length
         rw [List.length_append]; simp [zBj]
       · rw [hn] at hc2
         show ((zAD t p i).seqs ++ zBj n ((zAD t p i).pos.getD i 0)).getD ((zAD t p i).seqs.length + c) zBY = _
         have e : ((zAD t p i).seqs ++ zBj n ((zAD t p i).pos.getD i 0)).getD ((zAD t p i).seqs.length + c) zBY = (zBj n ((zAD t p i).pos.getD i 0)).getD c zBY := by
           simp only [List.getD]
           rw [List.getElem?_append_right (by omega), Nat.add_sub_cancel_left]
         rw [e]
         unfold zBj
         rw [zCt _ _ 0 _ _ (by simpa using hc2)]
         have hp : (zAD t p i).pos.getD i 0 = (zBo t p).getD i 0 := hp
         rw [hp]
         simp [List.getD, hc2]
   · rename_i hc
     rw [if_neg hc]
     obtain ⟨j, j1, j2, j3, j4⟩ := ih x hx
     exact ⟨j, by omega, j2, j3, j4⟩
/-- The plan at a choice. -/
theorem plan_kid {t : zT} (hv : Valid t) {p : Int} (hp : zCL t p = true) (u : Int → List Rat) {i m : Nat} (hi : i < t.length) (ho : own p (t.getD i node0) = true) (hm : m < (t.getD i node0).next.length) :
   (zCK t p u).getD (((zGc t p (t.getD i node0).info : Nat) : Int) + (m : Int)).toNat 0 = (zCK t p u).getD ((zBo t p).getD i 0).toNat 0 * (u (t.getD i node0).info).getD m 0 := by
 obtain ⟨s, _, h2⟩ := zMM hv hi ho
 have hx := zCJ h2
 have h := RI.all_n hv p t.length (Nat.le_refl _)
 obtain ⟨j, j1, j2, j3, j4⟩ := zMx hv p t.length (Nat.le_refl _) _ hx
 have hj2 := j2
 unfold zA6 at hj2
 rw [Bool.and_eq_true, decide_eq_true_eq] at hj2
 have hw := hv.width hi j1 ho hj2.1 hj2.2.symm
 have hpos := perf_pos hv hp hi j1 ho hj2.1 hj2.2.symm
 have hst : zGc t p (t.getD i node0).info = s := by unfold zGc; rw [h2]; rfl
 rw [hst]
 obtain ⟨b1, b2⟩ := h.pb ((zBo t p).getD j 0) (zAr 0 (by show j < (zAD t p t.length).pos.length; rw [zEM]; exact j1))
 have hs := j4 m (by omega)
 obtain ⟨q1, q2, b, q3, q4, q5⟩ := h.fst _ hx
 have hww := zDa hv j1 j2
 have hs' := q5 m (by have hww : zc t p (t.getD i node0).info = _ := hww; show m < zc t p (t.getD i node0).info; omega)
 rw [hs] at hs'
 have hb : (zBo t p).getD j 0 = b := congrArg RSeq.before hs'
 have q4 : b < (s : Int) := q4
 have j3 : s + (t.getD j node0).next.length ≤ (zAD t p t.length).seqs.length := j3
 have hs : (zf t p).getD (s + m) zBY = ⟨(t.getD i node0).info, (m : Int), (zBo t p).getD j 0⟩ := hs
 have hlen : s + m < (zf t p).length := by show s + m < (zAD t p t.length).seqs.length; omega
 rw [show (((s : Nat) : Int) + (m : Int)).toNat = s + m by omega]
 unfold zCK
 rw [zD4 _ _ hlen, hs]
 unfold zEA
 simp only
 rw [if_neg (by omega), Int.toNat_natCast, hpos, zIz _ _ (show ((zBo t p).getD j 0).toNat < s + m by omega) (show ((zBo t p).getD j 0).toNat < (zf t p).length by omega)]
/-- the probabilities of both players, and chance -/
def zDo (t : zT) (p : Int) (u : Int → List Rat) (o : z7) : z7 := fun i => if own p (t.getD i node0) = true then some (u (t.getD i node0).info) else o i
theorem zKJ {t : zT} (hv : Valid t) (p : Int) (u : Int → List Rat) : (zCK t p u).getD 0 0 = 1 := by
 obtain ⟨_, h1, h2, _⟩ := zAm hv p
 unfold zCK
 rw [zD4 _ _ h2, h1]
 rfl
theorem zM2 {t : zT} (hv : Valid t) {p : Int} (hp : zCL t p = true) (u : Int → List Rat) {o : z7} (ho : ∀ i, i < t.length → own p (t.getD i node0) = true → o i = none) : ∀ j, j < t.length → (zU t (zDo t p u o)).getD j 0 = (zU t o).getD j 0 * (zCK t p u).getD ((zBo t p).getD j 0).toNat 0 := by
 intro j
 induction j using Nat.strongRecOn with
 | ind j ih =>
   intro hj
   by_cases h0 : j = 0
   · subst h0
     rw [zCR hv, zCR hv, zMN hv, Rat.one_mul]
     exact (zKJ hv p u).symm
   · obtain ⟨i, hi, hk⟩ := hv.has hj h0
     have hlt := hv.kid_lt hi hk
     obtain ⟨m, hm, he⟩ := zJr hv hi hk
     have h1 := zD1 hv (zDo t p u o) hi hm
     have h2 := zD1 hv o hi hm
     have h3 := zN6 hv p hi hm
     have h4 := ih i (by omega) hi
     rw [he] at h1 h2 h3
     rw [h1, h2, h3, h4]
     by_cases how : own p (t.getD i node0) = true
     · have e : zDo t p u o i = some (u (t.getD i node0).info) := by unfold zDo; rw [if_pos how]
       rw [e, if_pos how, ho i hi how, plan_kid hv hp u hi how hm]
       show _ * _ * _ = (zU t o).getD i 0 * (_ * _)
       rw [Rat.mul_assoc]
     · have e : zDo t p u o i = o i := by unfold zDo; rw [if_neg how]
       rw [e, if_neg how]
       cases o i with
       | none => rfl
       | some l =>
         show _ * _ * _ = _ * _ * _
         rw [Rat.mul_assoc, Rat.mul_assoc, Rat.mul_comm (l.getD m 0)]
end Go.Ax.Rt
namespace Go.Ax.Rt
open Go.Ax.Bg
def zEx (t : zT) (r : List Rat) (i : Nat) : Rat := r.getD i 0 * zAU (t.getD i node0).pay
/-- what the first player receives on average -/
def zBU (t : zT) (o : z7) : Rat := zAk 0 ((zt t).map (zEx t (zU t o)))
def endG (t : zT) (p : Int) (r : List Rat) (i : Nat) : Rat := if p = 1 then -(zEx t r i) else zEx t r i
def zFI (g : Nat → Rat) (pos : List Int) : List Nat → List Rat → List Rat
 | [], S => S
 | i :: r, S => zFI g pos r (S.set (pos.getD i 0).toNat (S.getD (pos.getD i 0).toNat 0 + g i))
theorem zJu (g : Nat → Rat) (pos : List Int) (x : Nat) : ∀ (ks : List Nat) (S : List Rat), zFI g pos (ks ++ [x]) S = (zFI g pos ks S).set (pos.getD x 0).toNat ((zFI g pos ks S).getD (pos.getD x 0).toNat 0 + g x)
 | [], S => rfl
 | i :: r, S => by rw [List.cons_append, zFI, zFI, zJu g pos x r]
theorem zIH (g : Nat → Rat) (pos : List Int) : ∀ (ks : List Nat) (S : List Rat), (zFI g pos ks S).length = S.length
 | [], S => rfl
 | i :: r, S => by rw [zFI, zIH g pos r, List.length_set]
def zGp (P S : List Rat) (n : Nat) : Rat := zBc (fun k => P.getD k 0 * S.getD k 0) n
theorem zN5 {P S : List Rat} {n k : Nat} (y : Rat) (hk : k < n) (hS : k < S.length) : zGp P (S.set k (S.getD k 0 + y)) n = zGp P S n + P.getD k 0 * y := by
 unfold zGp
 rw [← zDz (f := fun _ => P.getD k 0 * y) hk, ← zF3]
 refine zBM (fun j hj => ?_)
 rw [Go.Ax.Dt.getD_set]
 by_cases h : j = k
 · subst h
   rw [if_pos ⟨rfl, hS⟩, if_pos rfl, Rat.mul_add]
 · rw [if_neg (fun q => h q.1), if_neg h, Rat.add_zero]
theorem zMh (P : List Rat) (g : Nat → Rat) (pos : List Int) {n : Nat} : ∀ (ks : List Nat) (S : List Rat), (∀ i ∈ ks, (pos.getD i 0).toNat < n) → n ≤ S.length → zGp P (zFI g pos ks S) n = zGp P S n + zAk 0 (ks.map (fun i => P.getD (pos.getD i 0).toNat 0 * g i))
 | [], S, _, _ => by rw [zFI, List.map_nil, zAk, Rat.add_zero]
 | i :: r, S, h, hS => by
   have hi := h i (by simp)
   rw [zFI, zMh P g pos r _ (fun j hj => h j (by simp [hj])) (by rw [List.length_set]; exact hS), zN5 _ hi (by omega), List.map_cons, zAk, Rat.zero_add, zB3 _ (P.getD (pos.getD i 0).toNat 0 * g i), Rat.add_assoc]
theorem dot_zero (P : List Rat) (n m : Nat) : zGp P (List.replicate m 0) n = 0 := by
 unfold zGp
 rw [zBM (g := fun _ => 0) (fun j hj => ?_), zGX]
 have : (List.replicate m (0 : Rat)).getD j 0 = 0 := by
   simp only [List.getD, List.getElem?_replicate]
   split <;> rfl
 rw [this, Rat.mul_zero]
theorem zJ1 (f : Nat → Rat) : ∀ ks : List Nat, zAk 0 (ks.map (fun i => -(f i))) = -(zAk 0 (ks.map f))
 | [] => by rw [List.map_nil, List.map_nil, zAk]; rfl
 | a :: r => by
   rw [List.map_cons, List.map_cons, zAk, zAk, zB3, zB3 (r.map f), zJ1 f r, Rat.zero_add, Rat.zero_add, Rat.neg_add]
theorem pos_lt {t : zT} (hv : Valid t) (p : Int) {j : Nat} (hj : j < t.length) : 0 ≤ (zBo t p).getD j 0 ∧ ((zBo t p).getD j 0).toNat < (zf t p).length := by
 have h := RI.all_n hv p t.length (Nat.le_refl _)
 have := h.pb ((zBo t p).getD j 0) (zAr 0 (by show j < (zAD t p t.length).pos.length; rw [zEM]; exact hj))
 have e : (zf t p).length = (zAD t p t.length).seqs.length := rfl
 omega
theorem zCw {t : zT} {i : Nat} (h : i ∈ zt t) : i < t.length ∧ (t.getD i node0).kind = 0 := by
 have := List.mem_filter.1 h
 exact ⟨by simpa using this.1, by simpa using this.2⟩
/-- what the sequences are worth, before the choices are made -/
def zGD (t : zT) (p : Int) (o : z7) : List Rat := zFI (endG t p (zU t o)) (zBo t p) (zt t) (List.replicate (zf t p).length 0)
/-- The value, told by sequences. -/
theorem zLm {t : zT} (hv : Valid t) {p : Int} (hp : zCL t p = true) (u : Int → List Rat) {o : z7} (ho : ∀ i, i < t.length → own p (t.getD i node0) = true → o i = none) :
   zGp (zCK t p u) (zGD t p o) (zf t p).length = if p = 1 then -(zBU t (zDo t p u o)) else zBU t (zDo t p u o) := by
 unfold zGD
 rw [zMh _ _ _ _ _ (fun i hi => (pos_lt hv p (zCw hi).1).2) (by rw [List.length_replicate]; exact Nat.le_refl _), dot_zero, Rat.zero_add]
 have e : (zt t).map (fun i => (zCK t p u).getD ((zBo t p).getD i 0).toNat 0 * endG t p (zU t o) i) = (zt t).map (fun i => if p = 1 then -(zEx t (zU t (zDo t p u o)) i) else zEx t (zU t (zDo t p u o)) i) := by
   refine List.map_congr_left (fun i hi => ?_)
   have hs := zM2 hv hp u ho i (zCw hi).1
   unfold endG zEx
   rw [hs]
   have key : ∀ a b c : Rat, a * (b * c) = b * a * c := fun a b c => by rw [← Rat.mul_assoc, Rat.mul_comm a b]
   split
   · rw [← key, Rat.mul_neg]
   · rw [key]
 rw [e]
 unfold zBU
 split
 · exact zJ1 _ _
 · rfl
def zAf (S : List Rat) (s : Nat) : Nat → Nat
 | 0 => s
 | m + 1 => if S.getD (zAf S s m) 0 < S.getD (s + m) 0 then s + m else zAf S s m
theorem zDy (S : List Rat) (s : Nat) : ∀ m, s ≤ zAf S s m ∧ zAf S s m < s + m + 1 ∧ (1 ≤ m → zAf S s m < s + m)
 | 0 => ⟨Nat.le_refl _, Nat.lt_succ_self _, fun h => absurd h (by decide)⟩
 | m + 1 => by
   obtain ⟨h1, h2, h3⟩ := zDy S s m
   rw [zAf]
   split
   · exact ⟨by omega, by omega, fun _ => by omega⟩
   · exact ⟨h1, by omega, fun _ => by omega⟩
abbrev BSt := Nat × List Rat × List (Int × Int)
def zJ5 (l : List RSeq) (st : BSt) : BSt :=
 let s := st.1 - 1 - (l.getD (st.1 - 1) zBY).choice.toNat
 let b := zAf st.2.1 s (st.1 - s)
 let q := l.getD b zBY
 (s, st.2.1.set q.before.toNat (st.2.1.getD q.before.toNat 0 + st.2.1.getD b 0), st.2.2 ++ [(q.info, q.choice)])
def zFi (l : List RSeq) : Nat → BSt → BSt
 | 0, st => st
 | f + 1, st => if 1 < st.1 then zFi l f (zJ5 l st) else st
theorem zLt (f : Nat → Rat) (a : Nat) : ∀ w, zBc f (a + w) = zBc f a + zBc (fun c => f (a + c)) w
 | 0 => by rw [Nat.add_zero, zBc, Rat.add_zero]
 | w + 1 => by rw [← Nat.add_assoc, zBc, zLt f a w, zBc, Rat.add_assoc]
/-- The choices from e on belong to whole sets. -/
structure Bnd (t : zT) (p : Int) (e : Nat) : Prop where
 one : 1 ≤ e
 le : e ≤ (zf t p).length
 whole : ∀ x ∈ zH7 t p, x.2 < e → x.2 + zc t p x.1 ≤ e
theorem Bnd.top {t : zT} (hv : Valid t) (p : Int) : Bnd t p (zf t p).length :=
 ⟨(zAm hv p).2.2.1, Nat.le_refl _, fun x hx _ => ((RI.all_n hv p t.length (Nat.le_refl _)).fst x hx).2.1⟩
structure Blk (t : zT) (p : Int) (e : Nat) (x : Int × Nat) (b : Nat) : Prop where
 mem : x ∈ zH7 t p
 info : x.1 ∈ zd t p
 one : 1 ≤ x.2
 w1 : 1 ≤ zc t p x.1
 fin : x.2 + zc t p x.1 = e
 lt : b < x.2
 bnd : Bnd t p x.2
 seqs : ∀ c, c < zc t p x.1 → (zf t p).getD (x.2 + c) zBY = ⟨x.1, (c : Int), (b : Int)⟩
theorem Bnd.blk {t : zT} (hv : Valid t) {p : Int} {e : Nat} (h : Bnd t p e) (he : 1 < e) : ∃ x b, Blk t p e x b := by
 have hl := h.le
 obtain ⟨x, b, x0, x1, x2, x3, x4, x5, x6, x7⟩ := seq_at hv (p := p) (k := e - 1) (by omega) (by omega)
 have hw := h.whole x x0 (by omega)
 refine ⟨x, b, x0, x1, x5, by omega, by omega, x4, ⟨x5, by omega, fun y hy hlt => ?_⟩, x7⟩
 rcases Nat.lt_or_ge x.2 (y.2 + zc t p y.1) with q | q
 · obtain ⟨y1, y2, b', b1, b2, b3⟩ := (RI.all_n hv p t.length (Nat.le_refl _)).fst y hy
   have e1 := b3 (x.2 - y.2) (by omega)
   rw [show y.2 + (x.2 - y.2) = x.2 by omega] at e1
   have e2 := x7 0 (by omega)
   rw [Nat.add_zero] at e2
   have e1 : (zf t p).getD x.2 zBY = ⟨y.1, ((x.2 - y.2 : Nat) : Int), b'⟩ := e1
   rw [e2] at e1
   have := congrArg RSeq.choice e1
   have : ((0 : Nat) : Int) = ((x.2 - y.2 : Nat) : Int) := this
   omega
 · exact q
theorem Blk.step {t : zT} {p : Int} {e : Nat} {x : Int × Nat} {b : Nat} (h : Blk t p e x b) (S : List Rat) (C : List (Int × Int)) :
   zJ5 (zf t p) (e, S, C) = (x.2, S.set b (S.getD b 0 + S.getD (zAf S x.2 (zc t p x.1)) 0), C ++ [(x.1, ((zAf S x.2 (zc t p x.1) - x.2 : Nat) : Int))]) := by
 have h1 := h.fin
 have h2 := h.w1
 have hs := h.seqs (zc t p x.1 - 1) (by omega)
 rw [show x.2 + (zc t p x.1 - 1) = e - 1 by omega] at hs
 obtain ⟨q1, _, q3⟩ := zDy S x.2 (zc t p x.1)
 have q3 := q3 h2
 have hb := h.seqs (zAf S x.2 (zc t p x.1) - x.2) (by omega)
 rw [show x.2 + (zAf S x.2 (zc t p x.1) - x.2) = zAf S x.2 (zc t p x.1) by omega] at hb
 have e1 : e - 1 - ((zc t p x.1 - 1 : Nat) : Int).toNat = x.2 := by omega
 unfold zJ5
 simp only [hs]
 rw [e1, show e - x.2 = zc t p x.1 by omega, hb]
 simp only [Int.toNat_natCast]
theorem Blk.plan {t : zT} {p : Int} {e : Nat} {x : Int × Nat} {b : Nat} (h : Blk t p e x b) (hl : e ≤ (zf t p).length) (u : Int → List Rat) : ∀ c, c < zc t p x.1 → (zCK t p u).getD (x.2 + c) 0 = (zCK t p u).getD b 0 * (u x.1).getD c 0 := by
 intro c hc
 have h1 := h.fin
 have h2 := h.lt
 unfold zCK
 rw [zD4 _ _ (show x.2 + c < (zf t p).length by omega), h.seqs c hc]
 unfold zEA
 simp only
 rw [if_neg (by omega), Int.toNat_natCast, Int.toNat_natCast, zIz _ _ (show b < x.2 + c by omega) (show b < (zf t p).length by omega)]
/-- a strategy that need not have short zAm -/
structure Mix (t : zT) (p : Int) (u : Int → List Rat) : Prop where
 len : ∀ x ∈ zd t p, (u x).length = zc t p x
 sum : ∀ x ∈ zd t p, zAk 0 (u x) = 1
 nn : ∀ x ∈ zd t p, ∀ q ∈ u x, 0 ≤ q
theorem dot_blk {t : zT} {p : Int} {e : Nat} {x : Int × Nat} {b : Nat} (h : Blk t p e x b) (hl : e ≤ (zf t p).length) (u : Int → List Rat) (S : List Rat) :
   zGp (zCK t p u) S e = zGp (zCK t p u) S x.2 + (zCK t p u).getD b 0 * zBc (fun c => (u x.1).getD c 0 * S.getD (x.2 + c) 0) (zc t p x.1) := by
 unfold zGp
 rw [← h.fin, zLt, ← zMq]
 congr 1
 refine zBM (fun c hc => ?_)
 rw [h.plan hl u c hc, Rat.mul_assoc]
theorem dot_step {t : zT} {p : Int} {e : Nat} {x : Int × Nat} {b : Nat} (h : Blk t p e x b) (P S : List Rat) (y : Rat) (hS : e ≤ S.length) : zGp P (S.set b (S.getD b 0 + y)) x.2 = zGp P S x.2 + P.getD b 0 * y := by
 have h1 := h.fin
 have h2 := h.lt
 exact zN5 y h.lt (by omega)
theorem zMa (l : List RSeq) {y : Int × Int} : ∀ (f : Nat) (st : BSt), y ∈ st.2.2 → y ∈ (zFi l f st).2.2
 | 0, st, h => h
 | f + 1, st, h => by
   rw [zFi]
   split
   · exact zMa l f _ (List.mem_append_left _ h)
   · exact h
def zEj (w c : Nat) : List Rat := (List.replicate w 0).set c 1
theorem zL3 {w c : Nat} (hc : c < w) (M : Nat → Rat) : zBc (fun j => (zEj w c).getD j 0 * M j) w = M c := by
 rw [← zDz (f := M) hc]
 refine zBM (fun j hj => ?_)
 unfold zEj
 rw [Go.Ax.Dt.getD_set, List.length_replicate]
 by_cases h : j = c
 · subst h
   rw [if_pos ⟨rfl, hc⟩, if_pos rfl, Rat.one_mul]
 · have : (List.replicate w (0 : Rat)).getD j 0 = 0 := by
     simp only [List.getD, List.getElem?_replicate]
     split <;> rfl
   rw [if_neg (fun q => h q.1), if_neg h, this, Rat.zero_mul]
/-- The strategy of the best choices gets as much. -/
theorem zOb {t : zT} (hv : Valid t) {p : Int} {u : Int → List Rat} : ∀ (f e : Nat) (S : List Rat) (C : List (Int × Int)), Bnd t p e → e ≤ f + 1 → S.length = (zf t p).length →
   (∀ y ∈ (zFi (zf t p) f (e, S, C)).2.2, u y.1 = zEj (zc t p y.1) y.2.toNat) → zGp (zCK t p u) S e = zGp (zCK t p u) (zFi (zf t p) f (e, S, C)).2.1 1
 | 0, e, S, C, hb, hf, hS, hu => by
   have := hb.one
   obtain rfl : e = 1 := by omega
   rfl
 | f + 1, e, S, C, hb, hf, hS, hu => by
   rw [zFi] at hu ⊢
   split
   · rename_i he
     rw [if_pos he] at hu
     have he : 1 < e := he
     obtain ⟨x, b, hB⟩ := hb.blk hv he
     have hl := hb.le
     have h1 := hB.fin
     have h2 := hB.w1
     have h3 := hB.lt
     rw [hB.step S C] at hu ⊢
     have g3 := zOb hv (u := u) f x.2 (S.set b (S.getD b 0 + S.getD (zAf S x.2 (zc t p x.1)) 0)) (C ++ [(x.1, ((zAf S x.2 (zc t p x.1) - x.2 : Nat) : Int))]) hB.bnd (by omega) (by rw [List.length_set]; exact hS) hu
     rw [← g3, dot_step hB _ _ _ (by omega), dot_blk hB hl]
     have hux := hu _ (zMa _ f _ (List.mem_append_right _ (List.mem_singleton.2 rfl)))
     rw [Int.toNat_natCast] at hux
     obtain ⟨q1, _, q3⟩ := zDy S x.2 (zc t p x.1)
     have q3 := q3 h2
     have hus := zL3 (w := zc t p x.1) (c := zAf S x.2 (zc t p x.1) - x.2) (by omega) (fun c => S.getD (x.2 + c) 0)
     rw [show x.2 + (zAf S x.2 (zc t p x.1) - x.2) = zAf S x.2 (zc t p x.1) by omega] at hus
     have hux : u x.1 = _ := hux
     rw [hux, hus]
   · rename_i he
     have he : ¬ 1 < e := he
     have := hb.one
     obtain rfl : e = 1 := by omega
     rfl
/-- What the found choices are: one for each set. -/
structure Chosen (t : zT) (p : Int) (e : Nat) (C : List (Int × Int)) : Prop where
 nd : (C.map Prod.fst).Nodup
 old : ∀ y ∈ C, ∃ x ∈ zH7 t p, x.1 = y.1 ∧ e ≤ x.2
 all : ∀ x ∈ zH7 t p, e ≤ x.2 → x.1 ∈ C.map Prod.fst
 rng : ∀ y ∈ C, 0 ≤ y.2 ∧ y.2.toNat < zc t p y.1
theorem Chosen.top {t : zT} (hv : Valid t) (p : Int) : Chosen t p (zf t p).length [] :=
 ⟨List.nodup_nil, fun y hy => by simp at hy, fun x hx h => by
   obtain ⟨h1, h2, _⟩ := (RI.all_n hv p t.length (Nat.le_refl _)).fst x hx
   have hk : x.1 ∈ zd t p := (zBn hv).2 (((RI.all_n hv p t.length (Nat.le_refl _)).keys x.1).1 (List.mem_map.2 ⟨x, hx, rfl⟩))
   obtain ⟨j, hj, hs⟩ := (zBn hv).1 hk
   have hw := zDa hv hj hs
   unfold zA6 at hs
   rw [Bool.and_eq_true] at hs
   have := (hv.mine hj hs.1).2.2
   have e : (zf t p).length = (zAD t p t.length).seqs.length := rfl
   omega, fun y hy => by simp at hy⟩
theorem Blk.new {t : zT} (hv : Valid t) {p : Int} {e : Nat} {x : Int × Nat} {b : Nat} (h : Blk t p e x b) {C : List (Int × Int)} (hC : Chosen t p e C) : x.1 ∉ C.map Prod.fst := by
 intro hm
 obtain ⟨y, hy, hyx⟩ := List.mem_map.1 hm
 obtain ⟨z, hz, hzy, hze⟩ := hC.old y hy
 have := zOw (RI.all_n hv p t.length (Nat.le_refl _)).nd hz h.mem (by rw [hzy, hyx])
 subst this
 have := h.fin
 have := h.w1
 omega
theorem Blk.chosen {t : zT} (hv : Valid t) {p : Int} {e : Nat} {x : Int × Nat} {b c : Nat} (h : Blk t p e x b) {C : List (Int × Int)} (hC : Chosen t p e C) (hc : c < zc t p x.1) : Chosen t p x.2 (C ++ [(x.1, (c : Int))]) := by
 have h1 := h.fin
 have h2 := h.w1
 refine ⟨?_, fun y hy => ?_, fun z hz hle => ?_, fun y hy => ?_⟩
 · rw [List.map_append, List.nodup_append]
   refine ⟨hC.nd, by simp, fun a ha b' hb' e' => ?_⟩
   have : b' = x.1 := by simpa using hb'
   rw [e', this] at ha
   exact h.new hv hC ha
 · rcases List.mem_append.1 hy with q | q
   · obtain ⟨z, z1, z2, z3⟩ := hC.old y q
     exact ⟨z, z1, z2, by omega⟩
   · rw [List.mem_singleton.1 q]
     exact ⟨x, h.mem, rfl, Nat.le_refl _⟩
 · rw [List.map_append, List.mem_append]
   by_cases he : e ≤ z.2
   · exact .inl (hC.all z hz he)
   · right
     -- a set that begins in the block of x is x itself
     obtain ⟨z1, z2, b', b1, b2, b3⟩ := (RI.all_n hv p t.length (Nat.le_refl _)).fst z hz
     have hzi : z.1 ∈ zd t p := (zBn hv).2 (((RI.all_n hv p t.length (Nat.le_refl _)).keys z.1).1 (List.mem_map.2 ⟨z, hz, rfl⟩))
     obtain ⟨j, hj, hs⟩ := (zBn hv).1 hzi
     have hw := zDa hv hj hs
     unfold zA6 at hs
     rw [Bool.and_eq_true] at hs
     have hw1 := (hv.mine hj hs.1).2.2
     have e1 : (zf t p).getD z.2 zBY = ⟨z.1, ((0 : Nat) : Int), b'⟩ := b3 0 (by omega)
     have e2 := h.seqs (z.2 - x.2) (by omega)
     rw [show x.2 + (z.2 - x.2) = z.2 by omega, e1] at e2
     have := congrArg RSeq.info e2
     have : z.1 = x.1 := this
     simp [this]
 · rcases List.mem_append.1 hy with q | q
   · exact hC.rng y q
   · rw [List.mem_singleton.1 q]
     exact ⟨Int.natCast_nonneg _, by rw [Int.toNat_natCast]; exact hc⟩
theorem zIO {t : zT} (hv : Valid t) {p : Int} : ∀ (f e : Nat) (S : List Rat) (C : List (Int × Int)), Bnd t p e → e ≤ f + 1 → Chosen t p e C → Chosen t p 1 (zFi (zf t p) f (e, S, C)).2.2
 | 0, e, S, C, hb, hf, hC => by
   have := hb.one
   obtain rfl : e = 1 := by omega
   exact hC
 | f + 1, e, S, C, hb, hf, hC => by
   rw [zFi]
   split
   · rename_i he
     have he : 1 < e := he
     obtain ⟨x, b, hB⟩ := hb.blk hv he
     have h1 := hB.fin
     have h2 := hB.w1
     rw [hB.step S C]
     obtain ⟨q1, _, q3⟩ := zDy S x.2 (zc t p x.1)
     have q3 := q3 h2
     exact zIO hv f x.2 _ _ hB.bnd (by omega) (hB.chosen hv hC (by omega))
   · rename_i he
     have he : ¬ 1 < e := he
     have := hb.one
     obtain rfl : e = 1 := by omega
     exact hC
/-- reply.BestOf -/
def zBG (t : zT) (p : Int) (o : z7) : BSt := zFi (zf t p) (zf t p).length ((zf t p).length, zGD t p o, [])
def zKi (C : List (Int × Int)) (x : Int) : Option Int := (C.find? (fun y => decide (y.1 = x))).map Prod.snd
theorem zKY {C : List (Int × Int)} (hn : (C.map Prod.fst).Nodup) {y : Int × Int} (hy : y ∈ C) : zKi C y.1 = some y.2 := by
 unfold zKi
 induction C with
 | nil => simp at hy
 | cons a r ih =>
   rw [List.map_cons, List.nodup_cons] at hn
   rw [List.find?_cons]
   rcases List.mem_cons.1 hy with e | q
   · subst e; simp
   · have : ¬ a.1 = y.1 := fun e => hn.1 (List.mem_map.2 ⟨y, q, e.symm⟩)
     rw [decide_eq_false this]
     exact ih hn.2 q
/-- the strategy of the best choices -/
def zFl (t : zT) (p : Int) (o : z7) (x : Int) : List Rat := zEj (zc t p x) ((zKi (zBG t p o).2.2 x).getD 0).toNat
theorem zIc {t : zT} (hv : Valid t) (p : Int) (o : z7) : Chosen t p 1 (zBG t p o).2.2 :=
 zIO hv _ _ _ _ (Bnd.top hv p) (by omega) (Chosen.top hv p)
theorem zHv {t : zT} (hv : Valid t) {p : Int} (o : z7) {x : Int} (hx : x ∈ zd t p) : ∃ c : Nat, zKi (zBG t p o).2.2 x = some (c : Int) ∧ c < zc t p x ∧ (x, (c : Int)) ∈ (zBG t p o).2.2 := by
 have hC := zIc hv p o
 obtain ⟨j, hj, hs⟩ := (zBn hv).1 hx
 have h := RI.all_n hv p t.length (Nat.le_refl _)
 obtain ⟨z, hz, hzx⟩ := List.mem_map.1 ((h.keys x).2 ⟨j, hj, hs⟩)
 have hm := hC.all z hz (h.fst z hz).1
 obtain ⟨y, hy, hyx⟩ := List.mem_map.1 hm
 have hyx : y.1 = x := by rw [hyx, hzx]
 have hl := zKY hC.nd hy
 obtain ⟨r1, r2⟩ := hC.rng y hy
 obtain ⟨c, hc⟩ := Int.eq_ofNat_of_zero_le r1
 rw [hyx, hc] at hl
 rw [hc, Int.toNat_natCast, hyx] at r2
 refine ⟨c, hl, r2, ?_⟩
 have : y = (x, (c : Int)) := by rw [← hyx, ← hc]
 rwa [← this]
theorem zIQ {w c : Nat} (hc : c < w) : (zEj w c).length = w ∧ zAk 0 (zEj w c) = 1 ∧ (∀ q ∈ zEj w c, 0 ≤ q ∧ D 1 q) := by
 have hl : (zEj w c).length = w := by unfold zEj; rw [List.length_set, List.length_replicate]
 refine ⟨hl, ?_, fun q hq => ?_⟩
 · have h1 := zL3 hc (fun _ => 1)
   rw [zBM (g := fun j => (zEj w c).getD j 0) (fun j _ => Rat.mul_one _), zKv _ _ (by rw [hl]; exact Nat.le_refl _), List.take_of_length_le (by rw [hl]; exact Nat.le_refl _)] at h1
   exact h1
 · unfold zEj at hq
   rcases List.mem_or_eq_of_mem_set hq with h | h
   · rw [(List.mem_replicate.1 h).2]
     exact ⟨Rat.le_refl, by decide, by decide⟩
   · rw [h]; exact ⟨by decide +kernel, by decide, by decide⟩
theorem best_mix {t : zT} (hv : Valid t) (p : Int) (o : z7) : Mix t p (zFl t p o) := by
 have key : ∀ x ∈ zd t p, ∃ c, c < zc t p x ∧ zFl t p o x = zEj (zc t p x) c := fun x hx => by
   obtain ⟨c, h1, h2, _⟩ := zHv hv o hx
   refine ⟨c, h2, ?_⟩
   unfold zFl; rw [h1]; rfl
 refine ⟨fun x hx => ?_, fun x hx => ?_, fun x hx => ?_⟩ <;> obtain ⟨c, c1, c2⟩ := key x hx <;> obtain ⟨f1, f2, f3⟩ := zIQ c1 <;> rw [c2]
 · exact f1
 · exact f2
 · exact fun q hq => (f3 q hq).1
theorem dot_one {P S : List Rat} (h : P.getD 0 0 = 1) : zGp P S 1 = S.getD 0 0 := by
 show (0 : Rat) + P.getD 0 0 * S.getD 0 0 = _
 rw [h, Rat.zero_add, Rat.one_mul]
theorem zKf (t : zT) (p : Int) (o : z7) : (zGD t p o).length = (zf t p).length := by
 unfold zGD; rw [zIH, List.length_replicate]
/-- ReplyGets -/
theorem zJm {t : zT} (hv : Valid t) {p : Int} (hp : zCL t p = true) {o : z7} (ho : ∀ i, i < t.length → own p (t.getD i node0) = true → o i = none) :
   (if p = 1 then -(zBU t (zDo t p (zFl t p o) o)) else zBU t (zDo t p (zFl t p o) o)) = (zBG t p o).2.1.getD 0 0 := by
 rw [← zLm hv hp (zFl t p o) ho]
 have hC := zIc hv p o
 have := zOb hv (u := zFl t p o) (zf t p).length (zf t p).length (zGD t p o) [] (Bnd.top hv p) (by omega) (zKf t p o) (fun y hy => by
   show zEj _ ((zKi (zBG t p o).2.2 y.1).getD 0).toNat = _
   rw [zKY hC.nd hy]; rfl)
 rwa [dot_one (zKJ hv p _)] at this
end Go.Ax.Rt
namespace Go.Proofs.YtnkealfaldjipaaGreatDoor
open Go.Ax Go.Ax.Bg Go.Ax.Rt Go.RowKit Go.Ax.Idx Go.Ax.Cd
attribute [local irreducible] Ax zAM QOp zM zp
set_option maxRecDepth 100000
set_option maxHeartbeats 4000000
def zBO (n : TNode) : List AV := [.int .i64 n.kind, .int .i64 n.player, .int .i64 n.info, .ro (.ints .i64 n.next) 0 n.next.length, .ro (.strs n.odds) 0 n.odds.length, .str n.pay]
abbrev zZ (t : zT) : Cells := zB4 node0 6 zBO t
structure ShortN (n : TNode) : Prop where
 next : n.next.length ≤ 9223372036854775807
 odds : n.odds.length ≤ 9223372036854775807
 each : ∀ s ∈ n.odds, s.length ≤ 9223372036854775807
 pay : n.pay.length ≤ 9223372036854775807
structure ShortT (t : zT) : Prop where
 len : t.length ≤ 9223372036854775807
 node : ∀ n ∈ t, ShortN n
theorem zO7 (t : zT) (i : Nat) (k : Int) (hi : i ≤ 9223372036854775807) (hlen : t.length ≤ 9223372036854775807) : zW Tryz.prog 236 [.int .i64 k, .rp (.box [.int .i64 (i : Nat)]) 0 0, .rp (.box [.ro (zZ t) 0 t.length]) 0 0] (.bool (zEI t.length i k)) := by
 refine zM.value0 (zG (P := Tryz.prog) (fn := Tryz.f236) rfl rfl (by kernel_rfl) rfl (fun c hR hfix => ?_)) (fix := fun _ => False) (fun _ h => h) rfl rfl
 repeat (first | refine zB (zH rfl) ?_ | refine zB (zK rfl) ?_ | refine zC ?_ | refine zA ?_ | refine zY ?_ | refine zJ rfl ?_ | refine zB (zJw rfl rfl) ?_ | refine zB (zAg rfl rfl rfl rfl) ?_)
 refine zu rfl rfl (fun h => ?_) (fun h => ?_)
 · refine rn6 ?_
   refine zI hR rfl ?_
   unfold zEI
   rw [decide_eq_true h]; rfl
 · repeat (first | refine zB (zH rfl) ?_ | refine zB (zK rfl) ?_ | refine zC ?_ | refine zA ?_ | refine zAA rfl rfl ?_ | refine zAI ?_ | refine zB (zC8 rfl rfl) ?_ | refine zB (zAW rfl rfl) ?_ | refine zB (zA8 rfl rfl rfl) ?_ | refine zB (zAg rfl rfl rfl rfl) ?_)
   refine zI hR rfl ?_
   unfold zEI
   rw [decide_eq_false h, Bool.false_or]; rfl
theorem boxT1 (t : zT) : z6 (.box [.ro (zZ t) 0 t.length]) := by
 intro i j _ hj
 obtain rfl : j = 0 := by have hj : j < 1 := hj; omega
 rfl
theorem boxIU (n : Int) : z6 (.box [.int .i64 n]) := by
 intro i j _ hj
 obtain rfl : j = 0 := by have hj : j < 1 := hj; omega
 rfl
theorem refl2 {o1 o2 : AObj} (h1 : z6 o1.c) (h2 : z6 o2.c) : ∀ (h : Nat) (o : AObj), ([some o1, some o2] : zR)[h]? = some (some o) → z6 o.c := by
 intro h o ho
 match h, ho with
 | 0, ho => cases ho; exact h1
 | 1, ho => cases ho; exact h2
 | _ + 2, ho => simp at ho
theorem zLx (t : zT) (i : Nat) (hi : i < t.length) (hlen : t.length ≤ 9223372036854775807) (hn : (t.getD i node0).next.length ≤ 9223372036854775807) : zW Tryz.prog 214 [.ro (zZ t) 0 t.length, .int .i64 (i : Nat)] (.int .i64 (zGF t.length i (t.getD i node0).next)) := by
 have hc := zKW (t.getD i node0).next 236 [.rp (.box [.int .i64 (i : Nat)]) 0 0, .rp (.box [.ro (zZ t) 0 t.length]) 0 0] (zEI t.length i) rfl hn (fun k _ => zO7 t i k (by omega) hlen)
 refine zM.value0 (zG (P := Tryz.prog) (fn := Tryz.f214) rfl rfl (by kernel_rfl) rfl (fun c hR hfix => ?_)) (fix := fun _ => False) (fun _ h => h) rfl rfl
 repeat (first | refine zB (zK rfl) ?_ | refine zC ?_ | refine zA ?_ | refine zY ?_ | refine zJ rfl ?_ | refine zB (zCT rfl rfl rfl rfl) ?_ | refine zB (zS rfl rfl rfl rfl rfl) ?_ | refine zB (ze rfl rfl rfl rfl (by first | (simp only [Nat.zero_add, Int.toNat_natCast, Int.toNat_zero]; exact rfl) | exact rfl) (by omega)) ?_ | refine zB (zA9 rfl rfl rfl rfl rfl rfl) ?_ | refine zEq rfl rfl ?_)
 refine zAc 5 (.ro (.ints .i64 (t.getD i node0).next) 0 (t.getD i node0).next.length) rfl (AEq.of_eq rfl) ?_
 generalize (t.getD i node0).next = l at *
 unfold zGF at hR
 refine rn4 ?_
 refine zE rfl (fun h1 => ?_) (fun h1 => ?_)
 · rw [if_pos (by omega)] at hR
   refine rn6 ?_
   exact zI hR rfl rfl
 rw [if_neg (by omega)] at hR
 refine rn6 ?_
 refine zE rfl (fun h2 => ?_) (fun h2 => ?_)
 · rw [if_pos (by omega)] at hR
   refine rn6 ?_
   exact zI hR rfl rfl
 rw [if_neg (by omega)] at hR
 repeat (first | refine zB (zH rfl) ?_ | refine zY ?_ | refine zJ rfl ?_ | refine zB (zHl rfl) ?_)
 refine zFv rfl rfl rfl rfl hc (refl2 (o1 := ⟨22, .box [.ro (zZ t) 0 t.length]⟩) (o2 := ⟨3, .box [.int .i64 (i : Nat)]⟩) (boxT1 _) (boxIU _)) ⟨trivial, ⟨fun o ho => by simp at ho; subst ho; exact Nat.zero_lt_one, fun o ho => by simp at ho; subst ho; exact Nat.zero_lt_one, trivial⟩, trivial⟩ rfl rfl rfl ?_
 generalize l.any (zEI t.length i) = b at *
 cases b
 · rw [if_neg (by decide)] at hR
   refine rn5 ?_
   exact zI hR rfl rfl
 · rw [if_pos rfl] at hR
   refine rn6 ?_
   exact zI hR rfl rfl
end Go.Proofs.YtnkealfaldjipaaGreatDoor
namespace Go.Proofs.YtnkealfaldjipaaGreatDoor
open Go.Ax Go.Ax.Bg Go.Ax.Rt Go.RowKit Go.Ax.Idx Go.Ax.Cd
attribute [local irreducible] Ax zAM QOp zM zp
set_option maxRecDepth 100000
set_option maxHeartbeats 4000000
theorem node_ok (t : zT) (i : Nat) (hi : i < t.length) (hlen : t.length ≤ 9223372036854775807) (hs : ShortN (t.getD i node0)) : zW Tryz.prog 180 [.ro (zZ t) 0 t.length, .int .i64 (i : Nat)] (.int .i64 (zDm t.length i (t.getD i node0))) := by
 have cc := zLx t i hi hlen hs.next
 have cp := zKQ (t.getD i node0).pay hs.pay
 have co := zLI (t.getD i node0).odds hs.odds hs.each
 obtain ⟨s1, s2, s3, s4⟩ := hs
 refine zM.value0 (zG (P := Tryz.prog) (fn := Tryz.f180) rfl rfl (by kernel_rfl) rfl (fun c hR hfix => ?_)) (fix := fun _ => False) (fun _ h => h) rfl rfl
 refine rn6 ?_
 refine zL 10 (.agg (zBO (t.getD i node0))) rfl (AEq.of_eq rfl) ?_
 generalize t.getD i node0 = n at *
 obtain ⟨kd, pl, nf, nx, od, py⟩ := n
 simp only at *
 unfold zDm at hR
 refine zQ (c' := .box [.int .i64 kd, .int .i64 pl, .int .i64 nf, .ro (.ints .i64 nx) 0 nx.length, .ro (.strs od) 0 od.length, .str py]) rfl rfl rfl rfl rfl Nat.zero_lt_one rfl rfl (fun i' j' hi' hj' => ?_) ?_
 · rw [if_pos (Nat.lt_one_iff.1 hi')]; rfl
 simp only at hR
 refine rn5 ?_
 refine zE rfl (fun h0 => ?_) (fun h0 => ?_)
 · rw [if_pos h0] at hR
   refine rn5 ?_
   refine zu rfl rfl (fun g1 => ?_) (fun g1 => ?_)
   · rw [if_pos (.inl g1)] at hR
     refine rn6 ?_
     exact zI hR rfl rfl
   refine rn5 ?_
   refine zu rfl rfl (fun g2 => ?_) (fun g2 => ?_)
   · rw [if_pos (.inr (.inl g2))] at hR
     refine rn6 ?_
     exact zI hR rfl rfl
   refine rn6 ?_
   refine zu rfl rfl (fun g3 => ?_) (fun g3 => ?_)
   · rw [if_pos (.inr (.inr (.inl (by rintro rfl; simp at g3))))] at hR
     refine rn6 ?_
     exact zI hR rfl rfl
   refine rn6 ?_
   refine zE rfl (fun g4 => ?_) (fun g4 => ?_)
   · rw [if_pos (.inr (.inr (.inr (by rintro rfl; simp at g4))))] at hR
     refine rn6 ?_
     exact zI hR rfl rfl
   rw [if_neg (by
     rintro (q | q | q | q)
     · exact g1 q
     · exact g2 q
     · have := List.length_pos_iff.2 q; omega
     · have := List.length_pos_iff.2 q; omega)] at hR
   refine rn5 ?_
   refine zF rfl rfl rfl cp ?_
   refine rn6 ?_
   exact zI hR rfl rfl
 rw [if_neg h0] at hR
 refine rn4 ?_
 refine zE rfl (fun h1 => ?_) (fun h1 => ?_)
 · rw [if_pos h1] at hR
   refine rn5 ?_
   refine zu rfl rfl (fun g1 => ?_) (fun g1 => ?_)
   · rw [if_pos (.inl g1)] at hR
     refine rn6 ?_
     exact zI hR rfl rfl
   refine rn5 ?_
   refine zu rfl rfl (fun g2 => ?_) (fun g2 => ?_)
   · rw [if_pos (.inr (.inl g2))] at hR
     refine rn6 ?_
     exact zI hR rfl rfl
   repeat (first | refine zC ?_ | refine zA ?_ | refine zAA rfl rfl ?_ | refine zB (zS rfl rfl rfl rfl rfl) ?_ | refine zB (zAW rfl rfl) ?_ | refine zB (zEE rfl rfl) ?_ | refine zB (zP rfl rfl rfl rfl rfl rfl) ?_)
   refine zE rfl (fun g3 => ?_) (fun g3 => ?_)
   · rw [if_pos (.inr (.inr g3))] at hR
     refine rn6 ?_
     exact zI hR rfl rfl
   rw [if_neg (by
     rintro (q | q | q)
     · exact g1 q
     · exact g2 q
     · exact g3 q)] at hR
   refine rn1 ?_
   refine zF rfl rfl rfl cc ?_
   refine rn3 ?_
   refine zE rfl (fun h3 => ?_) (fun h3 => ?_)
   · rw [if_pos h3] at hR
     refine rn6 ?_
     exact zI hR rfl rfl
   rw [if_neg h3] at hR
   refine rn5 ?_
   refine zE rfl (fun h4 => ?_) (fun h4 => ?_)
   · rw [if_pos (by omega)] at hR
     refine rn6 ?_
     exact zI hR rfl rfl
   rw [if_neg (by omega)] at hR
   refine rn5 ?_
   refine zF rfl rfl rfl co ?_
   refine rn6 ?_
   exact zI hR rfl rfl
 rw [if_neg h1] at hR
 refine rn4 ?_
 refine zE rfl (fun h2 => ?_) (fun h2 => ?_)
 · rw [if_pos h2] at hR
   refine rn6 ?_
   refine zu rfl rfl (fun g1 => ?_) (fun g1 => ?_)
   · rw [if_pos (.inl (by rintro rfl; simp at g1))] at hR
     refine rn6 ?_
     exact zI hR rfl rfl
   repeat (first | refine zC ?_ | refine zA ?_ | refine zAA rfl rfl ?_ | refine zB (zS rfl rfl rfl rfl rfl) ?_ | refine zB (zAW rfl rfl) ?_ | refine zB (zEE rfl rfl) ?_ | refine zB (zP rfl rfl rfl rfl rfl rfl) ?_)
   refine zE rfl (fun g2 => ?_) (fun g2 => ?_)
   · rw [if_pos (.inr g2)] at hR
     refine rn6 ?_
     exact zI hR rfl rfl
   rw [if_neg (by
     rintro (q | q)
     · have := List.length_pos_iff.2 q; omega
     · exact g2 q)] at hR
   refine rn5 ?_
   refine zu rfl rfl (fun g3 => ?_) (fun g3 => ?_)
   · refine rn5 ?_
     refine zu rfl rfl (fun g4 => ?_) (fun g4 => ?_)
     · rw [if_pos (.inl ⟨g3, g4⟩)] at hR
       refine rn6 ?_
       exact zI hR rfl rfl
     refine rn5 ?_
     refine zu rfl rfl (fun g5 => ?_) (fun g5 => ?_)
     · rw [if_pos (.inr (.inl g5))] at hR
       refine rn6 ?_
       exact zI hR rfl rfl
     repeat (first | refine zC ?_ | refine zA ?_ | refine zAA rfl rfl ?_ | refine zB (zS rfl rfl rfl rfl rfl) ?_ | refine zB (zC8 rfl rfl) ?_ | refine zB (zAW rfl rfl) ?_ | refine zB (zP rfl rfl rfl rfl rfl rfl) ?_)
     refine zE rfl (fun g6 => ?_) (fun g6 => ?_)
     · rw [if_pos (.inr (.inr g6))] at hR
       refine rn6 ?_
       exact zI hR rfl rfl
     rw [if_neg (by
       rintro (q | q | q)
       · exact g4 q.2
       · exact g5 q
       · exact g6 q)] at hR
     refine rn1 ?_
     refine zF rfl rfl rfl cc ?_
     refine rn6 ?_
     exact zI hR rfl rfl
   · refine rn6 ?_
     refine zu rfl rfl (fun g5 => ?_) (fun g5 => ?_)
     · rw [if_pos (.inr (.inl g5))] at hR
       refine rn6 ?_
       exact zI hR rfl rfl
     repeat (first | refine zC ?_ | refine zA ?_ | refine zAA rfl rfl ?_ | refine zB (zS rfl rfl rfl rfl rfl) ?_ | refine zB (zC8 rfl rfl) ?_ | refine zB (zAW rfl rfl) ?_ | refine zB (zP rfl rfl rfl rfl rfl rfl) ?_)
     refine zE rfl (fun g6 => ?_) (fun g6 => ?_)
     · rw [if_pos (.inr (.inr g6))] at hR
       refine rn6 ?_
       exact zI hR rfl rfl
     rw [if_neg (by
       rintro (q | q | q)
       · exact g3 q.1
       · exact g5 q
       · exact g6 q)] at hR
     refine rn1 ?_
     refine zF rfl rfl rfl cc ?_
     refine rn6 ?_
     exact zI hR rfl rfl
 · rw [if_neg h2] at hR
   refine rn5 ?_
   exact zI hR rfl rfl
end Go.Proofs.YtnkealfaldjipaaGreatDoor
namespace Go.Proofs.YtnkealfaldjipaaGreatDoor
open Go.Ax Go.Ax.Bg Go.Ax.Rt Go.RowKit Go.Ax.Idx Go.Ax.Cd
attribute [local irreducible] Ax zAM QOp zM zp
set_option maxRecDepth 100000
set_option maxHeartbeats 4000000
theorem chk1_ok (n : Int) : zW Tryz.prog 182 [.int .i64 n] (.bool (decide (n ≠ 1))) := by
 refine zM.value0 (zG (P := Tryz.prog) (fn := Tryz.f182) rfl rfl (by kernel_rfl) rfl (fun c hR hfix => ?_)) (fix := fun _ => False) (fun _ h => h) rfl rfl
 refine rn3 ?_
 exact zI hR rfl rfl
def zH3 (e : Int × Int × Nat) : AV := .agg [.int .i64 e.1, .int .i64 e.2.1]
def lenV (e : Int × Int × Nat) : AV := .int .i64 (e.2.2 : Nat)
abbrev szC (S : KSz) : Cells := .mp (S.map zH3) (S.map lenV)
theorem keysV (S : KSz) : ∀ x ∈ S.map zH3, zC0 (.pair .i64) x = true := by
 intro x hx
 obtain ⟨e, _, rfl⟩ := List.mem_map.1 hx
 rfl
theorem set_same {l : List AV} {j : Nat} {v : AV} (h : l[j]? = some v) : l.set j v = l := by
 apply List.ext_getElem?
 intro i
 by_cases e : j = i
 · subst e
   obtain ⟨hj, _⟩ := List.getElem?_eq_some_iff.1 h
   rw [List.getElem?_set_self hj, h]
 · rw [List.getElem?_set_ne e]
theorem zBu {α : Type} {n : Nat} {f : α → AV} (hf : ∀ x, zCv n (f x) = true) : ∀ l : List α, zBl n (l.map f) = true
 | [] => rfl
 | a :: r => by
   show (zCv n (f a) && zBl n (r.map f)) = true
   rw [hf a, zBu hf r]; rfl
theorem zEJ {α : Type} {f : α → AV} (hf : ∀ x, noRef (f x) = true) : ∀ l : List α, noRef.noRefs (l.map f) = true
 | [] => rfl
 | a :: r => by
   show (noRef (f a) && noRef.noRefs (r.map f)) = true
   rw [hf a, zEJ hf r]; rfl
theorem zCi {n : Nat} {t : TypeId} {c : Cells} (hc : zA0 n c) : ∀ (h : Nat) (o : AObj), ([some ⟨t, c⟩] : zR)[h]? = some (some o) → zA0 n o.c := by
 intro h o ho
 match h, ho with
 | 0, ho => cases ho; exact hc
 | _ + 1, ho => simp at ho
theorem zJD (S : KSz) (n : Nat) : zA0 n (szC S) := ⟨zBu (fun _ => rfl) S, zBu (fun _ => rfl) S⟩
theorem zKo (t : zT) (hT : ShortT t) : zW Tryz.prog 126 [.ro (zZ t) 0 t.length] (.int .i64 (zGB t)) := by
 have hlen := hT.len
 refine zM.value0 (zG (P := Tryz.prog) (fn := Tryz.f126) rfl rfl (by kernel_rfl) rfl (fun c hR hfix => ?_)) (fix := fun _ => False) (fun _ h => h) rfl rfl
 unfold zGB at hR
 refine rn6 ?_
 refine zE rfl (fun h1 => ?_) (fun h1 => ?_)
 · rw [if_pos (by omega)] at hR
   refine rn2 ?_
   exact zI hR rfl rfl
 rw [if_neg (by omega)] at hR
 refine rn4 ?_
 refine zE rfl (fun h2 => ?_) (fun h2 => ?_)
 · rw [if_pos (by omega)] at hR
   refine rn2 ?_
   exact zI hR rfl rfl
 rw [if_neg (by omega)] at hR
 have hN : t.length ≤ 120 := by omega
 have hN0 : t.length ≠ 0 := by omega
 refine rn3 ?_
 refine zCB rfl rfl rfl rfl rfl rfl rfl rfl (by show 0 ≤ _ ∧ _ ≤ _ ∧ (8 : Int) * _ ≤ _ ∧ _; omega) ?_
 refine rn3 ?_
 refine zj (ι := Nat) (fun i => [(0, .ro (zZ t) 0 t.length), (3, .sl 0 0 t.length), (23, .ro (zZ t) 0 t.length), (24, .int .i64 (t.length : Nat)), (25, .int .i64 (i : Nat))]) (fun i => [some ⟨3, .ints .i64 (zDZ t.length (zD8 t i))⟩])
   (fun i => i ≤ t.length ∧ zES t.length 0 t = zES t.length i (t.drop i) ∧ (zD8 t i).length ≤ 6 * i) (fun i => t.length - i) 0 ⟨⟨rfl, rfl, rfl, rfl, rfl, trivial⟩, by show [some (⟨3, .ints .i64 (List.replicate _ 0)⟩ : AObj)] = [some ⟨3, .ints .i64 (zDZ t.length [])⟩]; rw [cntT_nil]; rfl, Nat.zero_le _, by rw [List.drop_zero], by simp [zD8]⟩ ?_
 rintro i ⟨hi, hE, hF⟩
 refine rn4 ?_
 refine zE rfl (fun h3 => ?_) (fun h3 => ?_)
 · have hi' : i < t.length := by omega
   have hmem := zAz node0 hi'
   have cn := node_ok t i hi' hlen (hT.node _ hmem)
   rw [zM0 hi'] at hE
   have hfs := zNp hi'
   refine rn1 ?_
   refine zF rfl rfl rfl cn ?_
   refine rn3 ?_
   refine zE rfl (fun h4 => ?_) (fun h4 => ?_)
   · rw [if_neg h4] at hE
     rw [if_pos (by rw [hE]; exact h4), hE] at hR
     refine rn6 ?_
     exact zI hR rfl rfl
   rw [if_pos (Classical.not_not.1 h4)] at hE
   obtain ⟨q1, q2⟩ := zNo (Classical.not_not.1 h4)
   have hl9 : (t.getD i node0).next.length ≤ 9223372036854775807 := by omega
   repeat (first | refine zA ?_ | refine zY ?_ | refine zl ?_)
   refine zJ rfl ?_
   repeat (first | refine zB (zH rfl) ?_ | refine zC ?_ | refine zA ?_ | refine zB (zCT rfl rfl rfl rfl) ?_ | refine zB (zA8 rfl rfl rfl) ?_ | refine zB (ze rfl rfl rfl rfl (by first | (simp only [Nat.zero_add, Int.toNat_natCast, Int.toNat_zero]; exact rfl) | exact rfl) (by omega)) ?_ | refine zB (zA9 rfl rfl rfl rfl rfl rfl) ?_)
   refine zAc 38 (.ro (.ints .i64 (t.getD i node0).next) 0 (t.getD i node0).next.length) rfl (AEq.of_eq rfl) ?_
   generalize (t.getD i node0).next = l at *
   repeat (refine zz ?_)
   refine zj (ι := Nat) (fun j => [(0, .ro (zZ t) 0 t.length), (3, .sl 0 0 t.length), (23, .ro (zZ t) 0 t.length), (24, .int .i64 (t.length : Nat)), (25, .int .i64 (i : Nat)), (38, .ro (.ints .i64 l) 0 l.length), (39, .int .i64 (l.length : Nat)), (40, .int .i64 (j : Nat))]) (fun j => [some ⟨3, .ints .i64 (zDZ t.length (zD8 t i ++ l.take j))⟩])
     (fun j => j ≤ l.length) (fun j => l.length - j) 0 ⟨⟨rfl, rfl, rfl, rfl, rfl, rfl, rfl, rfl, trivial⟩, by rw [List.take_zero, List.append_nil], Nat.zero_le _⟩ ?_
   intro j hj
   refine rn4 ?_
   refine zE rfl (fun h5 => ?_) (fun h5 => ?_)
   · have hj' : j < l.length := by omega
     obtain ⟨b1, b2⟩ := q1 _ (zAr 0 hj')
     have hs := zPe (zD8 t i ++ l.take j) (x := l.getD j 0) (by omega) b2
     rw [List.append_assoc, ← zCh hj'] at hs
     have hb := cntT_le t.length (zD8 t i ++ l.take j) (l.getD j 0).toNat
     have hll : (zD8 t i ++ l.take j).length ≤ 6 * i + 6 := by rw [List.length_append, List.length_take]; omega
     have hcl := zEQ t.length (zD8 t i ++ l.take j)
     have hlt : (l.getD j 0).toNat < (zDZ t.length (zD8 t i ++ l.take j)).length := by omega
     generalize zDZ t.length (zD8 t i ++ l.take j) = C at *
     repeat (first | refine zB (zH rfl) ?_ | refine zB (zK rfl) ?_ | refine zB (zA3 rfl rfl rfl) ?_ | refine zC ?_ | refine zA ?_ | refine zY ?_ | refine zJ rfl ?_ | refine zg ?_ | refine zz ?_ | refine zl ?_ | refine zB (zCz rfl rfl (by omega)) ?_ | refine zB (ze rfl rfl rfl rfl (by first | (simp only [Nat.zero_add, Int.toNat_natCast, Int.toNat_zero]; exact rfl) | exact rfl) (by omega)) ?_ | refine zB (za rfl rfl rfl rfl rfl (by first | (simp only [Nat.zero_add, Int.toNat_natCast, Int.toNat_zero]; exact rfl) | exact rfl) (by omega)) ?_ | refine zB (zAH rfl rfl rfl rfl (by first | assumption | omega)) ?_ | refine zAi rfl rfl rfl rfl rfl rfl rfl (by first | assumption | (show _ < List.length _; first | assumption | omega)) ?_)
     exact zN ⟨j + 1, by omega, by omega, ⟨rfl, rfl, rfl, rfl, rfl, rfl, rfl, rfl, trivial⟩, by rw [hs]; rfl⟩
   · have hje : j = l.length := by omega
     subst hje
     rw [List.take_length, ← hfs]
     refine rn5 ?_
     exact zN ⟨i + 1, ⟨by omega, hE, by rw [hfs, List.length_append]; omega⟩, by omega, ⟨rfl, rfl, rfl, rfl, rfl, trivial⟩, rfl⟩
 have hie : i = t.length := by omega
 subst hie
 rw [List.drop_length] at hE
 have hE0 : zES t.length 0 t = 0 := hE
 rw [if_neg (by rw [hE0]; exact fun q => q rfl)] at hR
 have hfl : zD8 t t.length = t.flatMap TNode.next := by unfold zD8; rw [List.take_length]
 rw [hfl]
 have hall := zPE hN0
 rw [← hall] at hR
 have hcl := zEQ t.length (t.flatMap TNode.next)
 generalize zDZ t.length (t.flatMap TNode.next) = C at *
 have cc := zKW (C.drop 1) 182 [] (fun n => decide (n ≠ 1)) rfl (by rw [List.length_drop]; omega) (fun n _ => chk1_ok n)
 repeat (first | refine zA ?_ | refine zY ?_ | refine zAs ?_ | refine zq ?_ | refine zr ?_ | refine zAF ?_)
 refine zAx 0 3 t.length [(0, .ro (zZ t) 0 t.length)] rfl zAQ rfl (by show t.length ≤ C.length; omega) ⟨rfl, trivial⟩ ?_
 refine zAt [] [none] [(0, .ro (zZ t) 0 t.length), (3, .ro (.ints .i64 C) 0 t.length)] rfl ⟨rfl, rfl, trivial⟩ (fun h hh => by rw [hfix] at hh; exact absurd hh id) (fun h o ho => by simp at ho) rfl ?_
 repeat (first | refine zB (zH rfl) ?_ | refine zJ rfl ?_ | refine zB (zJM rfl rfl rfl rfl rfl rfl rfl (by omega)) ?_)
 refine zL 53 (.ro (.ints .i64 (C.drop 1)) 0 (C.drop 1).length) rfl (AEq.trans (AEq.drop (k := .i64) (l := C) (i := 1) (n := ((t.length : Int) - 1).toNat)) (AEq.of_eq (by rw [List.length_drop, hcl]; congr 1; omega))) ?_
 refine zF rfl rfl rfl cc ?_
 generalize (C.drop 1).any (fun n => decide (n ≠ 1)) = b at *
 cases b
 case true =>
   rw [if_pos rfl] at hR
   refine rn5 ?_
   exact zI hR rfl rfl
 rw [if_neg (by decide)] at hR
 refine rn4 ?_
 refine zEW ?_
 refine rn3 ?_
 refine zj (ι := Nat × KSz) (fun x => [(0, .ro (zZ t) 0 t.length), (8, .mp 0), (56, .ro (zZ t) 0 t.length), (57, .int .i64 (t.length : Nat)), (58, .int .i64 (x.1 : Nat))]) (fun x => [some ⟨262, szC x.2⟩])
   (fun x => x.1 ≤ t.length ∧ KInv (t.take x.1) x.2) (fun x => t.length - x.1) (0, []) ⟨⟨rfl, rfl, rfl, rfl, rfl, trivial⟩, rfl, Nat.zero_le _, KInv.nil⟩ ?_
 rintro ⟨k, S⟩ ⟨hk, hK⟩
 simp only at hk hK
 refine rn4 ?_
 refine zE rfl (fun h5 => ?_) (fun h5 => ?_)
 · have hk' : k < t.length := by omega
   have hmem := zAz node0 hk'
   have hsn := hT.node _ hmem
   have htk := zNR hk'
   have hpre : ∀ a ∈ t.take k, a ∈ t := fun a ha => List.mem_of_mem_take ha
   have hskip := @KInv.skip (t.take k) S (t.getD k node0) hK
   have hhit := fun e => @KInv.hit (t.take k) S (t.getD k node0) e hK
   have hmiss := @KInv.miss (t.take k) S (t.getD k node0) hK
   have hbad := fun e => @KInv.bad (t.take k) t S (t.getD k node0) e hK hpre hmem
   rw [← htk] at hskip hhit hmiss
   obtain ⟨s1, s2, s3, s4⟩ := hsn
   refine rn6 ?_
   refine zL 61 (.agg (zBO (t.getD k node0))) rfl (AEq.of_eq rfl) ?_
   generalize t.getD k node0 = n at *
   obtain ⟨kd, pl, nf, nx, od, py⟩ := n
   simp only at *
   refine zQ (c' := .box [.int .i64 kd, .int .i64 pl, .int .i64 nf, .ro (.ints .i64 nx) 0 nx.length, .ro (.strs od) 0 od.length, .str py]) rfl rfl rfl rfl rfl Nat.zero_lt_one rfl rfl (fun i' j' hi' hj' => ?_) ?_
   · rw [if_pos (Nat.lt_one_iff.1 hi')]; rfl
   refine rn5 ?_
   refine zE rfl (fun g1 => ?_) (fun g1 => ?_)
   · repeat (first | refine zAs ?_ | refine zq ?_ | refine zr ?_)
     refine zA ?_
     refine zAt [some ⟨262, szC S⟩] [some ⟨40, .box [.int .i64 kd, .int .i64 pl, .int .i64 nf, .ro (.ints .i64 nx) 0 nx.length, .ro (.strs od) 0 od.length, .str py]⟩] [(0, .ro (zZ t) 0 t.length), (8, .mp 0), (56, .ro (zZ t) 0 t.length), (57, .int .i64 (t.length : Nat)), (58, .int .i64 (k : Nat))] rfl ⟨rfl, rfl, rfl, rfl, rfl, trivial⟩ (fun h hh => by rw [hfix] at hh; exact absurd hh id) (zCi (zJD S 1)) rfl ?_
     refine rn3 ?_
     exact zN ⟨(k + 1, S), ⟨by simp only; omega, hskip g1⟩, by simp only; omega, ⟨rfl, rfl, rfl, rfl, rfl, trivial⟩, rfl⟩
   · have hk2 : kd = 2 := Classical.not_not.1 g1
     repeat (first | refine zA ?_ | refine zY ?_ | refine zJ rfl ?_ | refine zl ?_ | refine zB (zS rfl rfl rfl rfl rfl) ?_ | refine zB (zAR rfl rfl rfl rfl rfl rfl) ?_ | refine zB (zP rfl rfl rfl rfl rfl rfl) ?_ | refine zBF rfl rfl rfl ?_)
     refine zL 69 (.agg [.int .i64 pl, .int .i64 nf]) rfl (AEq.of_eq rfl) ?_
     refine zQ (c' := .box [.int .i64 pl, .int .i64 nf]) rfl rfl rfl rfl rfl Nat.zero_lt_one rfl rfl (fun i' j' hi' hj' => ?_) ?_
     · rw [if_pos (Nat.lt_one_iff.1 hi')]; rfl
     refine rn6 ?_
     refine zL 72 (zH3 (pl, nf, 0)) rfl (AEq.of_eq rfl) ?_
     by_cases hm : ∃ e ∈ S, e.1 = pl ∧ e.2.1 = nf
     · obtain ⟨e, he, e1, e2⟩ := hm
       obtain ⟨j, hj, hje⟩ := List.getElem_of_mem he
       have i1 : (S.map zH3)[j]? = some (zH3 (pl, nf, 0)) := by
         rw [List.getElem?_map, List.getElem?_eq_getElem hj, hje]
         show some (zH3 e) = _
         unfold zH3; rw [e1, e2]
       have i2 : (S.map lenV)[j]? = some (.int .i64 (e.2.2 : Nat)) := by
         rw [List.getElem?_map, List.getElem?_eq_getElem hj, hje]; rfl
       refine zB (zBQ rfl (.pair rfl rfl rfl) rfl rfl rfl rfl (keysV S) j i1 i2) ?_
       refine rn5 ?_
       refine zE rfl (fun h7 => ?_) (fun h7 => ?_)
       · rw [if_pos (hbad e hk2 he e1 e2 (by omega))] at hR
         refine rn6 ?_
         exact zI hR rfl rfl
       · have h8 : e.2.2 = nx.length := by omega
         have hset : (S.map lenV).set j (.int .i64 (nx.length : Nat)) = S.map lenV := set_same (by rw [i2, h8])
         refine rn6 ?_
         refine zL 85 (zH3 (pl, nf, 0)) rfl (AEq.of_eq rfl) ?_
         refine zKG rfl (.pair rfl rfl rfl) rfl rfl rfl rfl rfl (keysV S) j i1 ?_
         refine zAZ [some ⟨262, szC (S)⟩, some ⟨40, .box [.int .i64 kd, .int .i64 pl, .int .i64 nf, .ro (.ints .i64 nx) 0 nx.length, .ro (.strs od) 0 od.length, .str py]⟩, some ⟨208, .box [.int .i64 pl, .int .i64 nf]⟩] (by rw [← hset]; rw [hset]; exact (congrArg (fun l => [some (⟨262, .mp (S.map zH3) l⟩ : AObj), some ⟨40, .box [.int .i64 kd, .int .i64 pl, .int .i64 nf, .ro (.ints .i64 nx) 0 nx.length, .ro (.strs od) 0 od.length, .str py]⟩, some ⟨208, .box [.int .i64 pl, .int .i64 nf]⟩]) hset)) ?_
         repeat (first | refine zC ?_ | refine zg ?_)
         refine zA ?_
         refine zAt [some ⟨262, szC (S)⟩] [some ⟨40, .box [.int .i64 kd, .int .i64 pl, .int .i64 nf, .ro (.ints .i64 nx) 0 nx.length, .ro (.strs od) 0 od.length, .str py]⟩, some ⟨208, .box [.int .i64 pl, .int .i64 nf]⟩] [(0, .ro (zZ t) 0 t.length), (8, .mp 0), (56, .ro (zZ t) 0 t.length), (57, .int .i64 (t.length : Nat)), (58, .int .i64 (k : Nat))] rfl ⟨rfl, rfl, rfl, rfl, rfl, trivial⟩ (fun h hh => by rw [hfix] at hh; exact absurd hh id) (zCi (zJD _ 1)) rfl ?_
         refine rn3 ?_
         exact zN ⟨(k + 1, S), ⟨by simp only; omega, hhit e he e1 e2 h8⟩, by simp only; omega, ⟨rfl, rfl, rfl, rfl, rfl, trivial⟩, rfl⟩
     · have hnew : zH3 (pl, nf, 0) ∉ S.map zH3 := by
         intro q
         obtain ⟨e, he, ee⟩ := List.mem_map.1 q
         simp only [zH3, AV.agg.injEq, List.cons.injEq, AV.int.injEq, true_and, and_true] at ee
         exact hm ⟨e, he, ee.1, ee.2⟩
       refine zB (zEn rfl (.pair rfl rfl rfl) rfl rfl rfl rfl rfl rfl rfl rfl (keysV S) hnew) ?_
       refine rn6 ?_
       refine zL 85 (zH3 (pl, nf, 0)) rfl (AEq.of_eq rfl) ?_
       refine zCS rfl (.pair rfl rfl rfl) rfl rfl rfl rfl rfl (keysV S) hnew ?_
       refine zAZ [some ⟨262, szC (S ++ [(pl, nf, nx.length)])⟩, some ⟨40, .box [.int .i64 kd, .int .i64 pl, .int .i64 nf, .ro (.ints .i64 nx) 0 nx.length, .ro (.strs od) 0 od.length, .str py]⟩, some ⟨208, .box [.int .i64 pl, .int .i64 nf]⟩] (by unfold szC; rw [List.map_append, List.map_append]; rfl) ?_
       repeat (first | refine zC ?_ | refine zg ?_)
       refine zA ?_
       refine zAt [some ⟨262, szC (S ++ [(pl, nf, nx.length)])⟩] [some ⟨40, .box [.int .i64 kd, .int .i64 pl, .int .i64 nf, .ro (.ints .i64 nx) 0 nx.length, .ro (.strs od) 0 od.length, .str py]⟩, some ⟨208, .box [.int .i64 pl, .int .i64 nf]⟩] [(0, .ro (zZ t) 0 t.length), (8, .mp 0), (56, .ro (zZ t) 0 t.length), (57, .int .i64 (t.length : Nat)), (58, .int .i64 (k : Nat))] rfl ⟨rfl, rfl, rfl, rfl, rfl, trivial⟩ (fun h hh => by rw [hfix] at hh; exact absurd hh id) (zCi (zJD _ 1)) rfl ?_
       refine rn3 ?_
       exact zN ⟨(k + 1, S ++ [(pl, nf, nx.length)]), ⟨by simp only; omega, hmiss hk2 (fun e he q => hm ⟨e, he, q⟩)⟩, by simp only; omega, ⟨rfl, rfl, rfl, rfl, rfl, trivial⟩, rfl⟩
 · have hke : k = t.length := by omega
   subst hke
   rw [List.take_length] at hK
   rw [zMm hK.free, if_neg (by decide)] at hR
   refine rn5 ?_
   exact zI hR rfl rfl
end Go.Proofs.YtnkealfaldjipaaGreatDoor
namespace Go.Ax.Rt
open Go.Ax.Bg Go.Ax.Idx
theorem zKS {α : Type} (p : α → Bool) : ∀ l : List α, l.any p = true → zC7 p l = (l.findIdx p : Nat)
 | [], h => by simp at h
 | x :: r, h => by
   rw [zC7, List.findIdx_cons]
   cases hx : p x
   · have hr : r.any p = true := by simpa [hx] using h
     rw [zKS p r hr]
     simp only [cond_false, Bool.false_eq_true, if_false]
     rw [if_neg (by omega)]
     omega
   · rfl
theorem zPo {α : Type} (p : α → Bool) (l : List α) (h : l.any p = false) : zC7 p l = -1 := by
 have := zE8 p l
 rw [h, decide_eq_false_iff_not] at this
 exact zMP p l (by omega)
def zBa (t : zT) (p : Int) (k : Nat) : List Int := ((List.range k).map (fun i : Nat => (i : Int))).filter (fun i => t.any (zA6 p i))
def zDA (t : zT) (p : Int) (k : Nat) : List Int := (zBa t p k).map (fun i => ((zc t p i : Nat) : Int))
theorem zIa (t : zT) (p : Int) (k : Nat) : zBa t p (k + 1) = if t.any (zA6 p (k : Int)) = true then zBa t p k ++ [(k : Int)] else zBa t p k := by
 unfold zBa
 rw [List.range_succ, List.map_append, List.filter_append]
 split
 · rename_i h; simp [h]
 · rename_i h; simp [h]
theorem zMO (t : zT) (p : Int) (k : Nat) : zDA t p (k + 1) = if t.any (zA6 p (k : Int)) = true then zDA t p k ++ [((zc t p (k : Int) : Nat) : Int)] else zDA t p k := by
 unfold zDA
 rw [zIa]
 split
 · simp
 · rfl
theorem zNj (t : zT) (p : Int) (k : Nat) : (zBa t p k).length ≤ k := by
 unfold zBa
 refine Nat.le_trans (List.length_filter_le _ _) (by simp)
theorem zJ0 (t : zT) (p : Int) (k : Nat) : (zDA t p k).length = (zBa t p k).length := by unfold zDA; simp
theorem zNM (t : zT) (p : Int) : zBa t p 10 = zd t p := rfl
theorem zNa (t : zT) (p : Int) : zDA t p 10 = zBW t p := rfl
theorem zNF {t : zT} {p i : Int} (h : t.any (zA6 p i) = true) : zIn t p i < t.length := by
 obtain ⟨x, hx, h2⟩ := List.any_eq_true.1 h
 exact List.findIdx_lt_length_of_exists ⟨x, hx, h2⟩
end Go.Ax.Rt
namespace Go.Proofs.YtnkealfaldjipaaGreatDoor
open Go.Ax Go.Ax.Bg Go.Ax.Rt Go.RowKit Go.Ax.Idx Go.Ax.Cd
attribute [local irreducible] Ax zAM QOp zM zp
set_option maxRecDepth 100000
set_option maxHeartbeats 4000000
theorem zP6 (t : zT) (p : Int) (hT : ShortT t) : zW Tryz.prog 71 [.ro (zZ t) 0 t.length, .int .i64 p] (.int .i64 (zCe t p)) := by
 have cc := zKo t hT
 refine zM.value0 (zG (P := Tryz.prog) (fn := Tryz.f71) rfl rfl (by kernel_rfl) rfl (fun c hR hfix => ?_)) (fix := fun _ => False) (fun _ h => h) rfl rfl
 unfold zCe at hR
 refine rn0 ?_
 refine zF rfl rfl rfl cc ?_
 refine rn3 ?_
 refine zE rfl (fun h1 => ?_) (fun h1 => ?_)
 · rw [if_pos h1] at hR
   refine rn2 ?_
   exact zI hR rfl rfl
 rw [if_neg h1] at hR
 refine rn3 ?_
 refine zu rfl rfl (fun g1 => ?_) (fun g1 => ?_)
 · refine rn3 ?_
   refine zE rfl (fun g2 => ?_) (fun g2 => ?_)
   · rw [if_pos ⟨g1, g2⟩] at hR
     refine rn2 ?_
     exact zI hR rfl rfl
   · rw [if_neg (fun q => g2 q.2)] at hR
     refine rn1 ?_
     exact zI hR rfl rfl
 · rw [if_neg (fun q => g1 q.1)] at hR
   refine rn6 ?_
   exact zI hR rfl rfl
theorem zI3 (l : zT) (g : FuncId) (caps : List AV) (p : TNode → Bool) (hc : noRef.noRefs caps = true) (hlen : l.length ≤ 9223372036854775807) (hp : ∀ x ∈ l, zW Tryz.prog g ([.agg (zBO x)] ++ caps) (.bool (p x))) :
   zW Tryz.prog 127 [.ro (zZ l) 0 l.length, .fn g caps] (.int .i64 (zC7 p l)) := by
 refine zM.value0 (zG (P := Tryz.prog) (fn := Tryz.f127) rfl rfl (by kernel_rfl) rfl (fun c hR hfix => ?_)) (fix := fun _ => False) (fun _ h => h) (by simp [noRef.noRefs, noRef, hc]) rfl
 refine rn3 ?_
 refine zj (ι := Nat) (fun k => [(0, .ro (zZ l) 0 l.length), (1, .fn g caps), (7, .int .i64 (l.length : Nat)), (8, .int .i64 (k : Nat))]) (fun _ => [])
   (fun k => k ≤ l.length ∧ (l.take k).any p = false) (fun k => l.length - k) 0 ⟨⟨rfl, rfl, rfl, rfl, trivial⟩, rfl, Nat.zero_le _, rfl⟩ ?_
 intro k ⟨hk, hany⟩
 refine rn4 ?_
 refine zE rfl (fun h => ?_) (fun h => ?_)
 · have hk' : k < l.length := by omega
   have hanys := zCb p l node0 k hk'
   refine rn6 ?_
   refine zL 15 (.agg (zBO (l.getD k node0))) rfl (AEq.of_eq rfl) ?_
   refine zF rfl rfl rfl (hp _ (zAz node0 hk')) ?_
   refine rn0 ?_
   refine zDP rfl (fun h2 => ?_) (fun h2 => ?_)
   · refine rn6 ?_
     refine zI hR rfl ?_
     have := zB5 p l k hany hk
     rw [zB6 l node0 k hk'] at this
     simp only [zC7, h2, if_true] at this
     rw [this]; simp [zBR]
   · refine rn5 ?_
     refine zN ⟨k + 1, ⟨by omega, by rw [hanys, hany, h2]; rfl⟩, by omega, ⟨rfl, rfl, rfl, rfl, trivial⟩, rfl⟩
 · have hk' : k = l.length := by omega
   subst hk'
   refine rn5 ?_
   refine zI hR rfl ?_
   have := zB5 p l l.length hany hk
   rw [List.drop_length] at this
   rw [this]; rfl
theorem sets1_ok (n : TNode) (p i : Int) : zW Tryz.prog 138 [.agg (zBO n), .rp (.box [.int .i64 p]) 0 0, .rp (.box [.int .i64 i]) 0 0] (.bool (zA6 p i n)) := by
 obtain ⟨kd, pl, nf, nx, od, py⟩ := n
 refine zM.value0 (zG (P := Tryz.prog) (fn := Tryz.f138) rfl rfl (by kernel_rfl) rfl (fun c hR hfix => ?_)) (fix := fun _ => False) (fun _ h => h) rfl rfl
 unfold zA6 own at hR
 unfold zBO
 simp only at hR ⊢
 refine rn6 ?_
 refine zu rfl rfl (fun g1 => ?_) (fun g1 => ?_)
 · rw [decide_eq_true g1, Bool.true_and] at hR
   repeat (first | refine zB (zH rfl) ?_ | refine zAA rfl rfl ?_ | refine zB (zS rfl rfl rfl rfl rfl) ?_ | refine zB (zEe rfl rfl) ?_ | refine zB (zAW rfl rfl) ?_ | refine zB (zAg rfl rfl rfl rfl) ?_ | refine zB (zP rfl rfl rfl rfl rfl rfl) ?_)
   refine zu rfl rfl (fun g2 => ?_) (fun g2 => ?_)
   · rw [decide_eq_true g2, Bool.true_and] at hR
     repeat (first | refine zB (zK rfl) ?_ | refine zC ?_ | refine zA ?_ | refine zAA rfl rfl ?_ | refine zAI ?_ | refine zB (zS rfl rfl rfl rfl rfl) ?_ | refine zB (zEe rfl rfl) ?_ | refine zB (zAW rfl rfl) ?_ | refine zB (zAg rfl rfl rfl rfl) ?_ | refine zB (zP rfl rfl rfl rfl rfl rfl) ?_)
     exact zI hR rfl rfl
   · rw [decide_eq_false g2, Bool.false_and] at hR
     refine rn6 ?_
     exact zI hR rfl rfl
 · rw [decide_eq_false g1, Bool.false_and, Bool.false_and] at hR
   refine rn6 ?_
   exact zI hR rfl rfl
theorem refl4 {o1 o2 o3 o4 : AObj} (h1 : z6 o1.c) (h2 : z6 o2.c) (h3 : z6 o3.c) (h4 : z6 o4.c) : ∀ (h : Nat) (o : AObj), ([some o1, some o2, some o3, some o4] : zR)[h]? = some (some o) → z6 o.c := by
 intro h o ho
 match h, ho with
 | 0, ho => cases ho; exact h1
 | 1, ho => cases ho; exact h2
 | 2, ho => cases ho; exact h3
 | 3, ho => cases ho; exact h4
 | _ + 4, ho => simp at ho
theorem below3 {n : Nat} {o1 o2 o3 : AObj} (h1 : zA0 n o1.c) (h2 : zA0 n o2.c) (h3 : zA0 n o3.c) : ∀ (h : Nat) (o : AObj), ([some o1, some o2, some o3] : zR)[h]? = some (some o) → zA0 n o.c := by
 intro h o ho
 match h, ho with
 | 0, ho => cases ho; exact h1
 | 1, ho => cases ho; exact h2
 | 2, ho => cases ho; exact h3
 | _ + 3, ho => simp at ho
theorem zCj (k : IntKind) (l : List Int) (n : Nat) : zA0 n (.ints k l) := fun _ _ _ _ => rfl
theorem zJd (x : Int) (n : Nat) : zA0 n (.box [.int .i64 x]) := by
 intro i j _ hj
 obtain rfl : j = 0 := by have hj : j < 1 := hj; omega
 rfl
theorem zON (t : zT) (p : Int) (hlen : t.length ≤ 9223372036854775807) : zW Tryz.prog 75 [.ro (zZ t) 0 t.length, .int .i64 p] (.tup [.ro (.ints .i64 (zd t p)) 0 (zd t p).length, .ro (.ints .i64 (zBW t p)) 0 (zBW t p).length]) := by
 refine zM.value0 (zG (P := Tryz.prog) (fn := Tryz.f75) rfl rfl (by kernel_rfl) rfl (fun c hR hfix => ?_)) (fix := fun _ => False) (fun _ h => h) rfl rfl
 rw [← zNM, ← zNa] at hR
 repeat (first | refine zB (zH rfl) ?_ | refine zB (zK rfl) ?_ | refine zC ?_ | refine zA ?_ | refine zY ?_ | refine zJ rfl ?_ | refine zEq rfl rfl ?_)
 refine zBT 6 ⟨3, .ints .i64 []⟩ rfl rfl ?_
 refine zBT 7 ⟨3, .ints .i64 []⟩ rfl rfl ?_
 repeat (refine zz ?_)
 refine zj (ι := Nat) (fun k => [(0, .ro (zZ t) 0 t.length), (3, .ptr 0 0 0), (6, .sl 1 0 (zBa t p k).length), (7, .sl 2 0 (zBa t p k).length), (10, .int .i64 (k : Nat))]) (fun k => [some ⟨3, .box [.int .i64 p]⟩, some ⟨3, .ints .i64 (zBa t p k)⟩, some ⟨3, .ints .i64 (zDA t p k)⟩])
   (fun k => k ≤ 10) (fun k => 10 - k) 0 ⟨⟨rfl, rfl, rfl, rfl, rfl, trivial⟩, rfl, Nat.zero_le _⟩ ?_
 intro k hk
 refine rn4 ?_
 refine zE rfl (fun h => ?_) (fun h => ?_)
 · have hk' : k < 10 := by omega
   have ci := zI3 t 138 [.rp (.box [.int .i64 p]) 0 0, .rp (.box [.int .i64 (k : Nat)]) 0 0] (zA6 p (k : Int)) rfl hlen (fun n _ => sets1_ok n p k)
   have is := zIa t p k
   have ss := zMO t p k
   have hll := zNj t p k
   have hsl := zJ0 t p k
   generalize hI2 : zBa t p (k + 1) = I2 at *
   generalize hS2 : zDA t p (k + 1) = S2 at *
   generalize zBa t p k = I at *
   generalize zDA t p k = S at *
   repeat (first | refine zB (zH rfl) ?_ | refine zC ?_ | refine zA ?_ | refine zY ?_ | refine zJ rfl ?_ | refine zz ?_ | refine zl ?_ | refine zB (zHl rfl) ?_ | refine zAi rfl rfl rfl rfl rfl rfl rfl Nat.zero_lt_one ?_ | refine zBF rfl rfl rfl ?_)
   refine zAZ [some ⟨3, .box [.int .i64 p]⟩, some ⟨3, .ints .i64 I⟩, some ⟨3, .ints .i64 S⟩, some ⟨3, .box [.int .i64 (k : Nat)]⟩] rfl ?_
   refine zL 8 (.ptr 3 0 0) rfl (AEq.of_eq rfl) ?_
   refine zL 14 (.fn 138 [.ptr 0 0 0, .ptr 3 0 0]) rfl (AEq.of_eq rfl) ?_
   refine zFv rfl rfl rfl rfl ci (refl4 (o1 := ⟨3, .box [.int .i64 p]⟩) (o2 := ⟨3, .ints .i64 I⟩) (o3 := ⟨3, .ints .i64 S⟩) (o4 := ⟨3, .box [.int .i64 (k : Nat)]⟩) (boxIU _) zAQ zAQ (boxIU _)) ⟨trivial, ⟨fun o ho => by simp at ho; subst ho; exact Nat.zero_lt_one, fun o ho => by simp at ho; subst ho; exact Nat.zero_lt_one, trivial⟩, trivial⟩ rfl rfl rfl ?_
   cases hany : t.any (zA6 p (k : Int))
   · rw [hany, if_neg (by decide)] at is ss
     rw [zPo _ _ hany]
     repeat (first | refine zB (zK rfl) ?_ | refine zC ?_)
     refine zA ?_
     refine zAt [some ⟨3, .box [.int .i64 p]⟩, some ⟨3, .ints .i64 I⟩, some ⟨3, .ints .i64 S⟩] [some ⟨3, .box [.int .i64 (k : Nat)]⟩] [(0, .ro (zZ t) 0 t.length), (3, .ptr 0 0 0), (6, .sl 1 0 I.length), (7, .sl 2 0 I.length), (9, .int .i64 (-1)), (10, .int .i64 (k : Nat))] rfl ⟨rfl, rfl, rfl, rfl, rfl, rfl, trivial⟩ (fun h hh => by rw [hfix] at hh; exact absurd hh id) (below3 (zJd _ _) (zCj _ _ _) (zCj _ _ _)) rfl ?_
     repeat (first | refine zB (zH rfl) ?_ | refine zC ?_ | refine zA ?_ | refine zY ?_ | refine zJ rfl ?_ | refine zAN rfl ?_ | refine zg ?_ | refine zl ?_ | refine zB (zC8 rfl rfl) ?_ | refine zB (zCz rfl rfl (by omega)) ?_)
     exact zN ⟨k + 1, by omega, by omega, ⟨rfl, rfl, by rw [hI2, is]; rfl, by rw [hI2, is]; rfl, rfl, trivial⟩, by rw [hI2, hS2, is, ss]⟩
   · rw [hany, if_pos rfl] at is ss
     have hfl := zNF hany
     rw [zKS _ _ hany]
     have hw : zc t p (k : Int) = (t.getD (t.findIdx (zA6 p (k : Int))) node0).next.length := rfl
     have hfl : t.findIdx (zA6 p (k : Int)) < t.length := hfl
     generalize zc t p (k : Int) = wd at *
     generalize t.findIdx (zA6 p (k : Int)) = f at *
     repeat (first | refine zB (zH rfl) ?_ | refine zB (zK rfl) ?_ | refine zC ?_ | refine zA ?_ | refine zY ?_ | refine zJ rfl ?_ | refine zBB rfl ?_ | refine zB (zC8 rfl rfl) ?_)
     refine zm (by kernel_rfl) ?_
     refine zO 0 rfl (by kernel_rfl) (by kernel_rfl) (by kernel_rfl) rfl (zH rfl) rfl ?_
     refine zO 4 rfl (by kernel_rfl) (by kernel_rfl) (by kernel_rfl) rfl (zH rfl) rfl ?_
     refine zO 5 rfl (by kernel_rfl) (by kernel_rfl) (by kernel_rfl) rfl (zH rfl) rfl ?_
     refine zO 6 rfl (by kernel_rfl) (by kernel_rfl) (by kernel_rfl) rfl (zH rfl) rfl ?_
     refine zO 7 rfl (by kernel_rfl) (by kernel_rfl) (by kernel_rfl) rfl (ze rfl rfl rfl rfl (by first | (simp only [Nat.zero_add, Int.toNat_natCast, Int.toNat_zero]; exact rfl) | exact rfl) (by omega)) rfl ?_
     refine zO 8 rfl (by kernel_rfl) (by kernel_rfl) (by kernel_rfl) rfl (zA9 rfl rfl rfl rfl rfl rfl) rfl ?_
     apply zCM (H := [some ⟨3, .box [.int .i64 p]⟩, some ⟨3, .ints .i64 (I ++ [(k : Int)])⟩, some ⟨3, .ints .i64 (S ++ [(wd : Int)])⟩, some ⟨3, .box [.int .i64 (k : Nat)]⟩]) [(0, .ro (zZ t) 0 t.length), (3, .ptr 0 0 0), (6, .sl 1 0 (I.length + 1)), (7, .sl 2 0 (I.length + 1)), (10, .int .i64 (k : Nat))]
     · intro fin2
       subst hw
       refine zD (is := [1, 9]) (by kernel_rfl) (by simp) rfl ⟨fun o ho => ?_, fun o ho => ?_, trivial⟩
       all_goals (cases ho)
       · refine rn4 ?_
         refine zD (is := [2, 9]) (by kernel_rfl) (by simp) rfl ⟨fun o ho => ?_, fun o ho => ?_, trivial⟩
         all_goals (cases ho)
         · refine rn3 ?_
           refine zD (is := [3, 9]) (by kernel_rfl) (by simp) rfl ⟨fun o ho => ?_, fun o ho => ?_, trivial⟩
           all_goals (cases ho)
           · refine zn rfl rfl rfl rfl rfl rfl rfl rfl rfl rfl rfl rfl (by show 0 + 1 ≤ 1; omega) rfl (by show (I.length + 1) * 8 ≤ _ ∧ _; omega) (fun i j _ _ => rfl) (by rw [hfix]; exact fun h => h) ?_
             refine rn1 ?_
             refine zD (is := [9]) (by kernel_rfl) (by simp) rfl ⟨fun o ho => ?_, trivial⟩
             all_goals (cases ho)
             refine rn6 ?_
             refine zO 10 rfl (by kernel_rfl) (by kernel_rfl) (by kernel_rfl) rfl (zA8 rfl rfl rfl) rfl ?_
             refine zD (is := [11]) (by kernel_rfl) (by simp) rfl ⟨fun o ho => ?_, trivial⟩
             all_goals (cases ho)
             refine rn3 ?_
             refine zD (is := [12]) (by kernel_rfl) (by simp) rfl ⟨fun o ho => ?_, trivial⟩
             all_goals (cases ho)
             refine zn rfl rfl rfl rfl rfl rfl rfl rfl rfl hsl rfl rfl (by show 0 + 1 ≤ 1; omega) rfl (by show (I.length + 1) * 8 ≤ _ ∧ _; omega) (fun i j _ _ => rfl) (by rw [hfix]; exact fun h => h) ?_
             refine rn1 ?_
             refine zO 13 rfl (by kernel_rfl) (by kernel_rfl) (by kernel_rfl) rfl (zK rfl) rfl ?_
             refine zO 14 rfl (by kernel_rfl) (by kernel_rfl) (by kernel_rfl) rfl (zK rfl) rfl ?_
             exact fin2 _ ⟨rfl, rfl, rfl, rfl, rfl, trivial⟩
           · refine rn6 ?_
             refine zO 10 rfl (by kernel_rfl) (by kernel_rfl) (by kernel_rfl) rfl (zA8 rfl rfl rfl) rfl ?_
             refine zD (is := [3, 11]) (by kernel_rfl) (by simp) rfl ⟨fun o ho => ?_, fun o ho => ?_, trivial⟩
             all_goals (cases ho)
             · refine zn rfl rfl rfl rfl rfl rfl rfl rfl rfl rfl rfl rfl (by show 0 + 1 ≤ 1; omega) rfl (by show (I.length + 1) * 8 ≤ _ ∧ _; omega) (fun i j _ _ => rfl) (by rw [hfix]; exact fun h => h) ?_
               refine rn1 ?_
               refine zD (is := [11]) (by kernel_rfl) (by simp) rfl ⟨fun o ho => ?_, trivial⟩
               all_goals (cases ho)
               refine rn3 ?_
               refine zD (is := [12]) (by kernel_rfl) (by simp) rfl ⟨fun o ho => ?_, trivial⟩
               all_goals (cases ho)
               refine zn rfl rfl rfl rfl rfl rfl rfl rfl rfl hsl rfl rfl (by show 0 + 1 ≤ 1; omega) rfl (by show (I.length + 1) * 8 ≤ _ ∧ _; omega) (fun i j _ _ => rfl) (by rw [hfix]; exact fun h => h) ?_
               refine rn1 ?_
               refine zO 13 rfl (by kernel_rfl) (by kernel_rfl) (by kernel_rfl) rfl (zK rfl) rfl ?_
               refine zO 14 rfl (by kernel_rfl) (by kernel_rfl) (by kernel_rfl) rfl (zK rfl) rfl ?_
               exact fin2 _ ⟨rfl, rfl, rfl, rfl, rfl, trivial⟩
             · refine rn3 ?_
               refine zD (is := [3]) (by kernel_rfl) (by simp) rfl ⟨fun o ho => ?_, trivial⟩
               all_goals (cases ho)
               refine zn rfl rfl rfl rfl rfl rfl rfl rfl rfl rfl rfl rfl (by show 0 + 1 ≤ 1; omega) rfl (by show (I.length + 1) * 8 ≤ _ ∧ _; omega) (fun i j _ _ => rfl) (by rw [hfix]; exact fun h => h) ?_
               refine rn1 ?_
               refine zD (is := [12]) (by kernel_rfl) (by simp) rfl ⟨fun o ho => ?_, trivial⟩
               all_goals (cases ho)
               refine zn rfl rfl rfl rfl rfl rfl rfl rfl rfl hsl rfl rfl (by show 0 + 1 ≤ 1; omega) rfl (by show (I.length + 1) * 8 ≤ _ ∧ _; omega) (fun i j _ _ => rfl) (by rw [hfix]; exact fun h => h) ?_
               refine rn1 ?_
               refine zO 13 rfl (by kernel_rfl) (by kernel_rfl) (by kernel_rfl) rfl (zK rfl) rfl ?_
               refine zO 14 rfl (by kernel_rfl) (by kernel_rfl) (by kernel_rfl) rfl (zK rfl) rfl ?_
               exact fin2 _ ⟨rfl, rfl, rfl, rfl, rfl, trivial⟩
         · refine rn6 ?_
           refine zO 10 rfl (by kernel_rfl) (by kernel_rfl) (by kernel_rfl) rfl (zA8 rfl rfl rfl) rfl ?_
           refine zD (is := [2, 11]) (by kernel_rfl) (by simp) rfl ⟨fun o ho => ?_, fun o ho => ?_, trivial⟩
           all_goals (cases ho)
           · refine rn3 ?_
             refine zD (is := [3, 11]) (by kernel_rfl) (by simp) rfl ⟨fun o ho => ?_, fun o ho => ?_, trivial⟩
             all_goals (cases ho)
             · refine zn rfl rfl rfl rfl rfl rfl rfl rfl rfl rfl rfl rfl (by show 0 + 1 ≤ 1; omega) rfl (by show (I.length + 1) * 8 ≤ _ ∧ _; omega) (fun i j _ _ => rfl) (by rw [hfix]; exact fun h => h) ?_
               refine rn1 ?_
               refine zD (is := [11]) (by kernel_rfl) (by simp) rfl ⟨fun o ho => ?_, trivial⟩
               all_goals (cases ho)
               refine rn3 ?_
               refine zD (is := [12]) (by kernel_rfl) (by simp) rfl ⟨fun o ho => ?_, trivial⟩
               all_goals (cases ho)
               refine zn rfl rfl rfl rfl rfl rfl rfl rfl rfl hsl rfl rfl (by show 0 + 1 ≤ 1; omega) rfl (by show (I.length + 1) * 8 ≤ _ ∧ _; omega) (fun i j _ _ => rfl) (by rw [hfix]; exact fun h => h) ?_
               refine rn1 ?_
               refine zO 13 rfl (by kernel_rfl) (by kernel_rfl) (by kernel_rfl) rfl (zK rfl) rfl ?_
               refine zO 14 rfl (by kernel_rfl) (by kernel_rfl) (by kernel_rfl) rfl (zK rfl) rfl ?_
               exact fin2 _ ⟨rfl, rfl, rfl, rfl, rfl, trivial⟩
             · refine rn3 ?_
               refine zD (is := [3]) (by kernel_rfl) (by simp) rfl ⟨fun o ho => ?_, trivial⟩
               all_goals (cases ho)
               refine zn rfl rfl rfl rfl rfl rfl rfl rfl rfl rfl rfl rfl (by show 0 + 1 ≤ 1; omega) rfl (by show (I.length + 1) * 8 ≤ _ ∧ _; omega) (fun i j _ _ => rfl) (by rw [hfix]; exact fun h => h) ?_
               refine rn1 ?_
               refine zD (is := [12]) (by kernel_rfl) (by simp) rfl ⟨fun o ho => ?_, trivial⟩
               all_goals (cases ho)
               refine zn rfl rfl rfl rfl rfl rfl rfl rfl rfl hsl rfl rfl (by show 0 + 1 ≤ 1; omega) rfl (by show (I.length + 1) * 8 ≤ _ ∧ _; omega) (fun i j _ _ => rfl) (by rw [hfix]; exact fun h => h) ?_
               refine rn1 ?_
               refine zO 13 rfl (by kernel_rfl) (by kernel_rfl) (by kernel_rfl) rfl (zK rfl) rfl ?_
               refine zO 14 rfl (by kernel_rfl) (by kernel_rfl) (by kernel_rfl) rfl (zK rfl) rfl ?_
               exact fin2 _ ⟨rfl, rfl, rfl, rfl, rfl, trivial⟩
           · refine rn3 ?_
             refine zD (is := [2]) (by kernel_rfl) (by simp) rfl ⟨fun o ho => ?_, trivial⟩
             all_goals (cases ho)
             refine rn3 ?_
             refine zD (is := [3]) (by kernel_rfl) (by simp) rfl ⟨fun o ho => ?_, trivial⟩
             all_goals (cases ho)
             refine zn rfl rfl rfl rfl rfl rfl rfl rfl rfl rfl rfl rfl (by show 0 + 1 ≤ 1; omega) rfl (by show (I.length + 1) * 8 ≤ _ ∧ _; omega) (fun i j _ _ => rfl) (by rw [hfix]; exact fun h => h) ?_
             refine rn1 ?_
             refine zD (is := [12]) (by kernel_rfl) (by simp) rfl ⟨fun o ho => ?_, trivial⟩
             all_goals (cases ho)
             refine zn rfl rfl rfl rfl rfl rfl rfl rfl rfl hsl rfl rfl (by show 0 + 1 ≤ 1; omega) rfl (by show (I.length + 1) * 8 ≤ _ ∧ _; omega) (fun i j _ _ => rfl) (by rw [hfix]; exact fun h => h) ?_
             refine rn1 ?_
             refine zO 13 rfl (by kernel_rfl) (by kernel_rfl) (by kernel_rfl) rfl (zK rfl) rfl ?_
             refine zO 14 rfl (by kernel_rfl) (by kernel_rfl) (by kernel_rfl) rfl (zK rfl) rfl ?_
             exact fin2 _ ⟨rfl, rfl, rfl, rfl, rfl, trivial⟩
       · refine rn6 ?_
         refine zO 10 rfl (by kernel_rfl) (by kernel_rfl) (by kernel_rfl) rfl (zA8 rfl rfl rfl) rfl ?_
         refine zD (is := [1, 11]) (by kernel_rfl) (by simp) rfl ⟨fun o ho => ?_, fun o ho => ?_, trivial⟩
         all_goals (cases ho)
         · refine rn4 ?_
           refine zD (is := [2, 11]) (by kernel_rfl) (by simp) rfl ⟨fun o ho => ?_, fun o ho => ?_, trivial⟩
           all_goals (cases ho)
           · refine rn3 ?_
             refine zD (is := [3, 11]) (by kernel_rfl) (by simp) rfl ⟨fun o ho => ?_, fun o ho => ?_, trivial⟩
             all_goals (cases ho)
             · refine zn rfl rfl rfl rfl rfl rfl rfl rfl rfl rfl rfl rfl (by show 0 + 1 ≤ 1; omega) rfl (by show (I.length + 1) * 8 ≤ _ ∧ _; omega) (fun i j _ _ => rfl) (by rw [hfix]; exact fun h => h) ?_
               refine rn1 ?_
               refine zD (is := [11]) (by kernel_rfl) (by simp) rfl ⟨fun o ho => ?_, trivial⟩
               all_goals (cases ho)
               refine rn3 ?_
               refine zD (is := [12]) (by kernel_rfl) (by simp) rfl ⟨fun o ho => ?_, trivial⟩
               all_goals (cases ho)
               refine zn rfl rfl rfl rfl rfl rfl rfl rfl rfl hsl rfl rfl (by show 0 + 1 ≤ 1; omega) rfl (by show (I.length + 1) * 8 ≤ _ ∧ _; omega) (fun i j _ _ => rfl) (by rw [hfix]; exact fun h => h) ?_
               refine rn1 ?_
               refine zO 13 rfl (by kernel_rfl) (by kernel_rfl) (by kernel_rfl) rfl (zK rfl) rfl ?_
               refine zO 14 rfl (by kernel_rfl) (by kernel_rfl) (by kernel_rfl) rfl (zK rfl) rfl ?_
               exact fin2 _ ⟨rfl, rfl, rfl, rfl, rfl, trivial⟩
             · refine rn3 ?_
               refine zD (is := [3]) (by kernel_rfl) (by simp) rfl ⟨fun o ho => ?_, trivial⟩
               all_goals (cases ho)
               refine zn rfl rfl rfl rfl rfl rfl rfl rfl rfl rfl rfl rfl (by show 0 + 1 ≤ 1; omega) rfl (by show (I.length + 1) * 8 ≤ _ ∧ _; omega) (fun i j _ _ => rfl) (by rw [hfix]; exact fun h => h) ?_
               refine rn1 ?_
               refine zD (is := [12]) (by kernel_rfl) (by simp) rfl ⟨fun o ho => ?_, trivial⟩
               all_goals (cases ho)
               refine zn rfl rfl rfl rfl rfl rfl rfl rfl rfl hsl rfl rfl (by show 0 + 1 ≤ 1; omega) rfl (by show (I.length + 1) * 8 ≤ _ ∧ _; omega) (fun i j _ _ => rfl) (by rw [hfix]; exact fun h => h) ?_
               refine rn1 ?_
               refine zO 13 rfl (by kernel_rfl) (by kernel_rfl) (by kernel_rfl) rfl (zK rfl) rfl ?_
               refine zO 14 rfl (by kernel_rfl) (by kernel_rfl) (by kernel_rfl) rfl (zK rfl) rfl ?_
               exact fin2 _ ⟨rfl, rfl, rfl, rfl, rfl, trivial⟩
           · refine rn3 ?_
             refine zD (is := [2]) (by kernel_rfl) (by simp) rfl ⟨fun o ho => ?_, trivial⟩
             all_goals (cases ho)
             refine rn3 ?_
             refine zD (is := [3]) (by kernel_rfl) (by simp) rfl ⟨fun o ho => ?_, trivial⟩
             all_goals (cases ho)
             refine zn rfl rfl rfl rfl rfl rfl rfl rfl rfl rfl rfl rfl (by show 0 + 1 ≤ 1; omega) rfl (by show (I.length + 1) * 8 ≤ _ ∧ _; omega) (fun i j _ _ => rfl) (by rw [hfix]; exact fun h => h) ?_
             refine rn1 ?_
             refine zD (is := [12]) (by kernel_rfl) (by simp) rfl ⟨fun o ho => ?_, trivial⟩
             all_goals (cases ho)
             refine zn rfl rfl rfl rfl rfl rfl rfl rfl rfl hsl rfl rfl (by show 0 + 1 ≤ 1; omega) rfl (by show (I.length + 1) * 8 ≤ _ ∧ _; omega) (fun i j _ _ => rfl) (by rw [hfix]; exact fun h => h) ?_
             refine rn1 ?_
             refine zO 13 rfl (by kernel_rfl) (by kernel_rfl) (by kernel_rfl) rfl (zK rfl) rfl ?_
             refine zO 14 rfl (by kernel_rfl) (by kernel_rfl) (by kernel_rfl) rfl (zK rfl) rfl ?_
             exact fin2 _ ⟨rfl, rfl, rfl, rfl, rfl, trivial⟩
         · refine rn3 ?_
           refine zD (is := [1]) (by kernel_rfl) (by simp) rfl ⟨fun o ho => ?_, trivial⟩
           all_goals (cases ho)
           refine rn4 ?_
           refine zD (is := [2]) (by kernel_rfl) (by simp) rfl ⟨fun o ho => ?_, trivial⟩
           all_goals (cases ho)
           refine rn3 ?_
           refine zD (is := [3]) (by kernel_rfl) (by simp) rfl ⟨fun o ho => ?_, trivial⟩
           all_goals (cases ho)
           refine zn rfl rfl rfl rfl rfl rfl rfl rfl rfl rfl rfl rfl (by show 0 + 1 ≤ 1; omega) rfl (by show (I.length + 1) * 8 ≤ _ ∧ _; omega) (fun i j _ _ => rfl) (by rw [hfix]; exact fun h => h) ?_
           refine rn1 ?_
           refine zD (is := [12]) (by kernel_rfl) (by simp) rfl ⟨fun o ho => ?_, trivial⟩
           all_goals (cases ho)
           refine zn rfl rfl rfl rfl rfl rfl rfl rfl rfl hsl rfl rfl (by show 0 + 1 ≤ 1; omega) rfl (by show (I.length + 1) * 8 ≤ _ ∧ _; omega) (fun i j _ _ => rfl) (by rw [hfix]; exact fun h => h) ?_
           refine rn1 ?_
           refine zO 13 rfl (by kernel_rfl) (by kernel_rfl) (by kernel_rfl) rfl (zK rfl) rfl ?_
           refine zO 14 rfl (by kernel_rfl) (by kernel_rfl) (by kernel_rfl) rfl (zK rfl) rfl ?_
           exact fin2 _ ⟨rfl, rfl, rfl, rfl, rfl, trivial⟩
     · refine zh (by kernel_rfl) ?_
       repeat (refine zg ?_)
       refine zA ?_
       refine zAt [some ⟨3, .box [.int .i64 p]⟩, some ⟨3, .ints .i64 (I ++ [(k : Int)])⟩, some ⟨3, .ints .i64 (S ++ [(wd : Int)])⟩] [some ⟨3, .box [.int .i64 (k : Nat)]⟩] [(0, .ro (zZ t) 0 t.length), (3, .ptr 0 0 0), (6, .sl 1 0 (I.length + 1)), (7, .sl 2 0 (I.length + 1)), (10, .int .i64 (k : Nat))] rfl ⟨rfl, rfl, rfl, rfl, rfl, trivial⟩ (fun h hh => by rw [hfix] at hh; exact absurd hh id) (below3 (zJd _ _) (zCj _ _ _) (zCj _ _ _)) rfl ?_
       refine rn3 ?_
       have il : I2.length = I.length + 1 := by rw [is, List.length_append]; rfl
       exact zN ⟨k + 1, by omega, by omega, ⟨rfl, rfl, by rw [hI2, il]; rfl, by rw [hI2, il]; rfl, rfl, trivial⟩, by rw [hI2, hS2, is, ss]⟩
 · have hke10 : k = 10 := by omega
   subst hke10
   have hsl := zJ0 t p 10
   repeat (first | refine zA ?_ | refine zY ?_ | refine zAs ?_ | refine zq ?_ | refine zr ?_ | refine zAF ?_)
   refine zAx 1 6 (zBa t p 10).length [(7, .sl 2 0 (zBa t p 10).length)] rfl zAQ rfl (by show (zBa t p 10).length ≤ (zBa t p 10).length; exact Nat.le_refl _) ⟨rfl, trivial⟩ ?_
   refine zAx 2 7 (zBa t p 10).length [(6, .ro (.ints .i64 (zBa t p 10)) 0 (zBa t p 10).length)] rfl zAQ rfl (by show (zBa t p 10).length ≤ (zDA t p 10).length; omega) ⟨rfl, trivial⟩ ?_
   refine zAc 7 (.ro (.ints .i64 (zDA t p 10)) 0 (zDA t p 10).length) rfl (AEq.of_eq (by rw [hsl])) ?_
   refine rn0 ?_
   exact zI hR rfl rfl
end Go.Proofs.YtnkealfaldjipaaGreatDoor
namespace Go.Proofs.YtnkealfaldjipaaGreatDoor
open Go.Ax Go.Ax.Bg Go.Ax.Rt Go.RowKit
attribute [local irreducible] Ax zAM QOp zM zp
set_option maxRecDepth 100000
set_option maxHeartbeats 4000000
def cellS (r : List zAG) : List AV := [.ro (.strs r) 0 r.length]
def cellR (r : List Rat) : List AV := [.ro (qsC r) 0 r.length]
abbrev rowsT (m : List (List zAG)) : Cells := zB4 [] 1 cellS m
abbrev rowsQ (m : List (List Rat)) : Cells := zB4 [] 1 cellR m
theorem in_ok' (l : List zAG) (hlen : l.length ≤ 1000000) (hs : ∀ s ∈ l, s.length ≤ 9223372036854775807 ∧ zCq s = 0) : zW Tryz.prog 104 [.ro (.strs l) 0 l.length] (.ro (qsC (l.map zAU)) 0 (l.map zAU).length) := by
 have := in_ok l hlen hs
 rwa [List.length_map]
end Go.Proofs.YtnkealfaldjipaaGreatDoor
namespace Go.Proofs.YtnkealfaldjipaaGreatDoor
open Go.Ax Go.Ax.Bg Go.Ax.Rt Go.RowKit
attribute [local irreducible] Ax zAM QOp zM zp
set_option maxRecDepth 100000
set_option maxHeartbeats 4000000
theorem zGH {m : Nat} {q : Rat} (h : D (9 * m) q) : Sz m q := by
 have key : ∀ n : Nat, n < 10 ^ (9 * m) → (zV n).length ≤ m := fun n hn => by
   refine zAd (Nat.lt_of_lt_of_le hn ?_)
   rw [Nat.pow_mul]
   exact Nat.pow_le_pow_left (by decide) m
 exact ⟨key _ h.1, key _ h.2⟩
end Go.Proofs.YtnkealfaldjipaaGreatDoor
namespace Go.Proofs.YtnkealfaldjipaaGreatDoor
open Go.Ax Go.Ax.Bg Go.Ax.Rt Go.RowKit
attribute [local irreducible] Ax zAM QOp zM zp
set_option maxRecDepth 100000
set_option maxHeartbeats 4000000
end Go.Proofs.YtnkealfaldjipaaGreatDoor
namespace Go.Proofs.YtnkealfaldjipaaGreatDoor
open Go.Ax Go.Ax.Bg Go.Ax.Rt Go.RowKit
attribute [local irreducible] Ax zAM QOp zM zp
set_option maxRecDepth 100000
set_option maxHeartbeats 4000000
def matP (p : List (List zAG) × Int) : AV := .tup [.ro (rowsT p.1) 0 p.1.length, .int .i64 p.2]
theorem zL1 (l : List Rat) (hlen : l.length ≤ 1000000) (hs : ∀ q ∈ l, Sz 100000 q) (hall : l.all zBp = true) : zW Tryz.prog 80 [.ro (qsC l) 0 l.length] (.tup [.ro (.strs (l.map zAK)) 0 (l.map zAK).length, .int .i64 0]) := by
 have := zM9 l hlen hs hall
 rwa [List.length_map]
end Go.Proofs.YtnkealfaldjipaaGreatDoor
namespace Go.Proofs.YtnkealfaldjipaaGreatDoor
open Go.Ax Go.Ax.Bg Go.Ax.Rt Go.RowKit
attribute [local irreducible] Ax zAM QOp zM zp
set_option maxRecDepth 100000
set_option maxHeartbeats 4000000
end Go.Proofs.YtnkealfaldjipaaGreatDoor
namespace Go.Proofs.YtnkealfaldjipaaGreatDoor
open Go.Ax Go.Ax.Bg Go.Ax.Rt Go.RowKit
attribute [local irreducible] Ax zAM QOp zM zp
set_option maxRecDepth 100000
set_option maxHeartbeats 4000000
def vecP (p : List zAG × Int) : AV := .tup [.ro (.strs p.1) 0 p.1.length, .int .i64 p.2]
theorem zPY (l : List Rat) (hlen : l.length ≤ 1000000) (hs : ∀ q ∈ l, Sz 100000 q) : ∃ r : AV, zW Tryz.prog 80 [.ro (qsC l) 0 l.length] (.tup [r, .int .i64 (zA2 l).2]) ∧ AEq r (.ro (.strs (zA2 l).1) 0 (zA2 l).1.length) := by
 cases h : l.all zBp
 · refine ⟨.nil, ?_, ?_⟩
   · have := zPD l hlen hs h
     unfold zA2; rw [h]; exact this
   · unfold zA2; rw [h]; exact AEq.nil
 · refine ⟨_, ?_, AEq.rfl'⟩
   have := zL1 l hlen hs h
   unfold zA2; rw [h]; exact this
end Go.Proofs.YtnkealfaldjipaaGreatDoor
namespace Go.Proofs.YtnkealfaldjipaaGreatDoor
open Go.Ax Go.Ax.Bg Go.Ax.Rt Go.RowKit Go.Ax.Idx Go.Ax.Cd
attribute [local irreducible] Ax zAM QOp zM zp
set_option maxRecDepth 100000
set_option maxHeartbeats 4000000
def longV (n : Int) (v : List zAG) : Bool := decide (n < (v.length : Int)) || v.any (fun s => decide (12 < (s.length : Int)))
def cellM (m : List (List zAG)) : List AV := [.ro (rowsT m) 0 m.length]
abbrev matsT (l : List (List (List zAG))) : Cells := zB4 [] 1 cellM l
end Go.Proofs.YtnkealfaldjipaaGreatDoor
namespace Go.Proofs.YtnkealfaldjipaaGreatDoor
open Go.Ax Go.Ax.Bg Go.Ax.Rt Go.RowKit Go.Ax.Idx Go.Ax.Cd
attribute [local irreducible] Ax zAM QOp zM zp
set_option maxRecDepth 100000
set_option maxHeartbeats 4000000
def colT (m : List (List zAG)) (k : Nat) : List zAG := m.map (fun r => r.getD k [])
end Go.Proofs.YtnkealfaldjipaaGreatDoor
namespace Go.Proofs.YtnkealfaldjipaaGreatDoor
open Go.Ax Go.Ax.Bg Go.Ax.Rt Go.RowKit Go.Ax.Idx Go.Ax.Cd
attribute [local irreducible] Ax zAM QOp zM zp
set_option maxRecDepth 100000
set_option maxHeartbeats 4000000
end Go.Proofs.YtnkealfaldjipaaGreatDoor
namespace Go.Proofs.YtnkealfaldjipaaGreatDoor
open Go.Ax Go.Ax.Bg Go.Ax.Rt Go.RowKit Go.Ax.Idx Go.Ax.Cd
attribute [local irreducible] Ax zAM QOp zM zp
set_option maxRecDepth 100000
set_option maxHeartbeats 4000000
end Go.Proofs.YtnkealfaldjipaaGreatDoor
namespace Go.Proofs.YtnkealfaldjipaaGreatDoor
open Go.Ax Go.Ax.Bg Go.Ax.Rt Go.RowKit Go.Ax.Idx Go.Ax.Cd
attribute [local irreducible] Ax zAM QOp zM zp
set_option maxRecDepth 100000
set_option maxHeartbeats 4000000
def zHI (x : Int × Int) : List AV := [.int .i64 x.1, .int .i64 x.2]
abbrev zBJ (l : zCH) : Cells := zB4 (0, 0) 2 zHI l
end Go.Proofs.YtnkealfaldjipaaGreatDoor
namespace Go.Proofs.YtnkealfaldjipaaGreatDoor
open Go.Ax Go.Ax.Bg Go.Ax.Rt Go.RowKit Go.Ax.Idx Go.Ax.Cd
attribute [local irreducible] Ax zAM QOp zM zp
set_option maxRecDepth 100000
set_option maxHeartbeats 4000000
end Go.Proofs.YtnkealfaldjipaaGreatDoor
namespace Go.Proofs.YtnkealfaldjipaaGreatDoor
open Go.Ax Go.Ax.Bg Go.Ax.Rt Go.RowKit Go.Ax.Idx Go.Ax.Cd
attribute [local irreducible] Ax zAM QOp zM zp
set_option maxRecDepth 100000
set_option maxHeartbeats 4000000
end Go.Proofs.YtnkealfaldjipaaGreatDoor
namespace Go.Proofs.YtnkealfaldjipaaGreatDoor
open Go.Ax Go.Ax.Bg Go.Ax.Rt Go.RowKit Go.Ax.Idx Go.Ax.Cd
attribute [local irreducible] Ax zAM QOp zM zp
set_option maxRecDepth 100000
set_option maxHeartbeats 4000000
end Go.Proofs.YtnkealfaldjipaaGreatDoor
namespace Go.Proofs.YtnkealfaldjipaaGreatDoor
open Go.Ax Go.Ax.Bg Go.Ax.Rt Go.RowKit Go.Ax.Idx Go.Ax.Cd
attribute [local irreducible] Ax zAM QOp zM zp
set_option maxRecDepth 100000
set_option maxHeartbeats 4000000
end Go.Proofs.YtnkealfaldjipaaGreatDoor
namespace Go.Proofs.YtnkealfaldjipaaGreatDoor
open Go.Ax Go.Ax.Bg Go.Ax.Rt Go.RowKit Go.Ax.Idx Go.Ax.Cd
attribute [local irreducible] Ax zAM QOp zM zp
set_option maxRecDepth 100000
set_option maxHeartbeats 4000000
def bothA (p : (List zAG × List zAG) × Int) : AV := .tup [.ro (.strs p.1.1) 0 p.1.1.length, .ro (.strs p.1.2) 0 p.1.2.length, .int .i64 p.2]
end Go.Proofs.YtnkealfaldjipaaGreatDoor
namespace Go.Proofs.YtnkealfaldjipaaGreatDoor
open Go.Ax Go.Ax.Bg Go.Ax.Rt Go.RowKit Go.Ax.Idx Go.Ax.Cd
attribute [local irreducible] Ax zAM QOp zM zp
set_option maxRecDepth 100000
set_option maxHeartbeats 4000000
theorem zLJ (q : Rat) (j : Nat) : noRef ((zAB q).getD j .any) = true := by
 match j with
 | 0 => rfl
 | 1 => rfl
 | 2 => rfl
 | n + 3 => rfl
end Go.Proofs.YtnkealfaldjipaaGreatDoor
namespace Go.Proofs.YtnkealfaldjipaaGreatDoor
open Go.Ax Go.Ax.Bg Go.Ax.Rt Go.RowKit Go.Ax.Idx Go.Ax.Cd
attribute [local irreducible] Ax zAM QOp zM zp
set_option maxRecDepth 100000
set_option maxHeartbeats 4000000
def averageR (m : List (List zAG)) (l : zCH) : (List zAG × List zAG) × Int :=
 if zKe m l ≠ 0 then (([], []), zKe m l) else if l = [] then (([], []), 8)
 else bothR ((cntQ Prod.fst l m.length).map (fun q => q / (l.length : Rat))) ((cntQ Prod.snd l (zDq m)).map (fun q => q / (l.length : Rat)))
def boundsA (p : (zAG × zAG) × Int) : AV := .tup [.str p.1.1, .str p.1.2, .int .i64 p.2]
end Go.Proofs.YtnkealfaldjipaaGreatDoor
namespace Go.Proofs.YtnkealfaldjipaaGreatDoor
open Go.Ax Go.Ax.Bg Go.Ax.Rt Go.RowKit Go.Ax.Idx Go.Ax.Cd
attribute [local irreducible] Ax zAM QOp zM zp
set_option maxRecDepth 100000
set_option maxHeartbeats 4000000
/-- Numbers that may not be there yet. -/
def zCA : Option Rat → List AV
 | some q => zAB q
 | none => [.bool false, .nil, .nil]
abbrev zsC (l : List (Option Rat)) : Cells := zB4 none 3 zCA l
theorem zOk (n : Nat) : CEq (zAS n [.bool false, .nil, .nil]) (zsC (List.replicate n none)) := by
 refine ⟨by simp [zB4, Cells.len, zAS], rfl, fun i j hi hj => ?_⟩
 have hi : i < n := by simpa [Cells.len, zAS] using hi
 show (zCA ((List.replicate n (none : Option Rat)).getD i none)).getD j .any = _
 rw [zAe none (by simpa using hi), List.getElem_replicate]
 rfl
theorem zEU {α : Type} (d : α) (n : Nat) (e : α → List AV) (zs : List α) (k : Nat) (a : α) (hk : k < zs.length) (i' j' : Nat) (hi' : i' < zs.length) (hj' : j' < n) : (zB4 d n e (zs.set k a)).at i' j' = if i' = k then (e a).getD j' .any else (zB4 d n e zs).at i' j' := by
 show (e ((zs.set k a).getD i' d)).getD j' .any = if i' = k then (e a).getD j' .any else (e (zs.getD i' d)).getD j' .any
 rw [Go.Ax.Dt.getD_set]
 by_cases h : i' = k
 · rw [if_pos h, if_pos ⟨h, hk⟩]
 · rw [if_neg h, if_neg (fun q => h q.1)]
def histA (p : zCH × Int) : AV := .tup [.ro (zBJ p.1) 0 p.1.length, .int .i64 p.2]
theorem zG0 (l : zCH) : z6 (zBJ l) := by
 intro i j _ hj
 have hj : j < 2 := hj
 match j, hj with
 | 0, _ => rfl
 | 1, _ => rfl
end Go.Proofs.YtnkealfaldjipaaGreatDoor
namespace Go.Ax
variable [Pins]
open Go.RowKit
def eqIs (P : Program) (e : TypeId) (L M : List AV) : List Nat → Option Bool
 | [] => some true
 | i :: is => match eqIs P e L M is, L[i]?, M[i]? with
   | some r, some x, some y => (sclEq P e x y).map (· && r)
   | _, _, _ => none
theorem zMU {P : Program} {w w' : World} {S : Nat → Prop} {σ : Nat → Option Blk} {L M : List AV} {xs ys : Array Value} {d : Nat} {e : TypeId} (h1 : xs.size = L.length) (h2 : ∀ i, i < L.length → VR w S σ (L.getD i .any) (xs.getD i undef)) (h3 : ys.size = M.length) (h4 : ∀ i, i < M.length → VR w S σ (M.getD i .any) (ys.getD i undef)) :
   ∀ (is : List Nat) (b : Bool), eqIs P e L M is = some b → (Op.eqItems (d + 1) e 1 xs ys is).run P w' = .ok b w'
 | [], b, h => by simp [eqIs] at h; subst h; simp [Op.eqItems]
 | i :: is, b, h => by
   simp only [eqIs] at h
   split at h
   · rename_i r x y hr hL hM
     have ih := zMU (d := d) (w' := w') h1 h2 h3 h4 is r hr
     obtain ⟨v1, e1, r1⟩ := zOW h1 h2 hL
     obtain ⟨v2, e2, r2⟩ := zOW h3 h4 hM
     obtain ⟨q, hq, hb⟩ := Option.map_eq_some_iff.1 h
     obtain ⟨hp, hrun⟩ := zPz (w' := w') hq r1 r2 d
     simp only [Op.eqItems, Nat.mul_one]
     simp only [Sem.run_bind, run_part_plain w' hp e1, Result.andThen_ok, run_part_plain w' hp e2, hrun]
     subst hb
     cases q with
     | false => simp
     | true => simpa using ih
   · cases h
section
variable {P : Program} {fn : Func} {c : Ctx} {fr : Fr} {H : zR} {k : List It} {ind : Bool} {d : Option Nat} {ty : TypeId} {pos : String} {after : Array Edge} {g : Option (Nat × Bool)}
theorem q_arrneq {x y : Operand} {t t' e : TypeId} {n : Nat} {inf : TypeInfo} {L M : List AV} {b : Bool} (hx : ev fr x = some (.agg L)) (hy : ev fr y = some (.agg M)) (ht : P.underlying t = some (.array n e)) (hi : P.info? e = some inf) (hc : P.cellsOf e = 1) (hg : P.eqGuardType P.depth t = false)
   (he : eqIs P e L M (List.range n) = some b) : QOp ind P fn c fr H ⟨d, .binOp .neq t x y t', ty, pos, after, g⟩ (.bool (!b)) := by
 intro w a σ S hr
 have h1 := hr.evAt hx
 have h2 := hr.evAt hy
 generalize hz : a.eval x = z at h1
 generalize hzy : a.eval y = zy at h2
 cases h1 with
 | agg _ _ xs a1 a2 a3 =>
   cases h2 with
   | agg _ _ ys b1 b2 b3 =>
     refine ⟨_, .bool _ _, fun w' _ => ?_⟩
     have hr := zMU (d := 9998) (w' := w') a1 a2 b1 b2 _ b he
     simp only [execOp, hz, hzy, Sem.run_bind, run_eqGuard_agg w' _ _ _ _ _ _ hg, Result.andThen_ok, run_neq_struct, show (10000 : Nat) = 9999 + 1 from rfl, run_equalIn_array w' 9999 _ _ ht hi, hc, hr]
     rfl
end
end Go.Ax
namespace Go.Proofs.YtnkealfaldjipaaGreatDoor
open Go.Ax Go.Ax.Bg Go.Ax.Rt Go.RowKit Go.Ax.Idx Go.Ax.Cd
attribute [local irreducible] Ax zAM QOp zM zp
set_option maxRecDepth 100000
set_option maxHeartbeats 4000000
theorem equalP (a b : zCH) (hlen : a.length ≤ 9223372036854775807) (hlb : b.length ≤ 9223372036854775807) : zW Tryz.prog 131 [.ro (zBJ a) 0 a.length, .ro (zBJ b) 0 b.length] (.bool (decide (a = b))) := by
 refine zM.value0 (zG (P := Tryz.prog) (fn := Tryz.f131) rfl rfl (by kernel_rfl) rfl (fun c hR hfix => ?_)) (fix := fun _ => False) (fun _ h => h) rfl rfl
 refine rn3 ?_
 refine zE rfl (fun h => ?_) (fun h => ?_)
 · refine rn2 ?_
   refine zI hR rfl ?_
   have : ¬ a = b := by rintro rfl; exact h rfl
   simp [zBR, this]
 have hab : a.length = b.length := by omega
 refine rn3 ?_
 refine zj (ι := Nat) (fun k => [(0, .ro (zBJ a) 0 a.length), (1, .ro (zBJ b) 0 b.length), (12, .int .i64 (a.length : Nat)), (13, .int .i64 (k : Nat))]) (fun _ => [])
   (fun k => k ≤ a.length ∧ a.take k = b.take k) (fun k => a.length - k) 0 ⟨⟨rfl, rfl, rfl, rfl, trivial⟩, rfl, Nat.zero_le _, rfl⟩ ?_
 intro k ⟨hk, heq⟩
 refine rn4 ?_
 refine zE rfl (fun h2 => ?_) (fun h2 => ?_)
 · have hk' : k < a.length := by omega
   have hkb : k < b.length := by omega
   have ha := zAn a (0, 0) k hk'
   have hb := zAn b (0, 0) k hkb
   refine rn1 ?_
   refine zm (by kernel_rfl) ?_
   refine z8 (fuel := 0) [0, 1, 2, 3, 4, 5, 6, 7, 8] [(0, .ro (zBJ a) 0 a.length), (1, .ro (zBJ b) 0 b.length), (5, .int .i64 (k : Nat)), (12, .int .i64 (a.length : Nat)), (13, .int .i64 (k : Nat))] ⟨rfl, rfl, rfl, rfl, rfl, trivial⟩ (by kernel_rfl) (by decide) rfl rfl ?_
   refine zX rfl rfl (zH rfl) ?_
   refine zX rfl rfl (zH rfl) ?_
   refine zX rfl rfl (ze rfl rfl rfl rfl (by first | (simp only [Nat.zero_add, Int.toNat_natCast, Int.toNat_zero]; exact rfl) | exact rfl) (by omega)) ?_
   refine zX rfl rfl (zCY rfl rfl rfl rfl rfl rfl) ?_
   refine zX rfl rfl (zH rfl) ?_
   refine zX rfl rfl (zH rfl) ?_
   refine zX rfl rfl (ze rfl rfl rfl rfl (by first | (simp only [Nat.zero_add, Int.toNat_natCast, Int.toNat_zero]; exact rfl) | exact rfl) (by omega)) ?_
   refine zX rfl rfl (zCY rfl rfl rfl rfl rfl rfl) ?_
   refine zX rfl rfl (q_arrneq (L := zHI (a.getD k (0, 0))) (M := zHI (b.getD k (0, 0))) (b := decide ((a.getD k (0, 0)).1 = (b.getD k (0, 0)).1) && (decide ((a.getD k (0, 0)).2 = (b.getD k (0, 0)).2) && true)) rfl rfl rfl rfl (by kernel_rfl) (by kernel_rfl) rfl) ?_
   refine zAj ?_
   refine zh (by kernel_rfl) ?_
   repeat (refine zA ?_)
   by_cases h3 : a.getD k (0, 0) = b.getD k (0, 0)
   · rw [h3, decide_eq_true rfl, decide_eq_true rfl]
     refine rn5 ?_
     exact zN ⟨k + 1, ⟨by omega, by rw [ha, hb, heq, h3]⟩, by omega, ⟨rfl, rfl, rfl, rfl, trivial⟩, rfl⟩
   · have h4 : (decide ((a.getD k (0, 0)).1 = (b.getD k (0, 0)).1) && (decide ((a.getD k (0, 0)).2 = (b.getD k (0, 0)).2) && true)) = false := by
       rw [Bool.and_true, ← Bool.not_eq_true, Bool.and_eq_true, decide_eq_true_eq, decide_eq_true_eq]
       rintro ⟨e1, e2⟩
       exact h3 (Prod.ext e1 e2)
     rw [h4]
     refine rn6 ?_
     refine zI hR rfl ?_
     have : ¬ a = b := by rintro rfl; exact h3 rfl
     simp [zBR, this]
 · have hk' : k = a.length := by omega
   subst hk'
   rw [List.take_length, hab, List.take_length] at heq
   refine rn5 ?_
   refine zI hR rfl ?_
   simp [zBR, heq]
def pennT : List (List zAG) := [[[49], [45, 49]], [[45, 49], [49]]]
def allQ : List zAG → List Rat → Bool
 | [], [] => true
 | s :: r, q :: t => decide (IsQ s q) && allQ r t
 | _, _ => false
def histT : zCH := [(0, 0), (0, 1)]
end Go.Proofs.YtnkealfaldjipaaGreatDoor
namespace Go.Proofs.YtnkealfaldjipaaGreatDoor
open Go.Ax Go.Ax.Bg Go.Ax.Rt Go.RowKit Go.Ax.Idx Go.Ax.Cd
attribute [local irreducible] Ax zAM QOp zM zp
set_option maxRecDepth 100000
set_option maxHeartbeats 4000000
theorem zHM {α : Type} (d : α) (n : Nat) (e : α → List AV) (a b : List α) : CEq (.fn (a.length + b.length) n (fun i j => bif Nat.blt i a.length then (zB4 d n e a).at i j else (zB4 d n e b).at (0 + (i - a.length)) j)) (zB4 d n e (a ++ b)) := by
 refine ⟨by simp [zB4, Cells.len], rfl, fun i j hi hj => ?_⟩
 show (e ((a ++ b).getD i d)).getD j .any = bif Nat.blt i a.length then (e (a.getD i d)).getD j .any else (e (b.getD (0 + (i - a.length)) d)).getD j .any
 by_cases h : i < a.length
 · rw [show Nat.blt i a.length = true from Nat.ble_eq_true_of_le h, zFf d h]; rfl
 · have h2 : Nat.blt i a.length = false := by
     cases e : Nat.blt i a.length with
     | false => rfl
     | true => have : i + 1 ≤ a.length := Nat.le_of_ble_eq_true e
               omega
   rw [h2, Nat.zero_add]
   have : (a ++ b).getD i d = b.getD (i - a.length) d := by
     simp only [List.getD]
     rw [List.getElem?_append_right (by omega)]
   rw [this]; rfl
theorem zH8 (l : zCH) (hl : l.length ≤ 1000000) : zHf Tryz.prog 183 [.ro (zBJ l) 0 l.length] (fun N => .sl N 0 l.length) ⟨208, zBJ l⟩ := by
 refine zM.fresh (K := fun r H => r = .sl 0 0 l.length ∧ H = [some ⟨208, zBJ l⟩]) (zG (P := Tryz.prog) (fn := Tryz.f183) rfl rfl (by kernel_rfl) rfl (fun c hR hfix => ?_)) (fix := fun _ => False) (fun _ h => h) rfl (fun H => ⟨rfl, by simp [zGq, inB]⟩) ?_
 · refine rn0 ?_
   refine zMH rfl rfl rfl (fun b hb => ?_)
   refine rn0 ?_
   refine zDP rfl (fun h => ?_) (fun h => ?_)
   · have := hb h
     have hn : l = [] := List.length_eq_zero_iff.mp this
     subst hn
     repeat (first | refine zB (zK rfl) ?_ | refine zC ?_ | refine zA ?_ | refine zY ?_ | refine zJ rfl ?_)
     refine zBT 2 ⟨208, zBJ []⟩ rfl rfl ?_
     refine rn2 ?_
     exact zI hR rfl ⟨rfl, rfl⟩
   · refine rn1 ?_
     refine zEr rfl rfl rfl rfl rfl rfl rfl rfl rfl rfl ?_
     refine zAy [some ⟨208, zBJ []⟩] (zAL.eqv ⟨rfl, rfl, fun i j hi => absurd hi (Nat.not_lt_zero _)⟩ zAL.nil) ?_
     repeat (refine zB (zH rfl) ?_)
     refine zn rfl rfl rfl rfl rfl rfl rfl rfl rfl rfl rfl rfl (by show 0 + l.length ≤ l.length; omega) rfl (by show (0 + l.length) * 16 ≤ _ ∧ _; omega) ?_ (by rw [hfix]; exact fun h => h) ?_
     · intro i' j' hi' hj'
       have q := (zHM (0, 0) 2 zHI [] l).2.2 i' j' hi' hj'
       refine (congrArg (AV.forget 0) q.symm).trans (Eq.trans ?_ q)
       match j', hj' with
       | 0, _ => rfl
       | 1, _ => rfl
     refine zAy [some ⟨208, zBJ l⟩] (zAL.eqv (zHM (0, 0) 2 zHI [] l) zAL.nil) ?_
     refine rn0 ?_
     refine zI hR rfl ⟨?_, rfl⟩
     show AV.sl 0 0 (0 + l.length) = _; rw [Nat.zero_add]
 · rintro r H ⟨rfl, rfl⟩
   refine ⟨?_, fun h o ho => zFm (zG0 _) h o ho, 0, rfl, fun n => rfl⟩
   intro o ho; simp at ho; subst ho; show 0 + l.length ≤ l.length; omega
def zJ7 (w : zCH) : List AV := [.ro (zBJ w) 0 w.length]
abbrev zBq (W : List zCH) : Cells := zB4 [] 1 zJ7 W
theorem zKq {α : Type} (d : α) (e : α → List AV) (l : List α) (x : Nat) (a : α) (v : AV) (hx : x < l.length) (hv : v = (e a).getD 0 .any) : CEq (.fn l.length 1 (fun i' j' => bif Nat.beq i' x && Nat.beq j' 0 then v else (e (l.getD i' d)).getD j' .any)) (zB4 d 1 e (l.set x a)) := by
 refine ⟨by simp [zB4, Cells.len], rfl, fun i j hi hj => ?_⟩
 obtain rfl := Nat.lt_one_iff.1 (show j < 1 from hj)
 show (e ((l.set x a).getD i d)).getD 0 .any = bif Nat.beq i x && Nat.beq 0 0 then v else (e (l.getD i d)).getD 0 .any
 rw [Go.Ax.Dt.getD_set]
 by_cases h : i = x
 · subst h
   rw [if_pos ⟨rfl, hx⟩, hv, show Nat.beq i i = true from Nat.beq_refl i]; rfl
 · rw [if_neg (fun q => h q.1), zBh h]; rfl
theorem zMp {α : Type} {v : Nat → α} {P : α → Prop} : ∀ (l : List Int) (k : Nat) (a : List α), (∀ x ∈ a, P x) → (∀ j, k ≤ j → j < k + l.length → P (v j)) → ∀ x ∈ zAl v l k a, P x
 | [], _, a, h, _ => h
 | c :: r, k, a, h, hv => by
   rw [zAl]
   refine zMp r (k + 1) _ (fun x hx => ?_) (fun j h1 h2 => hv j (by omega) (by simp; omega))
   rcases List.mem_or_eq_of_mem_set hx with q | q
   · exact h x q
   · rw [q]; exact hv k (Nat.le_refl _) (by simp)
theorem zJJ {α : Type} {P : α → Prop} {l : List α} {d : α} (h : ∀ x ∈ l, P x) (hd : P d) (i : Nat) : P (l.getD i d) := by
 rcases Nat.lt_or_ge i l.length with q | q
 · exact h _ (zAr d q)
 · have : l.getD i d = d := by simp [List.getD, q]
   rw [this]; exact hd
theorem wayV_len (p : Int) (n : TNode) (w : zCH) (k : Nat) : (zII p n w k).length ≤ w.length + 1 := by
 unfold zII
 split
 · rw [List.length_append]; exact Nat.le_refl _
 · omega
theorem zJ8 (t : zT) (p : Int) : ∀ i, ∀ w ∈ zBH t p i, w.length ≤ i
 | 0, w, hw => by
   rw [(List.mem_replicate.1 hw).2]; exact Nat.le_refl _
 | i + 1, w, hw => by
   have ih := zJ8 t p i
   rw [zBH, zEz] at hw
   refine zMp (P := fun w : zCH => w.length ≤ i + 1) _ _ _ (fun x hx => Nat.le_succ_of_le (ih x hx)) (fun j _ _ => ?_) w hw
   have h1 := wayV_len p (t.getD i node0) ((zBH t p i).getD i []) j
   have h2 : ((zBH t p i).getD i []).length ≤ i := zJJ (P := fun w : zCH => w.length ≤ i) ih (Nat.zero_le _) i
   omega
theorem zNA {t : zT} (hv : Valid t) (p : Int) : ∀ w ∈ zDh t p, w.length ≤ 120 := fun w hw => Nat.le_trans (zJ8 t p t.length w hw) hv.le
theorem zLN (W : List zCH) : z6 (zBq W) := by
 intro i j _ hj
 obtain rfl : j = 0 := by have hj : j < 1 := hj; omega
 rfl
theorem zI2 (W : List zCH) (n : Nat) : zA0 n (zBq W) := by
 intro i j _ hj
 obtain rfl : j = 0 := by have hj : j < 1 := hj; omega
 rfl
theorem below2 {n : Nat} {o1 o2 : AObj} (h1 : zA0 n o1.c) (h2 : zA0 n o2.c) : ∀ (h : Nat) (o : AObj), ([some o1, some o2] : zR)[h]? = some (some o) → zA0 n o.c := by
 intro h o ho
 match h, ho with
 | 0, ho => cases ho; exact h1
 | 1, ho => cases ho; exact h2
 | _ + 2, ho => simp at ho
theorem zNK (n : Nat) (kd pl nf : Int) (nx : List Int) (od : List zAG) (py : zAG) : zA0 n (.box [.int .i64 kd, .int .i64 pl, .int .i64 nf, .ro (.ints .i64 nx) 0 nx.length, .ro (.strs od) 0 od.length, .str py]) := by
 intro i j _ hj
 have hj : j < 6 := hj
 match j, hj with
 | 0, _ => rfl
 | 1, _ => rfl
 | 2, _ => rfl
 | 3, _ => rfl
 | 4, _ => rfl
 | 5, _ => rfl
theorem zMV (W : List zCH) (h : Nat) : CEq ((zBq W).forget h) (zBq W) := by
 refine ⟨rfl, rfl, fun i j _ hj => ?_⟩
 have hj : j < 1 := hj
 match j, hj with
 | 0, _ => rfl
theorem ways_ok (t : zT) (p : Int) (hT : ShortT t) (hv : Valid t) : zW Tryz.prog 130 [.ro (zZ t) 0 t.length, .int .i64 p] (.ro (zBq (zDh t p)) 0 t.length) := by
 have hlen := hT.len
 have h120 := hv.le
 refine zM.value0 (zG (P := Tryz.prog) (fn := Tryz.f130) rfl rfl (by kernel_rfl) rfl (fun c hR hfix => ?_)) (fix := fun _ => False) (fun _ h => h) rfl rfl
 refine rn3 ?_
 refine zCB rfl rfl rfl rfl rfl rfl rfl rfl (by show 0 ≤ _ ∧ _ ≤ _ ∧ (24 : Int) * _ ≤ _ ∧ _; omega) ?_
 refine zK5 [some ⟨207, zBq (zBH t p 0)⟩] rfl (fun h o' ho' => ?_) ?_
 · match h, ho' with
   | 0, ho' =>
     cases ho'
     refine ⟨_, rfl, rfl, ?_, rfl, fun i j hi hj => ?_⟩
     · show (List.replicate t.length ([] : zCH)).length = ((t.length : Nat) : Int).toNat
       rw [List.length_replicate]; omega
     · obtain rfl := Nat.lt_one_iff.1 (show j < 1 from hj)
       have e : (List.replicate t.length ([] : zCH)).getD i [] = [] := by
         simp only [List.getD, List.getElem?_replicate]
         split <;> rfl
       show AEq .nil ((zJ7 ((List.replicate t.length ([] : zCH)).getD i [])).getD 0 .any)
       rw [e]; exact AEq.nil
   | _ + 1, ho' => simp at ho'
 refine rn3 ?_
 refine zj (ι := Nat) (fun i => [(0, .ro (zZ t) 0 t.length), (1, .int .i64 p), (5, .sl 0 0 t.length), (13, .ro (zZ t) 0 t.length), (14, .int .i64 (t.length : Nat)), (15, .int .i64 (i : Nat))]) (fun i => [some ⟨207, zBq (zBH t p i)⟩])
   (fun i => i ≤ t.length) (fun i => t.length - i) 0 ⟨⟨rfl, rfl, rfl, rfl, rfl, rfl, trivial⟩, rfl, Nat.zero_le _⟩ ?_
 intro i hi
 refine rn4 ?_
 refine zE rfl (fun h => ?_) (fun h => ?_)
 · have hi' : i < t.length := by omega
   have hsn := hT.node _ (zAz node0 hi')
   have hbh := hv.behind hi'
   have hWl := zE0 t p i
   have hWs := zJ8 t p i
   have hnx : zBH t p (i + 1) = zAl (zII p (t.getD i node0) ((zBH t p i).getD i [])) (t.getD i node0).next 0 (zBH t p i) := by rw [zBH, zEz]
   generalize hW2 : zBH t p (i + 1) = W2 at *
   generalize zBH t p i = W at *
   obtain ⟨s1, s2, s3, s4⟩ := hsn
   refine rn6 ?_
   refine zL 19 (.agg (zBO (t.getD i node0))) rfl (AEq.of_eq rfl) ?_
   generalize hn : t.getD i node0 = n at *
   have hown : own p n = (decide (n.kind = 2) && decide (n.player = p)) := rfl
   obtain ⟨kd, pl, nf, nx, od, py⟩ := n
   simp only at *
   refine zQ (c' := .box [.int .i64 kd, .int .i64 pl, .int .i64 nf, .ro (.ints .i64 nx) 0 nx.length, .ro (.strs od) 0 od.length, .str py]) rfl rfl rfl rfl rfl Nat.zero_lt_one rfl rfl (fun i' j' hi' hj' => ?_) ?_
   · rw [if_pos (Nat.lt_one_iff.1 hi')]; rfl
   refine zAZ [some ⟨207, zBq W⟩, some ⟨40, .box [.int .i64 kd, .int .i64 pl, .int .i64 nf, .ro (.ints .i64 nx) 0 nx.length, .ro (.strs od) 0 od.length, .str py]⟩] rfl ?_
   generalize hv : zII p ⟨kd, pl, nf, nx, od, py⟩ (W.getD i []) = v at *
   refine rn5 ?_
   refine zj (ι := Nat) (fun j => [(0, .ro (zZ t) 0 t.length), (1, .int .i64 p), (5, .sl 0 0 t.length), (6, .int .i64 (i : Nat)), (7, .ptr 1 0 0), (13, .ro (zZ t) 0 t.length), (14, .int .i64 (t.length : Nat)), (15, .int .i64 (i : Nat)), (21, .ro (.ints .i64 nx) 0 nx.length), (22, .int .i64 (nx.length : Nat)), (23, .int .i64 (j : Nat))]) (fun j => [some ⟨207, zBq (zAl v (nx.take j) 0 W)⟩, some ⟨40, .box [.int .i64 kd, .int .i64 pl, .int .i64 nf, .ro (.ints .i64 nx) 0 nx.length, .ro (.strs od) 0 od.length, .str py]⟩])
     (fun j => j ≤ nx.length) (fun j => nx.length - j) 0 ⟨⟨rfl, rfl, rfl, rfl, rfl, rfl, rfl, rfl, rfl, rfl, rfl, trivial⟩, rfl, Nat.zero_le _⟩ ?_
   intro j hj
   refine rn4 ?_
   refine zE rfl (fun h5 => ?_) (fun h5 => ?_)
   · have hj' : j < nx.length := by omega
     obtain ⟨b1, b2⟩ := hbh _ (zAr 0 hj')
     have hAl : (zAl v (nx.take j) 0 W).length = t.length := by rw [zCs]; exact hWl
     have hAi : (zAl v (nx.take j) 0 W).getD i [] = W.getD i [] := zBV v [] _ _ _ (fun c hc => by have := hbh c (List.mem_of_mem_take hc); omega)
     have hst : zAl v (nx.take (j + 1)) 0 W = (zAl v (nx.take j) 0 W).set (nx.getD j 0).toNat (v j) := by
       rw [zCh hj', zDI, List.length_take, Nat.min_eq_left hj, Nat.zero_add]
     have hw0 : (W.getD i []).length ≤ i := zJJ (P := fun w : zCH => w.length ≤ i) hWs (Nat.zero_le _) i
     have hvj : v j = zII p ⟨kd, pl, nf, nx, od, py⟩ (W.getD i []) j := by rw [hv]
     unfold zII at hvj
     rw [hown] at hvj
     simp only at hvj
     generalize hA2 : zAl v (nx.take (j + 1)) 0 W = A2 at *
     generalize zAl v (nx.take j) 0 W = A at *
     generalize W.getD i [] = w0 at *
     obtain ⟨x, hx⟩ := Int.eq_ofNat_of_zero_le (show 0 ≤ nx.getD j 0 by omega)
     rw [hx] at b1 b2 hst
     rw [Int.toNat_natCast] at hst
     have hxl : x < A.length := by omega
     have gi : i < (zBq A).len := by show i < A.length; omega
     have gx : x < (zBq A).len := hxl
     have hA1i : (A.set x w0).getD i [] = w0 := by rw [Go.Ax.Dt.getD_set, if_neg (by omega)]; exact hAi
     have hA1l : (A.set x w0).length = t.length := by rw [List.length_set]; exact hAl
     have gi1 : i < (zBq (A.set x w0)).len := by show i < (A.set x w0).length; omega
     have gx1 : x < (zBq (A.set x w0)).len := by show x < (A.set x w0).length; omega
     have hw0l : w0.length ≤ 1000000 := by omega
     repeat (first | refine zB (zH rfl) ?_ | refine zB (zK rfl) ?_ | refine zB (zA3 rfl rfl rfl) ?_ | refine zC ?_ | refine zA ?_ | refine zY ?_ | refine zJ rfl ?_ | refine zz ?_ | refine zl ?_ | refine zB (zS rfl rfl rfl rfl rfl) ?_ | refine zB (zEe rfl rfl) ?_ | refine zB (ze rfl rfl rfl rfl (by first | (simp only [Nat.zero_add, Int.toNat_natCast, Int.toNat_zero]; exact rfl) | exact rfl) (by omega)) ?_ | refine zB (za rfl rfl rfl rfl rfl (by first | (simp only [Nat.zero_add, Int.toNat_natCast, Int.toNat_zero]; exact rfl) | exact rfl) (by omega)) ?_ | refine zB (zEh rfl rfl rfl rfl rfl (by first | assumption | omega)) ?_ | refine zB (zP rfl rfl rfl rfl rfl rfl) ?_ | refine zAi rfl rfl rfl rfl rfl rfl rfl (by first | assumption | (show _ < List.length _; first | assumption | omega)) ?_)
     refine zL 33 (.ro (zBJ w0) 0 w0.length) rfl (AEq.of_eq (by rw [← hAi]; rfl)) ?_
     refine zL 29 (.int .i64 (x : Nat)) rfl (AEq.of_eq (by rw [hx])) ?_
     refine zL 9 (.int .i64 (x : Nat)) rfl (AEq.of_eq (by rw [hx])) ?_
     have hxn : (nx.getD j 0).toNat = x := by rw [hx, Int.toNat_natCast]
     refine zAy [some ⟨207, zBq (A.set x w0)⟩, some ⟨40, .box [.int .i64 kd, .int .i64 pl, .int .i64 nf, .ro (.ints .i64 nx) 0 nx.length, .ro (.strs od) 0 od.length, .str py]⟩] (by rw [← hxn]; exact zAL.eqv (zKq [] zJ7 A (nx.getD j 0).toNat w0 _ (by omega) (by rw [← hAi])) (zAL.refl _)) ?_
     refine zu rfl rfl (fun g1 => ?_) (fun g1 => ?_)
     · refine rn5 ?_
       refine zE rfl (fun g2 => ?_) (fun g2 => ?_)
       · rw [decide_eq_true g1, decide_eq_true g2, Bool.true_and, if_pos rfl] at hvj
         skip
         refine zm (by kernel_rfl) ?_
         apply zCM (H := [some ⟨207, zBq (A.set x w0)⟩, some ⟨40, .box [.int .i64 kd, .int .i64 pl, .int .i64 nf, .ro (.ints .i64 nx) 0 nx.length, .ro (.strs od) 0 od.length, .str py]⟩, some ⟨208, zBJ w0⟩]) [(0, .ro (zZ t) 0 t.length), (1, .int .i64 p), (5, .sl 0 0 t.length), (6, .int .i64 (i : Nat)), (7, .ptr 1 0 0), (13, .ro (zZ t) 0 t.length), (14, .int .i64 (t.length : Nat)), (15, .int .i64 (i : Nat)), (21, .ro (.ints .i64 nx) 0 nx.length), (22, .int .i64 (nx.length : Nat)), (23, .int .i64 (j : Nat)), (44, .sl 0 0 t.length), (45, .int .i64 (x : Nat)), (50, .sl 2 0 w0.length), (55, .ro (zEb 1 2 [.int .i64 nf, .int .i64 (j : Nat)]) 0 1)]
         · intro fin2
           refine zO 0 rfl (by kernel_rfl) (by kernel_rfl) (by kernel_rfl) rfl (zH rfl) rfl ?_
           refine zO 1 rfl (by kernel_rfl) (by kernel_rfl) (by kernel_rfl) rfl (zH rfl) rfl ?_
           refine zO 2 rfl (by kernel_rfl) (by kernel_rfl) (by kernel_rfl) rfl (zH rfl) rfl ?_
           refine zO 3 rfl (by kernel_rfl) (by kernel_rfl) (by kernel_rfl) rfl (zH rfl) rfl ?_
           refine zO 7 rfl (by kernel_rfl) (by kernel_rfl) (by kernel_rfl) rfl (zP rfl rfl rfl rfl rfl rfl) rfl ?_
           refine zO 9 rfl (by kernel_rfl) (by kernel_rfl) (by kernel_rfl) rfl (zH rfl) rfl ?_
           refine zO 4 rfl (by kernel_rfl) (by kernel_rfl) (by kernel_rfl) rfl (za rfl rfl rfl rfl rfl (by first | (simp only [Nat.zero_add, Int.toNat_natCast, Int.toNat_zero]; exact rfl) | exact rfl) (by omega)) rfl ?_
           refine zD (is := [5, 8]) (by kernel_rfl) (by simp) rfl ⟨fun o ho => ?_, fun o ho => ?_, trivial⟩
           all_goals (cases ho)
           · repeat (first | refine zC ?_ | refine zi ?_ | refine zB (zEh rfl rfl rfl rfl rfl (by first | assumption | omega)) ?_)
             refine zBD 49 (.ro (zBJ w0) 0 w0.length) rfl (AEq.of_eq (show (zJ7 ((A.set x w0).getD i [])).getD 0 .any = .ro (zBJ w0) 0 w0.length by rw [hA1i]; rfl)) ?_
             refine zD (is := [6, 8]) (by kernel_rfl) (by simp) rfl ⟨fun o ho => ?_, fun o ho => ?_, trivial⟩
             all_goals (cases ho)
             · refine zB1 rfl rfl rfl (zH8 w0 hw0l) ?_
               refine rn1 ?_
               refine zD (is := [8]) (by kernel_rfl) (by simp) rfl ⟨fun o ho => ?_, trivial⟩
               all_goals (cases ho)
               refine rn4 ?_
               refine zO 10 rfl (by kernel_rfl) (by kernel_rfl) (by kernel_rfl) rfl (zAR rfl rfl rfl rfl rfl rfl) rfl ?_
               refine zD (is := [11]) (by kernel_rfl) (by simp) rfl ⟨fun o ho => ?_, trivial⟩
               all_goals (cases ho)
               refine rn3 ?_
               exact fin2 _ ⟨rfl, rfl, rfl, rfl, rfl, rfl, rfl, rfl, rfl, rfl, rfl, rfl, rfl, rfl, rfl, trivial⟩
             · refine rn4 ?_
               refine zO 10 rfl (by kernel_rfl) (by kernel_rfl) (by kernel_rfl) rfl (zAR rfl rfl rfl rfl rfl rfl) rfl ?_
               refine zD (is := [6, 11]) (by kernel_rfl) (by simp) rfl ⟨fun o ho => ?_, fun o ho => ?_, trivial⟩
               all_goals (cases ho)
               · refine zB1 rfl rfl rfl (zH8 w0 hw0l) ?_
                 refine rn1 ?_
                 refine zD (is := [11]) (by kernel_rfl) (by simp) rfl ⟨fun o ho => ?_, trivial⟩
                 all_goals (cases ho)
                 refine rn3 ?_
                 exact fin2 _ ⟨rfl, rfl, rfl, rfl, rfl, rfl, rfl, rfl, rfl, rfl, rfl, rfl, rfl, rfl, rfl, trivial⟩
               · refine rn3 ?_
                 refine zD (is := [6]) (by kernel_rfl) (by simp) rfl ⟨fun o ho => ?_, trivial⟩
                 all_goals (cases ho)
                 refine zB1 rfl rfl rfl (zH8 w0 hw0l) ?_
                 refine rn1 ?_
                 exact fin2 _ ⟨rfl, rfl, rfl, rfl, rfl, rfl, rfl, rfl, rfl, rfl, rfl, rfl, rfl, rfl, rfl, trivial⟩
           · refine rn4 ?_
             refine zO 10 rfl (by kernel_rfl) (by kernel_rfl) (by kernel_rfl) rfl (zAR rfl rfl rfl rfl rfl rfl) rfl ?_
             refine zD (is := [5, 11]) (by kernel_rfl) (by simp) rfl ⟨fun o ho => ?_, fun o ho => ?_, trivial⟩
             all_goals (cases ho)
             · repeat (first | refine zC ?_ | refine zi ?_ | refine zB (zEh rfl rfl rfl rfl rfl (by first | assumption | omega)) ?_)
               refine zBD 49 (.ro (zBJ w0) 0 w0.length) rfl (AEq.of_eq (show (zJ7 ((A.set x w0).getD i [])).getD 0 .any = .ro (zBJ w0) 0 w0.length by rw [hA1i]; rfl)) ?_
               refine zD (is := [6, 11]) (by kernel_rfl) (by simp) rfl ⟨fun o ho => ?_, fun o ho => ?_, trivial⟩
               all_goals (cases ho)
               · refine zB1 rfl rfl rfl (zH8 w0 hw0l) ?_
                 refine rn1 ?_
                 refine zD (is := [11]) (by kernel_rfl) (by simp) rfl ⟨fun o ho => ?_, trivial⟩
                 all_goals (cases ho)
                 refine rn3 ?_
                 exact fin2 _ ⟨rfl, rfl, rfl, rfl, rfl, rfl, rfl, rfl, rfl, rfl, rfl, rfl, rfl, rfl, rfl, trivial⟩
               · refine rn3 ?_
                 refine zD (is := [6]) (by kernel_rfl) (by simp) rfl ⟨fun o ho => ?_, trivial⟩
                 all_goals (cases ho)
                 refine zB1 rfl rfl rfl (zH8 w0 hw0l) ?_
                 refine rn1 ?_
                 exact fin2 _ ⟨rfl, rfl, rfl, rfl, rfl, rfl, rfl, rfl, rfl, rfl, rfl, rfl, rfl, rfl, rfl, trivial⟩
             · refine rn3 ?_
               refine zD (is := [5]) (by kernel_rfl) (by simp) rfl ⟨fun o ho => ?_, trivial⟩
               all_goals (cases ho)
               repeat (first | refine zC ?_ | refine zi ?_ | refine zB (zEh rfl rfl rfl rfl rfl (by first | assumption | omega)) ?_)
               refine zBD 49 (.ro (zBJ w0) 0 w0.length) rfl (AEq.of_eq (show (zJ7 ((A.set x w0).getD i [])).getD 0 .any = .ro (zBJ w0) 0 w0.length by rw [hA1i]; rfl)) ?_
               refine zD (is := [6]) (by kernel_rfl) (by simp) rfl ⟨fun o ho => ?_, trivial⟩
               all_goals (cases ho)
               refine zB1 rfl rfl rfl (zH8 w0 hw0l) ?_
               refine rn1 ?_
               exact fin2 _ ⟨rfl, rfl, rfl, rfl, rfl, rfl, rfl, rfl, rfl, rfl, rfl, rfl, rfl, rfl, rfl, trivial⟩
         · refine zD (is := [12]) (by kernel_rfl) (by simp) rfl ⟨fun o ho => ?_, trivial⟩
           all_goals (cases ho)
           refine zn rfl rfl rfl rfl rfl rfl rfl rfl rfl rfl rfl rfl (by show 0 + 1 ≤ 1; omega) rfl (by show (w0.length + 1) * 16 ≤ _ ∧ _; omega) ?_ (by rw [hfix]; exact fun h => h) ?_
           · intro i' j' hi' hj'
             have q := (zFG (0, 0) 2 zHI w0 (nf, (j : Int)) (zEb 1 2 [.int .i64 nf, .int .i64 (j : Nat)]) (fun j hj => by
               match j, hj with
               | 0, _ => rfl
               | 1, _ => rfl)).2.2 i' j' hi' hj'
             refine (congrArg (AV.forget 2) q.symm).trans (Eq.trans ?_ q)
             match j', hj' with
             | 0, _ => rfl
             | 1, _ => rfl
           refine zAy [some ⟨207, zBq (A.set x w0)⟩, some ⟨40, .box [.int .i64 kd, .int .i64 pl, .int .i64 nf, .ro (.ints .i64 nx) 0 nx.length, .ro (.strs od) 0 od.length, .str py]⟩, some ⟨208, zBJ (w0 ++ [(nf, (j : Int))])⟩] ?_ ?_
           · exact zAL.eqv (zMV (A.set x w0) 2) (zAL.eqv (CEq.refl _) (zAL.eqv (zFG (0, 0) 2 zHI w0 (nf, (j : Int)) (zEb 1 2 [.int .i64 nf, .int .i64 (j : Nat)]) (fun j hj => by
               match j, hj with
               | 0, _ => rfl
               | 1, _ => rfl)) zAL.nil))
           refine zCx 2 56 (w0.length + 1) [(0, .ro (zZ t) 0 t.length), (1, .int .i64 p), (5, .sl 0 0 t.length), (6, .int .i64 (i : Nat)), (7, .ptr 1 0 0), (13, .ro (zZ t) 0 t.length), (14, .int .i64 (t.length : Nat)), (15, .int .i64 (i : Nat)), (21, .ro (.ints .i64 nx) 0 nx.length), (22, .int .i64 (nx.length : Nat)), (23, .int .i64 (j : Nat)), (44, .sl 0 0 t.length), (45, .int .i64 (x : Nat))] rfl (zG0 _) rfl (by show w0.length + 1 ≤ (w0 ++ [(nf, (j : Int))]).length; rw [List.length_append]; exact Nat.le_refl _) ⟨rfl, rfl, rfl, rfl, rfl, rfl, rfl, rfl, rfl, rfl, rfl, rfl, rfl, trivial⟩ ?_
           refine zAZ [some ⟨207, zBq (A.set x w0)⟩, some ⟨40, .box [.int .i64 kd, .int .i64 pl, .int .i64 nf, .ro (.ints .i64 nx) 0 nx.length, .ro (.strs od) 0 od.length, .str py]⟩, none] rfl ?_
           have hl9 : (w0 ++ [(nf, (j : Int))]).length = w0.length + 1 := by rw [List.length_append]; rfl
           refine zL 56 (.ro (zBJ (w0 ++ [(nf, (j : Int))])) 0 (w0 ++ [(nf, (j : Int))]).length) rfl (AEq.of_eq (by rw [hl9])) ?_
           generalize w0 ++ [(nf, (j : Int))] = w1 at *
           refine rn1 ?_
           refine zO 13 rfl (by kernel_rfl) (by kernel_rfl) (by kernel_rfl) rfl (za rfl rfl rfl rfl rfl (by first | (simp only [Nat.zero_add, Int.toNat_natCast, Int.toNat_zero]; exact rfl) | exact rfl) (by omega)) rfl ?_
           refine zD (is := [14]) (by kernel_rfl) (by simp) rfl ⟨fun o ho => ?_, trivial⟩
           all_goals (cases ho)
           refine zAi rfl rfl rfl rfl rfl rfl rfl gx1 ?_
           refine zAy [some ⟨207, zBq ((A.set x w0).set x w1)⟩, some ⟨40, .box [.int .i64 kd, .int .i64 pl, .int .i64 nf, .ro (.ints .i64 nx) 0 nx.length, .ro (.strs od) 0 od.length, .str py]⟩, none] (zAL.eqv (zKq [] zJ7 (A.set x w0) x w1 _ gx1 rfl) (zAL.refl _)) ?_
           refine rn1 ?_
           refine zh (by kernel_rfl) ?_
           repeat (refine zg ?_)
           refine zA ?_
           refine zAt [some ⟨207, zBq ((A.set x w0).set x w1)⟩, some ⟨40, .box [.int .i64 kd, .int .i64 pl, .int .i64 nf, .ro (.ints .i64 nx) 0 nx.length, .ro (.strs od) 0 od.length, .str py]⟩] [none] [(0, .ro (zZ t) 0 t.length), (1, .int .i64 p), (5, .sl 0 0 t.length), (6, .int .i64 (i : Nat)), (7, .ptr 1 0 0), (13, .ro (zZ t) 0 t.length), (14, .int .i64 (t.length : Nat)), (15, .int .i64 (i : Nat)), (21, .ro (.ints .i64 nx) 0 nx.length), (22, .int .i64 (nx.length : Nat)), (23, .int .i64 (j : Nat))] rfl ⟨rfl, rfl, rfl, rfl, rfl, rfl, rfl, rfl, rfl, rfl, rfl, trivial⟩ (fun h hh => by rw [hfix] at hh; exact absurd hh id) (below2 (zI2 _ _) (zNK _ _ _ _ _ _ _)) rfl ?_
           refine rn3 ?_
           exact zN ⟨j + 1, by omega, by omega, ⟨rfl, rfl, rfl, rfl, rfl, rfl, rfl, rfl, rfl, rfl, rfl, trivial⟩, by rw [hA2, hst, hvj, List.set_set]⟩
       · rw [decide_eq_true g1, decide_eq_false g2, if_neg (by decide)] at hvj
         refine rn5 ?_
         exact zN ⟨j + 1, by omega, by omega, ⟨rfl, rfl, rfl, rfl, rfl, rfl, rfl, rfl, rfl, rfl, rfl, trivial⟩, by rw [hA2, hst, hvj]⟩
     · rw [decide_eq_false g1, Bool.false_and, if_neg (by decide)] at hvj
       refine rn6 ?_
       exact zN ⟨j + 1, by omega, by omega, ⟨rfl, rfl, rfl, rfl, rfl, rfl, rfl, rfl, rfl, rfl, rfl, trivial⟩, by rw [hA2, hst, hvj]⟩
   · have hje : j = nx.length := by omega
     subst hje
     rw [List.take_length, ← hnx]
     repeat (first | refine zg ?_ | refine zAs ?_ | refine zq ?_ | refine zr ?_ | refine zAF ?_)
     refine zA ?_
     refine zAt [some ⟨207, zBq W2⟩] [some ⟨40, .box [.int .i64 kd, .int .i64 pl, .int .i64 nf, .ro (.ints .i64 nx) 0 nx.length, .ro (.strs od) 0 od.length, .str py]⟩] [(0, .ro (zZ t) 0 t.length), (1, .int .i64 p), (5, .sl 0 0 t.length), (13, .ro (zZ t) 0 t.length), (14, .int .i64 (t.length : Nat)), (15, .int .i64 (i : Nat))] rfl ⟨rfl, rfl, rfl, rfl, rfl, rfl, trivial⟩ (fun h hh => by rw [hfix] at hh; exact absurd hh id) (zCi (zI2 _ _)) rfl ?_
     refine rn3 ?_
     exact zN ⟨i + 1, by omega, by omega, ⟨rfl, rfl, rfl, rfl, rfl, rfl, trivial⟩, by rw [hW2]⟩
 · have hie : i = t.length := by omega
   subst hie
   repeat (first | refine zA ?_ | refine zY ?_ | refine zAs ?_ | refine zq ?_ | refine zr ?_ | refine zAF ?_)
   refine zAx 0 5 t.length [] rfl (zLN _) rfl (by show t.length ≤ (zBH t p t.length).length; rw [zE0]; exact Nat.le_refl _) trivial ?_
   refine rn0 ?_
   exact zI hR rfl rfl
end Go.Proofs.YtnkealfaldjipaaGreatDoor
