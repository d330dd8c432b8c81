/-
  Placements in plain Lean: counts, numbers of placements, ranks. No program in sight.
-/
import Derived.Test.YtmfhdfofmdggaaaAxPlain
set_option linter.unusedVariables false
set_option linter.unusedSimpArgs false
namespace Go.Ax.Idx

def outC (n : Int) : Bool := decide (n < 0 ∨ 16 < n)
def outK (n : Int) : Bool := decide (n < 0 ∨ 6 < n)
/-- index.CheckCounts -/
def checkCountsF (l : List Int) : Int :=
  if l.length ≠ 7 then 3 else if l.any outC then 4 else if 16 < l.sum then 2 else 0
/-- index.Check -/
def checkF (l : List Int) : Int := if 16 < l.length then 2 else if l.any outK then 4 else 0

def wstep (s : Int × Int) (k : Nat) : Int × Int := (s.1 * (s.2 + 1) / (k + 1), s.2 + 1)
def wrow (s : Int × Int) (c : Int) : Int × Int := (List.range c.toNat).foldl wstep s
def waysS (l : List Int) : Int × Int := l.foldl wrow (1, 0)
def waysF (l : List Int) : Int := (waysS l).1

def fct : Nat → Int
  | 0 => 1
  | n + 1 => (n + 1) * fct n
theorem fct_pos : ∀ n, 1 ≤ fct n
  | 0 => by simp [fct]
  | n + 1 => by
    have := fct_pos n
    simp only [fct]
    have h : (1 : Int) * 1 ≤ (n + 1) * fct n := Int.mul_le_mul (by omega) this (by omega) (by omega)
    omega
theorem fct_mono : ∀ d m, fct m ≤ fct (m + d) := by
  intro d
  induction d with
  | zero => intro m; exact Int.le_refl _
  | succ d ih =>
    intro m
    have h := ih m
    have p := fct_pos (m + d)
    have : fct (m + d + 1) = (m + d + 1) * fct (m + d) := by simp only [fct]; congr 1
    rw [← Nat.add_assoc, this]
    have h5 : (1 : Int) * fct (m + d) ≤ (m + d + 1) * fct (m + d) := Int.mul_le_mul_of_nonneg_right (by omega) (by omega)
    omega
/-- What holds of the two numbers while 'ways' counts. -/
structure WOk (s : Int × Int) (n : Nat) : Prop where
  num : s.2 = n
  lo : 0 ≤ s.1
  hi : s.1 ≤ fct n
theorem WOk.step {s : Int × Int} {n : Nat} (h : WOk s n) (k : Nat) : WOk (wstep s k) (n + 1) := by
  obtain ⟨h1, h2, h3⟩ := h
  have hm : 0 ≤ s.1 * (s.2 + 1) := Int.mul_nonneg h2 (by omega)
  refine ⟨by simp only [wstep]; omega, Int.ediv_nonneg hm (by omega), ?_⟩
  simp only [wstep, fct]
  refine Int.le_trans (Int.ediv_le_self _ hm) ?_
  rw [h1, Int.mul_comm]
  exact Int.mul_le_mul_of_nonneg_left h3 (by omega)
theorem WOk.range {s : Int × Int} {n : Nat} (h : WOk s n) (j : Nat) : WOk ((List.range j).foldl wstep s) (n + j) := by
  induction j with
  | zero => exact h
  | succ j ih => rw [List.range_succ, List.foldl_append]; exact ih.step j
theorem WOk.mul {s : Int × Int} {n : Nat} (h : WOk s n) (hn : n ≤ 15) : 0 ≤ s.1 * (s.2 + 1) ∧ s.1 * (s.2 + 1) ≤ 9223372036854775807 := by
  obtain ⟨h1, h2, h3⟩ := h
  have h4 : fct n ≤ fct 15 := by
    have := fct_mono (15 - n) n
    rwa [show n + (15 - n) = 15 by omega] at this
  have h5 : fct 15 = 1307674368000 := by decide
  refine ⟨Int.mul_nonneg h2 (by omega), ?_⟩
  have : s.1 * (s.2 + 1) ≤ 1307674368000 * 16 := Int.mul_le_mul (by omega) (by omega) (by omega) (by omega)
  omega
theorem waysS_ok (l : List Int) (h0 : ∀ x ∈ l, 0 ≤ x) : ∀ k, k ≤ l.length → ∃ n : Nat, (n : Int) = (l.take k).sum ∧ WOk (waysS (l.take k)) n := by
  intro k
  induction k with
  | zero => intro _; exact ⟨0, by simp, ⟨by simp [waysS], by simp [waysS], by simp [waysS, fct]⟩⟩
  | succ k ih =>
    intro hk
    obtain ⟨n, hn, hw⟩ := ih (by omega)
    have hx := h0 _ (getD_mem 0 (by omega : k < l.length))
    refine ⟨n + (l.getD k 0).toNat, ?_, ?_⟩
    · rw [sum_take_succ l k (by omega)]; omega
    · unfold waysS
      rw [take_succ_getD l 0 k (by omega), List.foldl_append]
      exact hw.range _
theorem sum_nonneg : ∀ m : List Int, (∀ x ∈ m, 0 ≤ x) → 0 ≤ m.sum := by
  intro m
  induction m with
  | nil => intro _; simp
  | cons x r ih => intro hm; simp only [List.sum_cons]; have := hm x (by simp); have := ih (fun y hy => hm y (by simp [hy])); omega
theorem sum_take_le (l : List Int) (h0 : ∀ x ∈ l, 0 ≤ x) (k : Nat) : (l.take k).sum ≤ l.sum := by
  have h : l.sum = (l.take k).sum + (l.drop k).sum := by rw [← List.sum_append, List.take_append_drop]
  have := sum_nonneg (l.drop k) (fun x hx => h0 x (List.mem_of_mem_drop hx))
  omega
theorem waysF_bd (l : List Int) (h0 : ∀ x ∈ l, 0 ≤ x) (hs : l.sum ≤ 16) : 0 ≤ waysF l ∧ waysF l ≤ 20922789888000 := by
  obtain ⟨n, hn, hw⟩ := waysS_ok l h0 l.length (Nat.le_refl _)
  rw [List.take_length] at hn hw
  have h4 : fct n ≤ fct 16 := by
    have := fct_mono (16 - n) n
    rwa [show n + (16 - n) = 16 by omega] at this
  have h5 : fct 16 = 20922789888000 := by decide
  exact ⟨hw.lo, by have := hw.hi; unfold waysF; omega⟩

/-- The place of the first element with a property, or -1. -/
def idxF {α : Type} (p : α → Bool) : List α → Int
  | [] => -1
  | x :: r => if p x then 0 else if idxF p r < 0 then -1 else idxF p r + 1
theorem idxF_neg {α : Type} (p : α → Bool) (l : List α) (h : idxF p l < 0) : idxF p l = -1 := by
  cases l with
  | nil => rfl
  | cons x r =>
    simp only [idxF] at h ⊢
    by_cases h1 : p x = true
    · simp [h1] at h
    · by_cases h2 : idxF p r < 0
      · simp [h1, h2]
      · simp only [h1, h2, if_false, Bool.false_eq_true] at h
        omega
theorem idxF_take {α : Type} (p : α → Bool) (l : List α) (k : Nat) (h : (l.take k).any p = false) (hk : k ≤ l.length) : idxF p l = if idxF p (l.drop k) < 0 then -1 else idxF p (l.drop k) + k := by
  induction k generalizing l with
  | zero =>
    simp only [List.drop_zero]
    split
    · exact idxF_neg p l (by assumption)
    · omega
  | succ k ih => cases l with
    | nil => simp at hk
    | cons x r =>
      simp only [List.take_succ_cons, List.any_cons, Bool.or_eq_false_iff] at h
      have := ih r h.2 (by simpa using hk)
      simp only [idxF, h.1, List.drop_succ_cons, Bool.false_eq_true, if_false]
      rw [this]
      split <;> split <;> omega
theorem idxF_any {α : Type} (p : α → Bool) (l : List α) : decide (0 ≤ idxF p l) = l.any p := by
  induction l with
  | nil => rfl
  | cons x r ih =>
    simp only [idxF, List.any_cons]
    by_cases h1 : p x = true
    · simp [h1]
    · simp only [Bool.not_eq_true] at h1
      simp only [h1, Bool.false_eq_true, if_false, Bool.false_or]
      rw [← ih]
      by_cases h2 : idxF p r < 0
      · rw [if_pos h2]; simp; omega
      · rw [if_neg h2]; congr 1; simp; omega

/-- How often each kind occurs. -/
def cnt (m : List Int) : List Int := (List.range 7).map fun (i : Nat) => ((m.count (i : Int) : Nat) : Int)
theorem cnt_length (m : List Int) : (cnt m).length = 7 := by simp [cnt]
theorem cnt_getD (m : List Int) (i : Nat) (hi : i < 7) : (cnt m).getD i 0 = ((m.count (i : Int) : Nat) : Int) := by
  simp [cnt, List.getD, hi]
theorem cnt_nonneg (m : List Int) : ∀ x ∈ cnt m, 0 ≤ x := by
  intro x hx
  simp only [cnt, List.mem_map] at hx
  obtain ⟨i, _, rfl⟩ := hx
  omega
theorem cnt_le (m : List Int) (i : Nat) : 0 ≤ (cnt m).getD i 0 ∧ (cnt m).getD i 0 ≤ m.length := by
  by_cases hi : i < 7
  · rw [cnt_getD m i hi]
    have := List.count_le_length (a := (i : Int)) (l := m)
    omega
  · have : (cnt m).getD i 0 = 0 := by simp [List.getD, List.getElem?_eq_none (show (cnt m).length ≤ i by rw [cnt_length]; omega)]
    omega
theorem list_ext7 {l m : List Int} (hl : l.length = 7) (hm : m.length = 7) (h : ∀ i, i < 7 → l.getD i 0 = m.getD i 0) : l = m := by
  apply List.ext_getElem?
  intro i
  by_cases hi : i < 7
  · have := h i hi
    rw [getD_lt 0 (by omega), getD_lt 0 (by omega)] at this
    rw [List.getElem?_eq_getElem (by omega), List.getElem?_eq_getElem (by omega), this]
  · rw [List.getElem?_eq_none (by omega), List.getElem?_eq_none (by omega)]
theorem getD_set {l : List Int} {i j : Nat} {v : Int} (hi : i < l.length) : (l.set i v).getD j 0 = if j = i then v else l.getD j 0 := by
  by_cases h : j = i
  · subst h; simp [List.getD, hi]
  · simp only [List.getD, h, if_false]
    rw [List.getElem?_set_ne (fun e => h e.symm)]
theorem cnt_snoc (m : List Int) (x : Int) (h0 : 0 ≤ x) (h6 : x ≤ 6) : cnt (m ++ [x]) = (cnt m).set x.toNat ((cnt m).getD x.toNat 0 + 1) := by
  refine list_ext7 (cnt_length _) (by simp [cnt_length]) (fun i hi => ?_)
  rw [getD_set (by rw [cnt_length]; omega), cnt_getD _ i hi, List.count_append]
  split
  · rename_i h
    subst h
    rw [cnt_getD _ _ hi]
    have : ((x.toNat : Nat) : Int) = x := by omega
    rw [this]; simp
  · rename_i h
    rw [cnt_getD _ i hi]
    have : List.count (i : Int) [x] = 0 := by
      rw [List.count_eq_zero]; simp; omega
    rw [this]; rfl
theorem cnt_cons (m : List Int) (x : Int) (h0 : 0 ≤ x) (h6 : x ≤ 6) : cnt m = (cnt (x :: m)).set x.toNat ((cnt (x :: m)).getD x.toNat 0 - 1) := by
  refine list_ext7 (cnt_length _) (by simp [cnt_length]) (fun i hi => ?_)
  rw [getD_set (by rw [cnt_length]; omega), cnt_getD _ i hi]
  split
  · rename_i h
    subst h
    rw [cnt_getD _ _ hi]
    have : ((x.toNat : Nat) : Int) = x := by omega
    rw [this]; simp
  · rename_i h
    rw [cnt_getD _ i hi]
    have : ¬ x = (i : Int) := by omega
    simp [List.count_cons, this]
theorem sum_set (l : List Int) (i : Nat) (v : Int) (hi : i < l.length) : (l.set i v).sum = l.sum - l.getD i 0 + v := by
  induction l generalizing i with
  | nil => simp at hi
  | cons x r ih =>
    cases i with
    | zero => simp only [List.set_cons_zero, List.sum_cons, List.getD_cons_zero]; omega
    | succ i =>
      simp only [List.set_cons_succ, List.sum_cons, List.getD_cons_succ]
      rw [ih i (by simpa using hi)]; omega
theorem cnt_nil : cnt [] = List.replicate 7 0 := by simp [cnt, List.range, List.range.loop, List.replicate]
theorem cnt_sum (m : List Int) (h : ∀ x ∈ m, 0 ≤ x ∧ x ≤ 6) : (cnt m).sum = m.length := by
  induction m with
  | nil => rw [cnt_nil]; rfl
  | cons x r ih =>
    have hx := h x (by simp)
    have h1 := ih (fun y hy => h y (by simp [hy]))
    rw [cnt_cons r x hx.1 hx.2, sum_set _ _ _ (by rw [cnt_length]; omega)] at h1
    simp only [List.length_cons]
    omega
/-- One less of kind i. -/
def less (l : List Int) (i : Nat) : List Int := l.set i (l.getD i 0 - 1)
/-- The numbers of placements that begin with a smaller kind. -/
def rrow (l : List Int) (c : Nat) : Int := ((List.range c).map fun i => if 0 < l.getD i 0 then waysF (less l i) else 0).sum
def rankF : List Int → Int
  | [] => 0
  | c :: r => rrow (cnt (c :: r)) c.toNat + rankF r
theorem less_ok {l : List Int} (h0 : ∀ x ∈ l, 0 ≤ x) {i : Nat} (hi : 0 < l.getD i 0) : (∀ x ∈ less l i, 0 ≤ x) ∧ (less l i).sum = l.sum - 1 ∧ (less l i).length = l.length ∧ i < l.length := by
  have hlt : i < l.length := by
    rcases Nat.lt_or_ge i l.length with h | h
    · exact h
    · simp [List.getD, List.getElem?_eq_none h] at hi
  refine ⟨fun x hx => ?_, by unfold less; rw [sum_set _ _ _ hlt]; omega, by simp [less], hlt⟩
  rcases List.mem_or_eq_of_mem_set hx with h | h
  · exact h0 x h
  · omega
theorem set_back {l : List Int} {i : Nat} (hi : i < l.length) : (less l i).set i ((less l i).getD i 0 + 1) = l := by
  unfold less
  rw [getD_set hi, if_pos rfl, List.set_set]
  have : l.getD i 0 - 1 + 1 = l[i] := by rw [getD_lt 0 hi]; omega
  rw [this, List.set_getElem_self]
theorem rrow_succ (l : List Int) (c : Nat) : rrow l (c + 1) = rrow l c + if 0 < l.getD c 0 then waysF (less l c) else 0 := by
  unfold rrow
  rw [List.range_succ, List.map_append, List.sum_append]
  simp
theorem rrow_bd (l : List Int) (h0 : ∀ x ∈ l, 0 ≤ x) (hs : l.sum ≤ 17) (c : Nat) : 0 ≤ rrow l c ∧ rrow l c ≤ c * 20922789888000 := by
  induction c with
  | zero => simp [rrow]
  | succ c ih =>
    rw [rrow_succ]
    split
    · rename_i h
      obtain ⟨a, b, _, _⟩ := less_ok h0 h
      have := waysF_bd (less l c) a (by omega)
      omega
    · omega
theorem rankF_bd (l : List Int) (h : ∀ x ∈ l, 0 ≤ x ∧ x ≤ 6) (hs : l.length ≤ 16) : 0 ≤ rankF l ∧ rankF l ≤ l.length * 125536739328000 := by
  induction l with
  | nil => simp [rankF]
  | cons x r ih =>
    have hx := h x (by simp)
    have h1 := ih (fun y hy => h y (by simp [hy])) (by simp at hs; omega)
    have h2 := rrow_bd (cnt (x :: r)) (cnt_nonneg _) (by rw [cnt_sum _ h]; omega) x.toNat
    simp only [rankF, List.length_cons]
    have : (x.toNat : Int) * 20922789888000 ≤ 125536739328000 := by omega
    omega
end Go.Ax.Idx
