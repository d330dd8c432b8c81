/-
  Hands of cards in plain Lean: ranks, classes, values, best hands. No program in sight.
-/
import Derived.Test.YtmfhdfofmdggaaaCdLaw
import Derived.Test.YtmfhdfofmdggaaaIdxMath
set_option linter.unusedVariables false
set_option linter.unusedSimpArgs false
namespace Go.Ax.Rk
open Go.Ax.Idx Go.Ax.Cd

def cmpI (x y : Int) : Int := if x < y then -1 else if y < x then 1 else 0
def orF (a b : Int) : Int := if a ≠ 0 then a else b
/-- How ranks are compared: the more frequent and higher ones first. -/
def cmpR (cnt : List Int) (a b : Int) : Int := orF (cmpI (cnt.getD b.toNat 0) (cnt.getD a.toNat 0)) (cmpI b a)
/-- One element sinks to its place. -/
def down (lt : Int → Int → Bool) : Nat → List Int → List Int
  | 0, d => d
  | j + 1, d => if lt (d.getD (j + 1) 0) (d.getD j 0) then down lt j (swapF d (j + 1) j) else d
/-- Insertion sort, from place i on. -/
def isort (lt : Int → Int → Bool) : Nat → Nat → List Int → List Int
  | 0, _, d => d
  | k + 1, i, d => isort lt k (i + 1) (down lt i d)
def sortF (lt : Int → Int → Bool) (d : List Int) : List Int := isort lt (d.length - 1) 1 d
theorem down_length (lt : Int → Int → Bool) (j : Nat) (d : List Int) : (down lt j d).length = d.length := by
  induction j generalizing d with
  | zero => rfl
  | succ j ih => rw [down]; split; · rw [ih, swapF_length]
                 · rfl
theorem isort_length (lt : Int → Int → Bool) (k i : Nat) (d : List Int) : (isort lt k i d).length = d.length := by
  induction k generalizing i d with
  | zero => rfl
  | succ k ih => rw [isort, ih, down_length]
theorem sum_swapF (f : Int → Int) {l : List Int} {i k : Nat} (hi : i < l.length) (hk : k < l.length) : ((swapF l i k).map f).sum = (l.map f).sum := by
  have hmi : i < (l.map f).length := by simpa using hi
  have hmk : k < ((l.map f).set i (f (l.getD k 0))).length := by simpa using hk
  unfold swapF
  rw [List.map_set, List.map_set, sum_set _ _ _ hmk, sum_set _ _ _ hmi, getD_set hmi]
  have e1 : (l.map f).getD i 0 = f (l.getD i 0) := by simp [List.getD, hi]
  have e2 : (l.map f).getD k 0 = f (l.getD k 0) := by simp [List.getD, hk]
  rw [e1, e2]
  split
  · rename_i h; subst h; omega
  · omega
theorem down_keeps (lt : Int → Int → Bool) (f : Int → Int) (j : Nat) {d : List Int} (h : j < d.length) : (∀ c, c ∈ down lt j d ↔ c ∈ d) ∧ ((down lt j d).map f).sum = (d.map f).sum := by
  induction j generalizing d with
  | zero => exact ⟨fun _ => Iff.rfl, rfl⟩
  | succ j ih =>
    rw [down]
    split
    · obtain ⟨a, b⟩ := ih (d := swapF d (j + 1) j) (by rw [swapF_length]; omega)
      exact ⟨fun c => (a c).trans (mem_swapF h (by omega) c), b.trans (sum_swapF f h (by omega))⟩
    · exact ⟨fun _ => Iff.rfl, rfl⟩
theorem isort_keeps (lt : Int → Int → Bool) (f : Int → Int) (k i : Nat) {d : List Int} (h : i + k ≤ d.length) : (∀ c, c ∈ isort lt k i d ↔ c ∈ d) ∧ ((isort lt k i d).map f).sum = (d.map f).sum := by
  induction k generalizing i d with
  | zero => exact ⟨fun _ => Iff.rfl, rfl⟩
  | succ k ih =>
    rw [isort]
    obtain ⟨a, b⟩ := down_keeps lt f i (d := d) (by omega)
    obtain ⟨a2, b2⟩ := ih (i + 1) (d := down lt i d) (by rw [down_length]; omega)
    exact ⟨fun c => (a2 c).trans (a c), b2.trans b⟩
theorem sortF_keeps (lt : Int → Int → Bool) (f : Int → Int) (d : List Int) : (∀ c, c ∈ sortF lt d ↔ c ∈ d) ∧ ((sortF lt d).map f).sum = (d.map f).sum ∧ (sortF lt d).length = d.length := by
  unfold sortF
  cases d with
  | nil => exact ⟨fun _ => Iff.rfl, rfl, rfl⟩
  | cons x r =>
    obtain ⟨a, b⟩ := isort_keeps lt f ((x :: r).length - 1) 1 (d := x :: r) (by simp; omega)
    exact ⟨a, b, isort_length _ _ _ _⟩

/-- How often each rank occurs. -/
def cntR : List Int → List Int → List Int
  | c, [] => c
  | c, x :: r => cntR (c.set (x % 13).toNat (c.getD (x % 13).toNat 0 + 1)) r
def cnt0 : List Int := List.replicate 13 0
theorem cntR_snoc (c l : List Int) (x : Int) : cntR c (l ++ [x]) = (cntR c l).set (x % 13).toNat ((cntR c l).getD (x % 13).toNat 0 + 1) := by
  induction l generalizing c with
  | nil => rfl
  | cons y r ih => simp only [List.cons_append, cntR, ih]
theorem cntR_length (c l : List Int) : (cntR c l).length = c.length := by
  induction l generalizing c with
  | nil => rfl
  | cons y r ih => simp only [cntR, ih, List.length_set]
theorem cntR_sum (c l : List Int) (hc : c.length = 13) : (cntR c l).sum = c.sum + l.length := by
  induction l generalizing c with
  | nil => simp [cntR]
  | cons y r ih =>
    rw [cntR, ih _ (by simpa using hc), sum_set _ _ _ (by omega)]
    simp only [List.length_cons]; omega
theorem cntR_nonneg (c l : List Int) (hc : c.length = 13) (h0 : ∀ i, 0 ≤ c.getD i 0) : ∀ i, 0 ≤ (cntR c l).getD i 0 := by
  induction l generalizing c with
  | nil => exact h0
  | cons y r ih =>
    rw [cntR]
    refine ih _ (by simpa using hc) (fun i => ?_)
    rw [getD_set (by omega)]
    have := h0 (y % 13).toNat
    split
    · omega
    · exact h0 i
theorem cntR_le (c l : List Int) (hc : c.length = 13) : ∀ i, (cntR c l).getD i 0 ≤ c.getD i 0 + l.length := by
  induction l generalizing c with
  | nil => intro i; simp [cntR]
  | cons y r ih =>
    intro i
    rw [cntR]
    have := ih (c.set (y % 13).toNat (c.getD (y % 13).toNat 0 + 1)) (by simpa using hc) i
    rw [getD_set (by omega)] at this
    simp only [List.length_cons]
    split at this
    · rename_i h; subst h; omega
    · omega
/-- The ranks that occur, from below. -/
def presentR (c : List Int) (k : Nat) : List Int := ((List.range k).filter (fun (i : Nat) => decide (0 < c.getD i 0))).map (fun (i : Nat) => (i : Int))
theorem presentR_succ (c : List Int) (k : Nat) : presentR c (k + 1) = if 0 < c.getD k 0 then presentR c k ++ [(k : Int)] else presentR c k := by
  unfold presentR
  rw [List.range_succ, List.filter_append]
  by_cases h : 0 < c.getD k 0
  · rw [if_pos h, List.map_append]
    have : List.filter (fun (i : Nat) => decide (0 < c.getD i 0)) [k] = [k] := by rw [List.filter_cons, if_pos (decide_eq_true h)]; rfl
    rw [this]; rfl
  · rw [if_neg h, List.map_append]
    have : List.filter (fun (i : Nat) => decide (0 < c.getD i 0)) [k] = [] := by rw [List.filter_cons, if_neg (by simpa using h)]; rfl
    rw [this]; simp
theorem presentR_mem {c : List Int} {k : Nat} {x : Int} (h : x ∈ presentR c k) : 0 ≤ x ∧ x < k ∧ 0 < c.getD x.toNat 0 := by
  simp only [presentR, List.mem_map, List.mem_filter, List.mem_range, decide_eq_true_eq] at h
  obtain ⟨i, ⟨h1, h2⟩, rfl⟩ := h
  exact ⟨by omega, by omega, by simpa using h2⟩
theorem presentR_len (c : List Int) (k : Nat) : (presentR c k).length ≤ k := by
  unfold presentR
  rw [List.length_map]
  have := List.length_filter_le (fun (i : Nat) => decide (0 < c.getD i 0)) (List.range k)
  simpa using this
theorem presentR_sum (c : List Int) (k : Nat) (hk : k ≤ c.length) (h0 : ∀ i, 0 ≤ c.getD i 0) : ((presentR c k).map (fun x => c.getD x.toNat 0)).sum = (c.take k).sum := by
  induction k with
  | zero => simp [presentR]
  | succ k ih =>
    rw [presentR_succ, sum_take_succ c k (by omega), ← ih (by omega)]
    split
    · rw [List.map_append, List.sum_append]; simp
    · have := h0 k; omega
theorem presentR_cnt (c : List Int) (k : Nat) (hk : k ≤ c.length) (h0 : ∀ i, 0 ≤ c.getD i 0) : ((presentR c k).length : Int) ≤ (c.take k).sum := by
  induction k with
  | zero => simp [presentR]
  | succ k ih =>
    have := ih (by omega)
    rw [presentR_succ, sum_take_succ c k (by omega)]
    have := h0 k
    split
    · rw [List.length_append]; simp only [List.length_cons, List.length_nil]; omega
    · omega
def ltR (c : List Int) (a b : Int) : Bool := decide (cmpR c a b < 0)
/-- ranks.order -/
def ordF (hand : List Int) : List Int := sortF (ltR (cntR cnt0 hand)) (presentR (cntR cnt0 hand) 13)
def oftF (hand : List Int) : List Int := (ordF hand).map (fun r => (cntR cnt0 hand).getD r.toNat 0)
theorem cnt0_getD (i : Nat) : cnt0.getD i 0 = 0 := by
  simp only [cnt0, List.getD, List.getElem?_replicate]; split <;> rfl
theorem presentR_5 (hand : List Int) (h5 : hand.length = 5) : (presentR (cntR cnt0 hand) 13).length ≤ 5 := by
  have h := presentR_cnt (cntR cnt0 hand) 13 (by rw [cntR_length]; decide) (cntR_nonneg _ _ (by decide) (fun i => by rw [cnt0_getD]; omega))
  rw [List.take_of_length_le (by rw [cntR_length]; decide), cntR_sum _ _ (by decide), h5] at h
  have : cnt0.sum = 0 := by decide
  omega
theorem ordF_mem {hand : List Int} {x : Int} (h : x ∈ ordF hand) : 0 ≤ x ∧ x < 13 ∧ 0 < (cntR cnt0 hand).getD x.toNat 0 :=
  presentR_mem ((sortF_keeps _ id _).1 x |>.1 h)
theorem oftF_sum (hand : List Int) : (oftF hand).sum = hand.length := by
  unfold oftF ordF
  rw [(sortF_keeps _ (fun r => (cntR cnt0 hand).getD r.toNat 0) _).2.1, presentR_sum _ _ (by rw [cntR_length]; decide) (cntR_nonneg _ _ (by decide) (fun i => by rw [cnt0_getD]; omega)),
    List.take_of_length_le (by rw [cntR_length]; decide), cntR_sum _ _ (by decide)]
  have : cnt0.sum = 0 := by decide
  omega
theorem oftF_length (hand : List Int) : (oftF hand).length = (ordF hand).length := by simp [oftF]
theorem oftF_one {hand : List Int} (h5 : hand.length = 5) (h : (oftF hand).getD 0 0 = 3) : 1 < (oftF hand).length := by
  have hs := oftF_sum hand
  rw [h5] at hs
  match hq : oftF hand, hs with
  | [], hs => simp at hs
  | [x], hs => rw [hq] at h; simp at h hs; omega
  | _ :: _ :: _, _ => simp
theorem oftF_one2 {hand : List Int} (h5 : hand.length = 5) (h : (oftF hand).getD 0 0 = 2) : 1 < (oftF hand).length := by
  have hs := oftF_sum hand
  rw [h5] at hs
  match hq : oftF hand, hs with
  | [], hs => simp at hs
  | [x], hs => rw [hq] at h; simp at h hs; omega
  | _ :: _ :: _, _ => simp
theorem oftF_pos {hand : List Int} (h5 : hand.length = 5) : 0 < (oftF hand).length := by
  have hs := oftF_sum hand
  rw [h5] at hs
  match hq : oftF hand, hs with
  | [], hs => simp at hs
  | _ :: _, _ => simp
/-- ranks.straight -/
def strF (r : List Int) : Int := if r.length < 5 then -1 else if r.getD 0 0 - r.getD 4 0 = 4 then r.getD 0 0 else if r.getD 0 0 = 12 ∧ r.getD 1 0 = 3 then 3 else -1
def flushF (hand : List Int) : Bool := !(hand.any (fun c => decide (¬ c / 13 = hand.getD 0 0 / 13)))
/-- ranks.classOf -/
def clsF (hand : List Int) : Int :=
  if flushF hand = true ∧ 0 ≤ strF (ordF hand) then 8
  else if (oftF hand).getD 0 0 = 4 then 7
  else if (oftF hand).getD 0 0 = 3 ∧ (oftF hand).getD 1 0 = 2 then 6
  else if flushF hand = true then 5
  else if 0 ≤ strF (ordF hand) then 4
  else if (oftF hand).getD 0 0 = 3 then 3
  else if (oftF hand).getD 0 0 = 2 ∧ (oftF hand).getD 1 0 = 2 then 2
  else if (oftF hand).getD 0 0 = 2 then 1 else 0
def clsG (fl : Bool) (st : Int) (ot : List Int) : Int :=
  if fl = true ∧ 0 ≤ st then 8
  else if ot.getD 0 0 = 4 then 7
  else if ot.getD 0 0 = 3 ∧ ot.getD 1 0 = 2 then 6
  else if fl = true then 5
  else if 0 ≤ st then 4
  else if ot.getD 0 0 = 3 then 3
  else if ot.getD 0 0 = 2 ∧ ot.getD 1 0 = 2 then 2
  else if ot.getD 0 0 = 2 then 1 else 0
theorem clsF_eq (hand : List Int) : clsF hand = clsG (flushF hand) (strF (ordF hand)) (oftF hand) := rfl
theorem clsF_bd (hand : List Int) : 0 ≤ clsF hand ∧ clsF hand ≤ 8 := by unfold clsF; repeat' split <;> omega
/-- ranks.valueOf: one more digit -/
def valS (l : List Int) : Nat → Int → Int
  | 0, n => n
  | i + 1, n => if i < l.length then valS l i n * 13 + l.getD i 0 else valS l i n * 13
def dgt (hand : List Int) : List Int := if clsF hand = 8 ∨ clsF hand = 4 then [strF (ordF hand)] else ordF hand
def valF (hand : List Int) : Int := valS (dgt hand) 5 (clsF hand)
theorem strF_bd {hand : List Int} (h : 0 ≤ strF (ordF hand)) : strF (ordF hand) ≤ 12 := by
  unfold strF at h ⊢
  split
  · omega
  · rename_i h5
    have := ordF_mem (getD_mem 0 (show 0 < (ordF hand).length by omega))
    split
    · omega
    · split <;> omega
theorem dgt_bd (hand : List Int) : ∀ i, i < (dgt hand).length → 0 ≤ (dgt hand).getD i 0 ∧ (dgt hand).getD i 0 ≤ 12 := by
  intro i hi
  unfold dgt at hi ⊢
  by_cases h : clsF hand = 8 ∨ clsF hand = 4
  · rw [if_pos h] at hi ⊢
    have h0 : 0 ≤ strF (ordF hand) := by
      have h1 := h
      unfold clsF at h1
      repeat' split at h1
      all_goals first | omega | (rename_i a _; exact a.2) | skip
      all_goals first | assumption | (simp_all; done) | omega
    have := strF_bd h0
    have : i = 0 := by simpa using hi
    subst this
    simp; omega
  · rw [if_neg h] at hi ⊢
    have := ordF_mem (getD_mem 0 hi)
    omega
theorem valS_bd {l : List Int} (h : ∀ i, i < l.length → 0 ≤ l.getD i 0 ∧ l.getD i 0 ≤ 12) (n : Int) (k : Nat) : n * 13 ^ k ≤ valS l k n ∧ valS l k n < (n + 1) * 13 ^ k := by
  induction k with
  | zero => simp [valS]; omega
  | succ k ih =>
    rw [valS, Int.pow_succ, ← Int.mul_assoc, ← Int.mul_assoc]
    split
    · rename_i hk; have := h k hk; omega
    · omega
theorem valF_bd (hand : List Int) : clsF hand * 371293 ≤ valF hand ∧ valF hand < (clsF hand + 1) * 371293 := by
  have := valS_bd (dgt_bd hand) (clsF hand) 5
  have e : (13 : Int) ^ 5 = 371293 := by decide
  rw [e] at this
  exact this
/-- ranks.Check -/
def handE (l : List Int) : Int := if deckF l ≠ 0 then deckF l else if l.length ≠ 5 then 3 else 0
end Go.Ax.Rk
