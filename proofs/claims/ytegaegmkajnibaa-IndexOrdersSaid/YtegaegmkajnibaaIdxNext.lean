/-
  The next placement, and the order of placements, in plain Lean.
-/
import Derived.Test.YtegaegmkajnibaaIdxMath
set_option linter.unusedVariables false
set_option linter.unusedSimpArgs false
namespace Go.Ax.Idx

def swapF (l : List Int) (i k : Nat) : List Int := (l.set i (l.getD k 0)).set k (l.getD i 0)
def nextF (l : List Int) (i k : Nat) : List Int := (swapF l i k).take (i + 1) ++ ((swapF l i k).drop (i + 1)).reverse
theorem swapF_length (l : List Int) (i k : Nat) : (swapF l i k).length = l.length := by simp [swapF]

theorem last_of (Q : Nat → Prop) (n : Nat) : (∃ p, p < n ∧ Q p) → ∃ p, p < n ∧ Q p ∧ ∀ q, p < q → q < n → ¬ Q q := by
  induction n with
  | zero => rintro ⟨p, hp, _⟩; omega
  | succ n ih =>
    rintro ⟨p, hp, hq⟩
    by_cases h : Q n
    · exact ⟨n, by omega, h, fun q h1 h2 => by omega⟩
    · have : p ≠ n := by rintro rfl; exact h hq
      obtain ⟨p', h1, h2, h3⟩ := ih ⟨p, by omega, hq⟩
      exact ⟨p', by omega, h2, fun q g1 g2 => by
        by_cases e : q = n
        · subst e; exact h
        · exact h3 q g1 (by omega)⟩

theorem desc_of_steps (l : List Int) (h : ∀ p : Nat, p + 1 < l.length → l.getD (p + 1) 0 ≤ l.getD p 0) : ∀ d p : Nat, p + d < l.length → l.getD (p + d) 0 ≤ l.getD p 0 := by
  intro d
  induction d with
  | zero => intro p _; exact Int.le_refl _
  | succ d ih =>
    intro p hp
    have h1 := ih p (by omega)
    have h2 := h (p + d) (by omega)
    rw [← Nat.add_assoc]; omega
theorem desc_pairwise (l : List Int) (h : ∀ p : Nat, p + 1 < l.length → l.getD (p + 1) 0 ≤ l.getD p 0) : l.Pairwise (fun a b => b ≤ a) := by
  rw [List.pairwise_iff_getElem]
  intro i j hi hj hij
  have := desc_of_steps l h (j - i) i (by omega)
  rw [show i + (j - i) = j by omega, getD_lt 0 hi, getD_lt 0 hj] at this
  exact this

/-- What a swap in a falling row, turned round, is. -/
theorem next_tail (x : Int) (r : List Int) (j : Nat) (hj : j < r.length) (hd : r.Pairwise (fun a b => b ≤ a)) (hx : x < r.getD j 0) (hxs : ∀ p : Nat, j < p → p < r.length → r.getD p 0 ≤ x) :
    (x :: r).Perm (r.getD j 0 :: (r.set j x).reverse) ∧ (r.set j x).reverse.Pairwise (fun a b => a ≤ b) ∧ ∀ z ∈ x :: r, ¬ (x < z ∧ z < r.getD j 0) := by
  rw [List.pairwise_iff_getElem] at hd
  refine ⟨?_, ?_, ?_⟩
  · have e1 : r = r.take j ++ r.getD j 0 :: r.drop (j + 1) := by rw [← drop_getD r 0 j hj, List.take_append_drop]
    have e2 : r.set j x = r.take j ++ x :: r.drop (j + 1) := by rw [List.set_eq_take_append_cons_drop, if_pos hj]
    have h1 : (x :: r).Perm (x :: r.getD j 0 :: (r.take j ++ r.drop (j + 1))) := by
      refine List.Perm.cons x ?_
      have : r.Perm (r.take j ++ r.getD j 0 :: r.drop (j + 1)) := by rw [← e1]
      exact this.trans List.perm_middle
    have h2 : (r.set j x).reverse.Perm (x :: (r.take j ++ r.drop (j + 1))) := by
      refine (List.reverse_perm _).trans ?_
      rw [e2]; exact List.perm_middle
    exact h1.trans ((List.Perm.swap _ _ _).trans (List.Perm.cons _ h2.symm))
  · rw [List.pairwise_reverse, List.pairwise_iff_getElem]
    intro a b ha hb hab
    rw [List.length_set] at ha hb
    rw [List.getElem_set, List.getElem_set]
    have h1 := hd a b ha hb hab
    by_cases e1 : j = a
    · rw [if_pos e1, if_neg (by omega)]
      have := hxs b (by omega) hb
      rwa [getD_lt 0 hb] at this
    · rw [if_neg e1]
      by_cases e2 : j = b
      · rw [if_pos e2]
        subst e2
        rw [getD_lt 0 hb] at hx
        omega
      · rw [if_neg e2]; exact h1
  · intro z hz ⟨g1, g2⟩
    rcases List.mem_cons.mp hz with rfl | hz
    · omega
    · obtain ⟨a, ha, rfl⟩ := List.getElem_of_mem hz
      rw [getD_lt 0 hj] at g2
      by_cases e : a ≤ j
      · by_cases e2 : a = j
        · subst e2; omega
        · have := hd a j ha hj (by omega); omega
      · have := hxs a (by omega) ha
        rw [getD_lt 0 ha] at this
        omega

theorem next_law (l : List Int) (hin : ∀ x ∈ l, 0 ≤ x ∧ x ≤ 6) (i k : Nat) (hk : i < k) (hkl : k < l.length) (hd : ∀ p : Nat, i < p → p + 1 < l.length → l.getD (p + 1) 0 ≤ l.getD p 0)
    (hki : l.getD i 0 < l.getD k 0) (hkk : ∀ p : Nat, k < p → p < l.length → l.getD p 0 ≤ l.getD i 0) : rankF (nextF l i k) = rankF l + 1 ∧ (nextF l i k).Perm l := by
  have hgd : ∀ q, (l.drop (i + 1)).getD q 0 = l.getD (i + 1 + q) 0 := by intro q; simp [List.getD]
  have hjl : k - i - 1 < (l.drop (i + 1)).length := by simp; omega
  have hjv : (l.drop (i + 1)).getD (k - i - 1) 0 = l.getD k 0 := by rw [hgd]; congr 1; omega
  have hrd : (l.drop (i + 1)).Pairwise (fun a b => b ≤ a) := by
    refine desc_pairwise _ (fun p hp => ?_)
    simp only [List.length_drop] at hp
    rw [hgd, hgd]
    have := hd (i + 1 + p) (by omega) (by omega)
    rwa [show i + 1 + p + 1 = i + 1 + (p + 1) by omega] at this
  obtain ⟨h1, h2, h3⟩ := next_tail (l.getD i 0) (l.drop (i + 1)) (k - i - 1) hjl hrd (by rw [hjv]; exact hki) (fun p g1 g2 => by
    simp only [List.length_drop] at g2
    rw [hgd]; exact hkk (i + 1 + p) (by omega) (by omega))
  rw [hjv] at h1 h3
  have hl : l = l.take i ++ l.getD i 0 :: l.drop (i + 1) := by rw [← drop_getD l 0 i (by omega), List.take_append_drop]
  have hn : nextF l i k = l.take i ++ l.getD k 0 :: ((l.drop (i + 1)).set (k - i - 1) (l.getD i 0)).reverse := by
    unfold nextF swapF
    rw [List.take_set_of_le (by omega), List.drop_set, if_neg (by omega), List.drop_set_of_lt (by omega), List.take_succ_eq_append_getElem (by simp; omega)]
    rw [List.take_set_of_le (by omega)]
    simp [show k - (i + 1) = k - i - 1 by omega]
  have hmem : ∀ z ∈ l.getD i 0 :: l.drop (i + 1), 0 ≤ z ∧ z ≤ 6 := fun z hz => hin z (by rw [hl]; exact List.mem_append_right _ hz)
  have hmem2 : ∀ z ∈ l.getD k 0 :: ((l.drop (i + 1)).set (k - i - 1) (l.getD i 0)).reverse, 0 ≤ z ∧ z ≤ 6 := fun z hz => hmem z (h1.mem_iff.mpr hz)
  have hr := rankF_next (l.getD i 0) (l.getD k 0) _ _ hmem hmem2 (cnt_perm h1) hki h3 hrd h2
  have hp := rankF_prefix (l.take i) _ _ (cnt_perm h1) 1 hr (fun q => cnt_perm (List.Perm.append_left q h1))
  rw [← hn, ← hl] at hp
  refine ⟨hp, ?_⟩
  have hperm := List.Perm.append_left (l.take i) h1
  rw [← hn, ← hl] at hperm
  exact hperm.symm

theorem next_exists (l : List Int) : (∀ p : Nat, p + 1 < l.length → l.getD (p + 1) 0 ≤ l.getD p 0) ∨ ∃ i k : Nat, i < k ∧ k < l.length ∧ l.getD i 0 < l.getD (i + 1) 0 ∧ (∀ p : Nat, i < p → p + 1 < l.length → l.getD (p + 1) 0 ≤ l.getD p 0) ∧
    l.getD i 0 < l.getD k 0 ∧ ∀ p : Nat, k < p → p < l.length → l.getD p 0 ≤ l.getD i 0 := by
  by_cases h : ∃ p, p < l.length ∧ (p + 1 < l.length ∧ l.getD p 0 < l.getD (p + 1) 0)
  · right
    obtain ⟨i, h1, ⟨h2, h3⟩, h4⟩ := last_of _ _ h
    obtain ⟨k, g1, ⟨g2, g3⟩, g4⟩ := last_of (fun k => i < k ∧ l.getD i 0 < l.getD k 0) l.length ⟨i + 1, h2, by omega, h3⟩
    refine ⟨i, k, g2, g1, h3, fun p e1 e2 => ?_, g3, fun p e1 e2 => ?_⟩
    · rcases Int.lt_or_le (l.getD p 0) (l.getD (p + 1) 0) with e | e
      · exact absurd ⟨e2, e⟩ (h4 p e1 (by omega))
      · exact e
    · rcases Int.lt_or_le (l.getD i 0) (l.getD p 0) with e | e
      · exact absurd ⟨by omega, e⟩ (g4 p e1 e2)
      · exact e
  · left
    intro p hp
    rcases Int.lt_or_le (l.getD p 0) (l.getD (p + 1) 0) with e | e
    · exact absurd ⟨p, by omega, hp, e⟩ h
    · exact e

def cmp1 (x y : Int) : Int := if x < y then -1 else if y < x then 1 else 0
def cmpF : List Int → List Int → Int
  | [], [] => 0
  | [], _ :: _ => -1
  | _ :: _, [] => 1
  | x :: r, y :: s => if cmp1 x y ≠ 0 then cmp1 x y else cmpF r s
theorem cmp_law : ∀ a b : List Int, (∀ x ∈ a, 0 ≤ x ∧ x ≤ 6) → (∀ x ∈ b, 0 ≤ x ∧ x ≤ 6) → cnt a = cnt b → (cmpF a b < 0 ∧ rankF a < rankF b) ∨ (cmpF a b = 0 ∧ rankF a = rankF b) ∨ (0 < cmpF a b ∧ rankF b < rankF a)
  | [], [], _, _, _ => .inr (.inl ⟨rfl, rfl⟩)
  | [], y :: s, _, hb, hc => by
    exfalso
    have h1 := cnt_sum (y :: s) hb
    rw [← hc, cnt_sum [] (by simp)] at h1
    simp at h1; omega
  | x :: r, [], ha, _, hc => by
    exfalso
    have h1 := cnt_sum (x :: r) ha
    rw [hc, cnt_sum [] (by simp)] at h1
    simp at h1; omega
  | x :: r, y :: s, ha, hb, hc => by
    have hx := ha x (by simp)
    have hy := hb y (by simp)
    simp only [cmpF]
    rcases Int.lt_trichotomy x y with h | h | h
    · left
      have e : cmp1 x y = -1 := by unfold cmp1; rw [if_pos h]
      rw [e, if_pos (by decide)]
      exact ⟨by decide, rankF_lt_of_head x y r s ha hb hc h⟩
    · subst h
      have e : cmp1 x x = 0 := by unfold cmp1; rw [if_neg (by omega), if_neg (by omega)]
      rw [e, if_neg (by simp)]
      have := cmp_law r s (fun z hz => ha z (by simp [hz])) (fun z hz => hb z (by simp [hz])) (cnt_tail x r s hx.1 hx.2 hc)
      simp only [rankF, hc]
      omega
    · right; right
      have e : cmp1 x y = 1 := by unfold cmp1; rw [if_neg (by omega), if_pos h]
      rw [e, if_pos (by decide)]
      exact ⟨by decide, rankF_lt_of_head y x s r hb ha hc.symm h⟩
theorem checkF_of {l : List Int} (hl : l.length ≤ 16) (h : ∀ x ∈ l, 0 ≤ x ∧ x ≤ 6) : checkF l = 0 := by
  unfold checkF
  rw [if_neg (by omega), if_neg]
  simp only [List.any_eq_true, not_exists, not_and]
  intro x hx ho
  unfold outK at ho
  have := of_decide_eq_true ho
  have := h x hx
  omega
end Go.Ax.Idx
