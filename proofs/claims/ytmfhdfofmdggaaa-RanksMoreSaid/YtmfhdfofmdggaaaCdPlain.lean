/-
  Decks of cards in plain Lean. No program in sight.
-/
import Derived.Test.YtmfhdfofmdggaaaIdxPlain
set_option linter.unusedVariables false
set_option linter.unusedSimpArgs false
namespace Go.Ax.Cd
open Go.Ax.Idx

def eqp (v y : Int) : Bool := decide (v = y)
/-- cards.Check, from some card on -/
def deckGo (seen : List Int) : List Int → Int
  | [] => 0
  | c :: r => if c < 0 ∨ 52 ≤ c then 4 else if seen.any (eqp c) then 7 else deckGo (seen ++ [c]) r
def deckF (l : List Int) : Int := if 52 < l.length then 2 else deckGo [] l
/-- cards.Fits -/
def fitsGo (n : Int) (j : Nat) : List Int → Int
  | [] => 0
  | d :: r => if d < 0 ∨ n - 1 - j < d then 4 else fitsGo n (j + 1) r
def fitsF (n : Int) (l : List Int) : Int := if (l.length : Int) ≠ (if 1 > n then 1 else n) - 1 then 3 else fitsGo n 0 l
/-- The first numbers. -/
def iota (n : Nat) : List Int := (List.range n).map fun (i : Nat) => (i : Int)
theorem iota_length (n : Nat) : (iota n).length = n := by simp [iota]
theorem iota_succ (n : Nat) : iota (n + 1) = iota n ++ [(n : Int)] := by simp [iota, List.range_succ]
def swapF (l : List Int) (i k : Nat) : List Int := (l.set i (l.getD k 0)).set k (l.getD i 0)
theorem swapF_length (l : List Int) (i k : Nat) : (swapF l i k).length = l.length := by simp [swapF]
/-- cards.Shuffle, from some draw on -/
def shufGo (l : List Int) (j : Nat) : List Int → List Int
  | [] => l
  | d :: r => shufGo (swapF l (l.length - 1 - j) d.toNat) (j + 1) r
def shufF (l draws : List Int) : List Int := shufGo l 0 draws
theorem shufGo_append (l : List Int) (j : Nat) (a b : List Int) : shufGo l j (a ++ b) = shufGo (shufGo l j a) (j + a.length) b := by
  induction a generalizing l j with
  | nil => simp [shufGo]
  | cons d r ih => simp only [List.cons_append, shufGo, List.length_cons, ih]; rw [show j + 1 + r.length = j + (r.length + 1) by omega]
theorem shufGo_length (l : List Int) (j : Nat) (a : List Int) : (shufGo l j a).length = l.length := by
  induction a generalizing l j with
  | nil => rfl
  | cons d r ih => simp only [shufGo, ih, swapF_length]
theorem fitsGo_take {n : Int} {l : List Int} {k : Nat} (hk : k ≤ l.length) (h : ∀ j, j < k → 0 ≤ l.getD j 0 ∧ l.getD j 0 ≤ n - 1 - j) : fitsGo n 0 l = fitsGo n k (l.drop k) := by
  induction k with
  | zero => rfl
  | succ k ih =>
    rw [ih (by omega) (fun j hj => h j (by omega)), drop_getD l 0 k (by omega), fitsGo]
    have := h k (by omega)
    rw [if_neg (by omega)]
theorem fitsGo_zero {n : Int} {l : List Int} (j : Nat) (h : fitsGo n j l = 0) : ∀ i, i < l.length → 0 ≤ l.getD i 0 ∧ l.getD i 0 ≤ n - 1 - (j + i : Nat) := by
  induction l generalizing j with
  | nil => intro i hi; simp at hi
  | cons d r ih =>
    intro i hi
    rw [fitsGo] at h
    split at h
    · omega
    · cases i with
      | zero => simp; omega
      | succ i =>
        have := ih (j + 1) h i (by simpa using hi)
        simp only [List.getD_cons_succ]
        rw [show j + (i + 1) = j + 1 + i by omega]; exact this
theorem deckGo_take {l : List Int} {k : Nat} (hk : k ≤ l.length) (h : ∀ j, j < k → (0 ≤ l.getD j 0 ∧ l.getD j 0 < 52) ∧ (l.take j).any (eqp (l.getD j 0)) = false) : deckGo [] l = deckGo (l.take k) (l.drop k) := by
  induction k with
  | zero => rfl
  | succ k ih =>
    rw [ih (by omega) (fun j hj => h j (by omega)), drop_getD l 0 k (by omega), deckGo]
    have := h k (by omega)
    rw [if_neg (by omega), if_neg (by rw [this.2]; decide), take_succ_getD l 0 k (by omega)]
/-- The draws between two decks, from place i on downwards: what is still to be placed is 'now'. -/
def drawsGo (to : List Int) : Nat → List Int → List Int
  | 0, _ => []
  | i + 1, now => idxF (eqp (to.getD (i + 1) 0)) now :: drawsGo to i (swapF now (i + 1) (idxF (eqp (to.getD (i + 1) 0)) now).toNat)
def drawsF (l to : List Int) : List Int := drawsGo to (l.length - 1) l
def drawsE (l to : List Int) : Int := if l.length ≠ to.length then 3 else if to.any (fun c => !(l.any (eqp c))) then 3 else 0
end Go.Ax.Cd
namespace Go.Ax.Cd
open Go.Ax.Idx
theorem mem_swapF {l : List Int} {i k : Nat} (hi : i < l.length) (hk : k < l.length) (c : Int) : c ∈ swapF l i k ↔ c ∈ l := by
  have key : ∀ {l : List Int} {i k : Nat}, i < l.length → k < l.length → ∀ c, c ∈ swapF l i k → c ∈ l := by
    intro l i k hi hk c h
    unfold swapF at h
    rcases List.mem_or_eq_of_mem_set h with h | h
    · rcases List.mem_or_eq_of_mem_set h with h | h
      · exact h
      · rw [h]; exact getD_mem 0 hk
    · rw [h]; exact getD_mem 0 hi
  refine ⟨key hi hk c, fun h => ?_⟩
  have hb : swapF (swapF l i k) i k = l := by
    apply List.ext_getElem?
    intro j
    unfold swapF
    simp only [List.getElem?_set, List.length_set, List.getD]
    by_cases h1 : k = j
    · subst h1
      by_cases h2 : i = k
      · subst h2; simp [hi]
      · have h3 : ¬ k = i := fun e => h2 e.symm
        simp [hk, hi, h3]
    · by_cases h2 : i = j
      · subst h2; simp [h1, hi, hk]
      · simp [h1, h2]
  have := key (l := swapF l i k) (i := i) (k := k) (by rw [swapF_length]; exact hi) (by rw [swapF_length]; exact hk) c (by rw [hb]; exact h)
  exact this
theorem idxF_lt {l : List Int} {v : Int} (h : v ∈ l) : 0 ≤ idxF (eqp v) l ∧ idxF (eqp v) l < l.length := by
  induction l with
  | nil => simp at h
  | cons x r ih =>
    simp only [idxF]
    split
    · simp
    · rename_i hx
      have : v ∈ r := by
        rcases List.mem_cons.1 h with h | h
        · exact absurd (by simp [eqp, h]) hx
        · exact h
      have := ih this
      rw [if_neg (by omega)]
      simp; omega
theorem any_eqp {l : List Int} {v : Int} : l.any (eqp v) = true ↔ v ∈ l := by
  rw [List.any_eq_true]
  constructor
  · rintro ⟨x, hx, h⟩; simp [eqp] at h; rw [h]; exact hx
  · intro h; exact ⟨v, h, by simp [eqp]⟩
end Go.Ax.Cd
namespace Go.Ax.Cd
open Go.Ax.Idx
/-- The hands behind so many cards. -/
def dealGo (P : Nat) (l : List Int) : Nat → List (List Int)
  | 0 => List.replicate P []
  | m + 1 => (dealGo P l m).set (m % P) ((dealGo P l m).getD (m % P) [] ++ [l.getD m 0])
theorem dealGo_length (P : Nat) (l : List Int) (m : Nat) : (dealGo P l m).length = P := by
  induction m with
  | zero => simp [dealGo]
  | succ m ih => simp [dealGo, ih]
theorem dealGo_small (P : Nat) (l : List Int) (m k : Nat) : ((dealGo P l m).getD k []).length ≤ m := by
  induction m generalizing k with
  | zero => simp [dealGo, List.getD, List.getElem?_replicate]; split <;> simp
  | succ m ih =>
    simp only [dealGo, List.getD, List.getElem?_set]
    split
    · split
      · have := ih (m % P); simp only [List.getD] at this; simp; omega
      · simp
    · have := ih k; simp only [List.getD] at this; omega
end Go.Ax.Cd
