/-
  All draws make different decks, in plain Lean. No program in sight.
-/
import Derived.Test.YtmfhdfofmdggaaaDoorCdLaw
set_option linter.unusedVariables false
set_option linter.unusedSimpArgs false
namespace Go.Ax.Cd
open Go.Ax.Idx

def fac : Nat → Nat
  | 0 => 1
  | n + 1 => fac n * (n + 1)
theorem fac_pos : ∀ n, 0 < fac n
  | 0 => Nat.one_pos
  | n + 1 => Nat.mul_pos (fac_pos n) (Nat.succ_pos _)
theorem fac_le {k : Nat} (h : k ≤ 5) : fac k ≤ 120 := by
  match k, h with
  | 0, _ => decide
  | 1, _ => decide
  | 2, _ => decide
  | 3, _ => decide
  | 4, _ => decide
  | 5, _ => decide
/-- The draws with number x. -/
def dX : Nat → Nat → List Int
  | 0, _ => []
  | 1, _ => []
  | i + 2, x => ((x % (i + 2) : Nat) : Int) :: dX (i + 1) (x / (i + 2))
theorem dX_step {i x : Nat} (h : 1 < i) : dX i x = ((x % i : Nat) : Int) :: dX (i - 1) (x / i) := by
  obtain ⟨j, rfl⟩ : ∃ j, i = j + 2 := ⟨i - 2, by omega⟩
  rfl
theorem dX_end {i x : Nat} (h : ¬ 1 < i) : dX i x = [] := by
  match i, h with
  | 0, _ => rfl
  | 1, _ => rfl
  | _ + 2, h => exact absurd (by omega) h
theorem dX_length (i x : Nat) : (dX i x).length = i - 1 := by
  induction i generalizing x with
  | zero => rfl
  | succ i ih => cases i with
    | zero => rfl
    | succ i => simp only [dX, List.length_cons, ih]; omega
theorem dX_bd (i x : Nat) : ∀ p, p < (dX i x).length → 0 ≤ (dX i x).getD p 0 ∧ (dX i x).getD p 0 ≤ (i : Int) - 1 - p := by
  induction i generalizing x with
  | zero => intro p hp; simp [dX] at hp
  | succ i ih => cases i with
    | zero => intro p hp; simp [dX] at hp
    | succ i =>
      intro p hp
      cases p with
      | zero =>
        have := Nat.mod_lt x (show 0 < i + 2 by omega)
        simp only [dX, List.getD_cons_zero]
        omega
      | succ p =>
        have := ih (x / (i + 2)) p (by simpa [dX] using hp)
        simp only [dX, List.getD_cons_succ]
        omega
theorem dX_inj : ∀ (i x y : Nat), x < fac i → y < fac i → dX i x = dX i y → x = y
  | 0, x, y, hx, hy, _ => by simp [fac] at hx hy; omega
  | 1, x, y, hx, hy, _ => by simp [fac] at hx hy; omega
  | i + 2, x, y, hx, hy, h => by
    simp only [dX, List.cons.injEq] at h
    have hx' : x / (i + 2) < fac (i + 1) := (Nat.div_lt_iff_lt_mul (by omega)).2 hx
    have hy' : y / (i + 2) < fac (i + 1) := (Nat.div_lt_iff_lt_mul (by omega)).2 hy
    have h2 := dX_inj (i + 1) _ _ hx' hy' h.2
    have h1 : x % (i + 2) = y % (i + 2) := by omega
    rw [← Nat.div_add_mod x (i + 2), ← Nat.div_add_mod y (i + 2), h1, h2]
def permX (n x : Nat) : List Int := shufF (iota n) (dX n x)
theorem iota_getD {n i : Nat} (h : i < n) : (iota n).getD i 0 = i := by simp [iota, List.getD, h]
theorem iota_deck {n : Nat} (h : n ≤ 52) : deckF (iota n) = 0 := by
  refine deckF_iff.2 ⟨by rw [iota_length]; exact h, fun c hc => ?_, fun i j hi hj e => ?_⟩
  · obtain ⟨i, hi, rfl⟩ := List.getElem_of_mem hc
    rw [iota_length] at hi
    rw [← getD_lt 0, iota_getD hi]; omega
  · rw [iota_length] at hi hj
    rw [iota_getD hi, iota_getD hj] at e; omega
theorem dX_fits (n x : Nat) : fitsF n (dX n x) = 0 := by
  rcases Nat.eq_zero_or_pos n with h | h
  · subst h; exact fits0.2 rfl
  · refine (fitsF_iff h).2 ⟨by rw [dX_length]; omega, fun i hi => ?_⟩
    have := dX_bd n x i hi
    rw [Nat.zero_add]; exact this
theorem permX_length (n x : Nat) : (permX n x).length = n := by unfold permX shufF; rw [shufGo_length, iota_length]
theorem permX_inj {n x y : Nat} (hn : n ≤ 52) (hx : x < fac n) (hy : y < fac n) (h : permX n x = permX n y) : x = y := by
  have h1 := (cardsBack_plain (l := iota n) (ds := dX n x) (iota_deck hn) (by rw [iota_length]; exact dX_fits n x)).2.2.2.1
  have h2 := (cardsBack_plain (l := iota n) (ds := dX n y) (iota_deck hn) (by rw [iota_length]; exact dX_fits n y)).2.2.2.1
  unfold permX at h
  rw [h] at h1
  exact dX_inj n x y hx hy (h1.symm.trans h2)
end Go.Ax.Cd
