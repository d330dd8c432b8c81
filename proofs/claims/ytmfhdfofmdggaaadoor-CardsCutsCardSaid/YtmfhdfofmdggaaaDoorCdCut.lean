/-
  Cuts and deals, in plain Lean. No program in sight.
-/
import Derived.Test.YtmfhdfofmdggaaaDoorCdLaw
set_option linter.unusedVariables false
set_option linter.unusedSimpArgs false
namespace Go.Ax.Cd
open Go.Ax.Idx

def cutG (l : List Int) (k : Nat) : List Int := l.drop k ++ l.take k
theorem cutG_length (l : List Int) (k : Nat) : (cutG l k).length = l.length := by simp [cutG]; omega
theorem cutG_getD {l : List Int} {k i : Nat} (hk : k ≤ l.length) (hi : i < l.length) : (cutG l k).getD i 0 = l.getD ((i + k) % l.length) 0 := by
  unfold cutG
  by_cases h : i < l.length - k
  · rw [Nat.mod_eq_of_lt (by omega)]
    simp only [List.getD]
    rw [List.getElem?_append_left (by simp; omega), List.getElem?_drop, Nat.add_comm]
  · have e : (i + k) % l.length = i + k - l.length := by
      rw [Nat.mod_eq_sub_mod (by omega), Nat.mod_eq_of_lt (by omega)]
    rw [e]
    simp only [List.getD]
    rw [List.getElem?_append_right (by simp; omega), List.getElem?_take, if_pos (by simp; omega), List.length_drop]
    congr 2; omega
theorem list_ext_getD {l m : List Int} (h : l.length = m.length) (he : ∀ i, i < l.length → l.getD i 0 = m.getD i 0) : l = m := by
  apply List.ext_getElem h
  intro i h1 h2
  have := he i h1
  rwa [getD_lt 0 h1, getD_lt 0 h2] at this
/-- Two cuts are one. -/
theorem cut_cut {l : List Int} {a b : Nat} (h0 : 0 < l.length) (ha : a ≤ l.length) (hb : b ≤ l.length) : cutG (cutG l a) b = cutG l ((a + b) % l.length) := by
  have hm : (a + b) % l.length < l.length := Nat.mod_lt _ h0
  refine list_ext_getD (by simp [cutG_length]) (fun i hi => ?_)
  rw [cutG_length, cutG_length] at hi
  rw [cutG_getD (by rw [cutG_length]; exact hb) (by rw [cutG_length]; exact hi), cutG_length, cutG_getD ha (Nat.mod_lt _ h0), cutG_getD (by omega) hi]
  congr 1
  rw [Nat.mod_add_mod, Nat.add_mod_mod]
  congr 1; omega
theorem cut_mem {l : List Int} {k : Nat} (c : Int) : c ∈ cutG l k ↔ c ∈ l := by
  unfold cutG
  rw [List.mem_append]
  constructor
  · rintro (h | h)
    · exact List.mem_of_mem_drop h
    · exact List.mem_of_mem_take h
  · intro h
    rw [← List.take_append_drop k l, List.mem_append] at h
    exact h.symm
theorem cut_deck {l : List Int} {k : Nat} (hk : k ≤ l.length) (h : deckF l = 0) : deckF (cutG l k) = 0 := by
  obtain ⟨a, b, c⟩ := deckF_iff.1 h
  refine deckF_iff.2 ⟨by rw [cutG_length]; exact a, fun x hx => b x ((cut_mem x).1 hx), fun i j hi hj e => ?_⟩
  rw [cutG_length] at hi hj
  rw [cutG_getD hk hi, cutG_getD hk hj] at e
  have h0 : 0 < l.length := by omega
  have := c _ _ (Nat.mod_lt _ h0) (Nat.mod_lt _ h0) e
  rcases Nat.lt_or_ge (i + k) l.length with h1 | h1 <;> rcases Nat.lt_or_ge (j + k) l.length with h2 | h2
  · rw [Nat.mod_eq_of_lt h1, Nat.mod_eq_of_lt h2] at this; omega
  · rw [Nat.mod_eq_of_lt h1, Nat.mod_eq_sub_mod h2, Nat.mod_eq_of_lt (by omega)] at this; omega
  · rw [Nat.mod_eq_of_lt h2, Nat.mod_eq_sub_mod h1, Nat.mod_eq_of_lt (by omega)] at this; omega
  · rw [Nat.mod_eq_sub_mod h1, Nat.mod_eq_of_lt (by omega), Nat.mod_eq_sub_mod h2, Nat.mod_eq_of_lt (by omega)] at this; omega

/-- How many cards hand k has behind m cards. -/
def cntH (P m k : Nat) : Nat := if k < m % P then m / P + 1 else m / P
theorem dealGo_hand {P : Nat} {l : List Int} (hP : 0 < P) (m : Nat) : ∀ k, k < P → (dealGo P l m).getD k [] = (List.range (cntH P m k)).map (fun i => l.getD (i * P + k) 0) := by
  induction m with
  | zero =>
    intro k hk
    simp [dealGo, cntH, List.getD, List.getElem?_replicate, hk]
  | succ m ih =>
    intro k hk
    have hp : m % P < P := Nat.mod_lt _ hP
    have hdm := Nat.div_add_mod m P
    generalize hq : m / P = q at *
    generalize hr : m % P = p at *
    have hlen := dealGo_length P l m
    have hstep : (dealGo P l (m + 1)).getD k [] = if p = k then (dealGo P l m).getD p [] ++ [l.getD m 0] else (dealGo P l m).getD k [] := by
      rw [dealGo, hr]
      simp only [List.getD, List.getElem?_set, hlen, hp, if_true]
      split <;> simp
    rw [hstep]
    have hdiv : (m + 1) % P = (if p + 1 = P then 0 else p + 1) ∧ (m + 1) / P = (if p + 1 = P then q + 1 else q) := by
      have e : m + 1 = P * q + (p + 1) := by omega
      by_cases h : p + 1 = P
      · rw [if_pos h, if_pos h, e, h, ← Nat.mul_succ]
        exact ⟨Nat.mul_mod_right _ _, Nat.mul_div_cancel_left _ hP⟩
      · rw [if_neg h, if_neg h, e]
        exact ⟨by rw [Nat.mul_add_mod, Nat.mod_eq_of_lt (by omega)], by rw [Nat.mul_add_div hP, Nat.div_eq_of_lt (by omega), Nat.add_zero]⟩
    have hc0 : cntH P m k = if k < p then q + 1 else q := by unfold cntH; rw [hq, hr]
    have hc1 : cntH P (m + 1) k = if k ≤ p then q + 1 else q := by
      unfold cntH
      rw [hdiv.1, hdiv.2]
      by_cases h : p + 1 = P
      · rw [if_pos h, if_pos h, if_neg (by omega), if_pos (by omega)]
      · rw [if_neg h, if_neg h]
        by_cases h2 : k ≤ p
        · rw [if_pos (by omega), if_pos h2]
        · rw [if_neg (by omega), if_neg h2]
    by_cases h : p = k
    · rw [if_pos h]
      subst h
      rw [ih p hp, hc0, hc1, if_neg (by omega), if_pos (by omega), List.range_succ, List.map_append]
      congr 2
      simp only [List.map_cons, List.map_nil]
      rw [show q * P + p = m by rw [Nat.mul_comm]; omega]
    · rw [if_neg h, ih k hk, hc0, hc1]
      by_cases h2 : k < p
      · rw [if_pos h2, if_pos (by omega)]
      · rw [if_neg h2, if_neg (by omega)]
theorem dealGo_full {P each : Nat} {l : List Int} (hP : 0 < P) {k : Nat} (hk : k < P) : ((dealGo P l (P * each)).getD k []).length = each ∧ ∀ i, i < each → ((dealGo P l (P * each)).getD k []).getD i 0 = l.getD (i * P + k) 0 := by
  rw [dealGo_hand hP _ k hk]
  have hc : cntH P (P * each) k = each := by
    unfold cntH
    rw [Nat.mul_mod_right, if_neg (by omega), Nat.mul_div_cancel_left _ hP]
  rw [hc]
  exact ⟨by simp, fun i hi => by simp [List.getD, hi]⟩
end Go.Ax.Cd
