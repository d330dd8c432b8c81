/-
  What the laws say of hands, in plain Lean.
-/
import Derived.Test.YtmfhdfofmdggaaaRkBest
set_option linter.unusedVariables false
set_option linter.unusedSimpArgs false
namespace Go.Ax.Rk
open Go.Ax.Idx Go.Ax.Cd

/-! Counting, flushes: what they hang on. -/
theorem getD_ext0 {a b : List Int} (hl : a.length = b.length) (h : ∀ i, i < a.length → a.getD i 0 = b.getD i 0) : a = b := by
  apply List.ext_getElem hl
  intro i h1 h2
  have := h i h1
  simpa [List.getD, h1, h2] using this
def oneAt (i : Nat) (x : Int) : Int := if (x % 13).toNat = i then 1 else 0
theorem cntR_getD (c l : List Int) (hc : c.length = 13) (i : Nat) : (cntR c l).getD i 0 = c.getD i 0 + (l.map (oneAt i)).sum := by
  induction l generalizing c with
  | nil => simp [cntR]
  | cons x r ih =>
    rw [cntR, ih _ (by simpa using hc), getD_set (by omega), List.map_cons, List.sum_cons]
    unfold oneAt
    by_cases h : (x % 13).toNat = i
    · rw [if_pos h, if_pos h.symm, h]; omega
    · rw [if_neg h, if_neg (fun e => h e.symm)]; omega
theorem cntR_congr {l m : List Int} (h : ∀ i, (l.map (oneAt i)).sum = (m.map (oneAt i)).sum) : cntR cnt0 l = cntR cnt0 m :=
  getD_ext0 (by rw [cntR_length, cntR_length]) (fun i _ => by rw [cntR_getD _ _ (by decide), cntR_getD _ _ (by decide), h i])
theorem flushF_iff {l : List Int} (h : 0 < l.length) : flushF l = true ↔ ∀ a ∈ l, ∀ b ∈ l, a / 13 = b / 13 := by
  unfold flushF
  rw [Bool.not_eq_true', List.any_eq_false]
  simp only [decide_eq_true_eq, Decidable.not_not]
  constructor
  · intro hh a ha b hb; rw [hh a ha, hh b hb]
  · intro hh a ha; exact hh a ha _ (getD_mem 0 h)
theorem val_congr {l m : List Int} (hc : cntR cnt0 l = cntR cnt0 m) (hf : flushF l = flushF m) : clsF l = clsF m ∧ valF l = valF m := by
  have ho : ordF l = ordF m := by unfold ordF; rw [hc]
  have hq : oftF l = oftF m := by unfold oftF; rw [hc, ho]
  have hk : clsF l = clsF m := by rw [clsF_eq, clsF_eq, hf, ho, hq]
  refine ⟨hk, ?_⟩
  unfold valF dgt
  rw [hk, ho]

/-! Another suit. -/
def shiftF (s : Int) (l : List Int) : List Int := l.map (fun c => (c + 13 * s) % 52)
theorem shiftF_hand {l : List Int} {s : Int} (hs : 0 ≤ s ∧ s < 4) (h : handE l = 0) : handE (shiftF s l) = 0 ∧ clsF (shiftF s l) = clsF l ∧ valF (shiftF s l) = valF l := by
  have hd : deckF l = 0 ∧ l.length = 5 := by
    unfold handE at h
    split at h
    · omega
    · split at h
      · omega
      · omega
  obtain ⟨d1, d2, d3⟩ := deckF_iff.1 hd.1
  have hlen : (shiftF s l).length = 5 := by simp [shiftF, hd.2]
  have hmem : ∀ y ∈ shiftF s l, ∃ c ∈ l, y = (c + 13 * s) % 52 := by
    intro y hy
    simp only [shiftF, List.mem_map] at hy
    obtain ⟨c, hc, rfl⟩ := hy
    exact ⟨c, hc, rfl⟩
  have hmem2 : ∀ c ∈ l, (c + 13 * s) % 52 ∈ shiftF s l := fun c hc => List.mem_map.2 ⟨c, hc, rfl⟩
  have hdeck : deckF (shiftF s l) = 0 := by
    refine deckF_iff.2 ⟨by omega, fun y hy => ?_, fun i k hi hk e => ?_⟩
    · obtain ⟨c, hc, rfl⟩ := hmem y hy; omega
    · have hi' : i < l.length := by rw [hlen] at hi; omega
      have hk' : k < l.length := by rw [hlen] at hk; omega
      have ei : (shiftF s l).getD i 0 = (l.getD i 0 + 13 * s) % 52 := by simp [shiftF, List.getD, hi']
      have ek : (shiftF s l).getD k 0 = (l.getD k 0 + 13 * s) % 52 := by simp [shiftF, List.getD, hk']
      rw [ei, ek] at e
      have a := d2 _ (getD_mem 0 hi')
      have b := d2 _ (getD_mem 0 hk')
      exact d3 i k hi' hk' (by omega)
  refine ⟨by unfold handE; rw [if_neg (by omega), if_neg (by omega)], val_congr (cntR_congr fun i => ?_) ?_⟩
  · unfold shiftF
    rw [List.map_map]
    congr 1
    refine List.map_congr_left (fun c _ => ?_)
    show oneAt i ((c + 13 * s) % 52) = oneAt i c
    unfold oneAt
    rw [show (c + 13 * s) % 52 % 13 = c % 13 by omega]
  · rw [Bool.eq_iff_iff, flushF_iff (by omega), flushF_iff (by omega)]
    constructor
    · intro hh a ha b hb
      have := hh _ (hmem2 a ha) _ (hmem2 b hb)
      have := d2 a ha
      have := d2 b hb
      omega
    · intro hh x hx y hy
      obtain ⟨a, ha, rfl⟩ := hmem x hx
      obtain ⟨b, hb, rfl⟩ := hmem y hy
      have := hh a ha b hb
      have := d2 a ha
      have := d2 b hb
      omega

/-! Another order. -/
theorem shufGo_sum (f : Int → Int) {l : List Int} {j : Nat} {ds : List Int} (h : Fit l.length j ds) : ((shufGo l j ds).map f).sum = (l.map f).sum := by
  induction ds generalizing l j with
  | nil => rfl
  | cons d r ih =>
    obtain ⟨h1, h2, h3⟩ := h.cons
    have hl := swapF_length l (l.length - 1 - j) d.toNat
    rw [← hl] at h2
    rw [shufGo, ih h2, sum_swapF f (by omega) (by omega)]
theorem handE_zero {l : List Int} : handE l = 0 ↔ deckF l = 0 ∧ l.length = 5 := by
  unfold handE
  constructor
  · intro h
    split at h
    · omega
    · split at h
      · omega
      · omega
  · rintro ⟨h1, h2⟩
    rw [if_neg (by omega), if_neg (by omega)]
theorem shuf_hand {l ds : List Int} (h : handE l = 0) (hs : fitsF l.length ds = 0) : handE (shufF l ds) = 0 ∧ valF (shufF l ds) = valF l := by
  obtain ⟨hd, h5⟩ := handE_zero.1 h
  have hfit := (fitsF_iff (by omega)).1 hs
  obtain ⟨p1, p2, p3, -⟩ := cardsBack_plain hd hs
  have p5 : (shufF l ds).length = 5 := p3.trans h5
  refine ⟨handE_zero.2 ⟨p1, p5⟩, (val_congr (cntR_congr fun i => (shufGo_sum (oneAt i) hfit : ((shufF l ds).map (oneAt i)).sum = _)) ?_).2⟩
  show flushF (shufF l ds) = flushF l
  rw [Bool.eq_iff_iff, flushF_iff (l := shufF l ds) (by omega), flushF_iff (l := l) (by omega)]
  exact ⟨fun hh a ha b hb => hh a ((p2 a).2 ha) b ((p2 b).2 hb), fun hh a ha b hb => hh a ((p2 a).1 ha) b ((p2 b).1 hb)⟩

/-! The best five. -/
def OkP (n : Nat) (lo : Int) (r : List Int) : Prop := (∀ x ∈ r, lo ≤ x ∧ x < n) ∧ r.Pairwise (· < ·)
theorem updF_le (l pl : List Int) (st : Int × List Int) : st.1 ≤ (updF l pl st).1 ∧ valF (handOf l pl) ≤ (updF l pl st).1 := by
  unfold updF; split <;> (try simp only) <;> omega
theorem goF_mono (l : List Int) (d : Nat) : ∀ pl st, st.1 ≤ (goF l d pl st).1 := by
  induction d with
  | zero => intro pl st; exact Int.le_refl _
  | succ d ih =>
    intro pl st
    rw [goF_succ]
    refine Int.le_trans ?_ (ih _ _)
    unfold walkF
    split
    · exact (updF_le _ _ _).1
    · exact ih _ _
theorem walkF_mono (l : List Int) (d : Nat) (pl : List Int) (st : Int × List Int) : st.1 ≤ (walkF l d pl st).1 := by
  unfold walkF
  split
  · exact (updF_le _ _ _).1
  · exact goF_mono _ _ _ _
/-- Every choice is met. -/
theorem goF_all (l : List Int) (d : Nat) : d ≤ l.length → ∀ (pl r : List Int) st, pl.length + r.length = 5 → 0 < r.length → OkP l.length ((l.length - d : Nat) : Int) r → valF (handOf l (pl ++ r)) ≤ (goF l d pl st).1 := by
  induction d with
  | zero =>
    intro _ pl r st _ hr ⟨h1, _⟩
    match r, hr with
    | x :: r', _ => have := h1 x (by simp); omega
  | succ d ih =>
    intro hd pl r st h5 hr ⟨h1, h2⟩
    match r, hr with
    | x :: r', _ =>
      rw [goF_succ]
      obtain ⟨g1, g2⟩ := List.pairwise_cons.1 h2
      have hx := h1 x (by simp)
      by_cases hxi : x = ((l.length - (d + 1) : Nat) : Int)
      · refine Int.le_trans ?_ (goF_mono _ _ _ _)
        rw [← hxi]
        unfold walkF
        have hlen : (pl ++ [x]).length = pl.length + 1 := by simp
        have e : pl ++ x :: r' = (pl ++ [x]) ++ r' := by simp
        split
        · rename_i hl
          have : r' = [] := List.length_eq_zero_iff.mp (by simp at h5; omega)
          subst this
          exact (updF_le _ _ _).2
        · rename_i hl
          rw [e]
          refine ih (by omega) _ _ _ (by simp at h5 ⊢; omega) ?_ ⟨fun y hy => ?_, g2⟩
          · simp at h5; omega
          · have := g1 y hy
            have := h1 y (by simp [hy])
            omega
      · refine ih (by omega) _ _ _ h5 (by simp) ⟨fun y hy => ?_, h2⟩
        rcases List.mem_cons.1 hy with rfl | hy
        · omega
        · have := g1 y hy
          have := h1 y (by simp [hy])
          omega
/-- What is found is a choice. -/
def Good (l : List Int) (st : Int × List Int) : Prop := OkP l.length 0 st.2 ∧ st.2.length = 5 ∧ st.1 = valF (handOf l st.2)
theorem goF_good (l : List Int) (d : Nat) : d ≤ l.length → ∀ (pl : List Int) st, pl.length < 5 → OkP ((l.length - d : Nat)) 0 pl → (Good l st ∨ st = (-1, [])) → (Good l (goF l d pl st) ∨ goF l d pl st = (-1, [])) := by
  induction d with
  | zero => intro _ pl st _ _ h; exact h
  | succ d ih =>
    intro hd pl st hp ⟨h1, h2⟩ h
    rw [goF_succ]
    have hok : OkP ((l.length - d : Nat)) 0 (pl ++ [((l.length - (d + 1) : Nat) : Int)]) := by
      refine ⟨fun x hx => ?_, List.pairwise_append.2 ⟨h2, by simp, fun a ha b hb => ?_⟩⟩
      · rcases List.mem_append.1 hx with hx | hx
        · have := h1 x hx; omega
        · simp at hx; subst hx; omega
      · have := h1 a ha
        simp at hb; subst hb; omega
    refine ih (by omega) _ _ hp ⟨fun x hx => by have := h1 x hx; omega, h2⟩ ?_
    unfold walkF
    split
    · rename_i hl
      unfold updF
      split
      · exact .inl ⟨⟨fun x hx => by have := hok.1 x hx; omega, hok.2⟩, hl, rfl⟩
      · exact h
    · rename_i hl
      exact ih (by omega) _ _ (by simp at hl ⊢; omega) hok h
theorem okP_getD {n : Nat} {r : List Int} (h : OkP n 0 r) {i k : Nat} (hik : i < k) (hk : k < r.length) : r.getD i 0 < r.getD k 0 := by
  have := List.pairwise_iff_getElem.1 h.2 i k (by omega) hk hik
  simpa [List.getD, hk, show i < r.length by omega] using this
theorem bestF_good {l : List Int} (he : bestE l = 0) : Good l (bestF l) := by
  have h5 : 5 ≤ l.length := by
    unfold bestE at he
    split at he
    · omega
    · split at he <;> omega
  rcases goF_good l l.length (Nat.le_refl _) [] (-1, []) (by decide) ⟨fun x hx => by simp at hx, by simp⟩ (.inr rfl) with h | h
  · exact h
  · have hv := goF_all l l.length (Nat.le_refl _) [] [0, 1, 2, 3, 4] (-1, []) (by decide) (by decide) ⟨fun x hx => by simp at hx; omega, by decide⟩
    rw [h] at hv
    have := valF_bd (handOf l ([] ++ [0, 1, 2, 3, 4]))
    have := clsF_bd (handOf l ([] ++ [0, 1, 2, 3, 4]))
    simp only at hv
    omega
theorem bestF_hand {l : List Int} (he : bestE l = 0) : handE (handOf l (bestF l).2) = 0 := by
  obtain ⟨⟨h1, h2⟩, h3, h4⟩ := bestF_good he
  have hd : deckF l = 0 := by
    unfold bestE at he
    split at he
    · omega
    · omega
  obtain ⟨d1, d2, d3⟩ := deckF_iff.1 hd
  generalize (bestF l).2 = q at *
  have hlen : (handOf l q).length = 5 := by rw [handOf_length]; exact h3
  have hg : ∀ i, i < q.length → (handOf l q).getD i 0 = l.getD (q.getD i 0).toNat 0 := fun i hi => by simp [handOf, List.getD, hi]
  refine handE_zero.2 ⟨deckF_iff.2 ⟨by omega, fun c hc => ?_, fun i k hi hk e => ?_⟩, hlen⟩
  · simp only [handOf, List.mem_map] at hc
    obtain ⟨x, hx, rfl⟩ := hc
    have := h1 x hx
    exact d2 _ (getD_mem 0 (by omega))
  · rw [handOf_length] at hi hk
    rw [hg i hi, hg k hk] at e
    have a := h1 _ (getD_mem 0 hi)
    have b := h1 _ (getD_mem 0 hk)
    have e2 := d3 _ _ (by omega) (by omega) e
    rcases Nat.lt_trichotomy i k with h | h | h
    · have := okP_getD ⟨h1, h2⟩ h hk; omega
    · exact h
    · have := okP_getD ⟨h1, h2⟩ h hi; omega
/-- One card fewer. -/
theorem best_less {l : List Int} (he : bestE l = 0) : (bestE (l.take (l.length - 1)) = if l.length = 5 then 8 else 0) ∧ (l.length ≠ 5 → (bestF (l.take (l.length - 1))).1 ≤ (bestF l).1) := by
  have h := he
  unfold bestE at h
  have hd : deckF l = 0 ∧ 5 ≤ l.length ∧ l.length ≤ 9 := by
    split at h
    · omega
    · split at h
      · omega
      · split at h <;> omega
  obtain ⟨d1, d2, d3⟩ := deckF_iff.1 hd.1
  have htl : (l.take (l.length - 1)).length = l.length - 1 := by rw [List.length_take]; omega
  have hgt : ∀ i, i < l.length - 1 → (l.take (l.length - 1)).getD i 0 = l.getD i 0 := fun i hi => by simp [List.getD, List.getElem?_take, hi, show i < l.length by omega]
  have hdt : deckF (l.take (l.length - 1)) = 0 := by
    refine deckF_iff.2 ⟨by omega, fun c hc => d2 c (List.mem_of_mem_take hc), fun i k hi hk e => ?_⟩
    rw [htl] at hi hk
    rw [hgt i hi, hgt k hk] at e
    exact d3 i k (by omega) (by omega) e
  have hbe : bestE (l.take (l.length - 1)) = if l.length = 5 then 8 else 0 := by
    unfold bestE
    rw [if_neg (by omega), htl]
    by_cases h5 : l.length = 5
    · rw [if_pos (by omega), if_pos h5]
    · rw [if_neg (by omega), if_neg h5, if_neg (by omega)]
  refine ⟨hbe, fun h5 => ?_⟩
  rw [if_neg h5] at hbe
  obtain ⟨⟨g1, g2⟩, g3, g4⟩ := bestF_good hbe
  rw [htl] at g1
  rw [g4]
  generalize (bestF (l.take (l.length - 1))).2 = q at *
  have e : handOf (l.take (l.length - 1)) q = handOf l q := by
    unfold handOf
    refine List.map_congr_left (fun x hx => ?_)
    have := g1 x hx
    exact hgt _ (by omega)
  rw [e]
  exact goF_all l l.length (Nat.le_refl _) [] q (-1, []) (by simp; omega) (by omega) ⟨fun x hx => by have := g1 x hx; omega, g2⟩
end Go.Ax.Rk
