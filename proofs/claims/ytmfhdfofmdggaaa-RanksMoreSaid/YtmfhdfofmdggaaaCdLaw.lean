/-
  The laws of decks, in plain Lean: shuffling and its draws. No program in sight.
-/
import Derived.Test.YtmfhdfofmdggaaaCdStr
set_option linter.unusedVariables false
set_option linter.unusedSimpArgs false
namespace Go.Ax.Cd
open Go.Ax.Idx

def Inj (l : List Int) : Prop := ∀ i j, i < l.length → j < l.length → l.getD i 0 = l.getD j 0 → i = j
theorem Inj.cons {x : Int} {r : List Int} : Inj (x :: r) ↔ x ∉ r ∧ Inj r := by
  constructor
  · intro h
    refine ⟨fun hx => ?_, fun i j hi hj e => ?_⟩
    · obtain ⟨i, hi, e⟩ := List.getElem_of_mem hx
      have := h 0 (i + 1) (by simp) (by simpa using hi) (by simp [List.getD, hi, e])
      omega
    · have := h (i + 1) (j + 1) (by simpa using hi) (by simpa using hj) (by simpa using e)
      omega
  · rintro ⟨hx, h⟩ i j hi hj e
    cases i with
    | zero => cases j with
      | zero => rfl
      | succ j =>
        exfalso; apply hx
        simp only [List.getD_cons_zero, List.getD_cons_succ] at e
        rw [e]; exact getD_mem 0 (by simpa using hj)
    | succ i => cases j with
      | zero =>
        exfalso; apply hx
        simp only [List.getD_cons_zero, List.getD_cons_succ] at e
        rw [← e]; exact getD_mem 0 (by simpa using hi)
      | succ j =>
        have := h i j (by simpa using hi) (by simpa using hj) (by simpa using e)
        omega
theorem deckGo_iff {seen l : List Int} : deckGo seen l = 0 ↔ (∀ c ∈ l, 0 ≤ c ∧ c < 52) ∧ (∀ c ∈ l, c ∉ seen) ∧ Inj l := by
  induction l generalizing seen with
  | nil => simp [deckGo, Inj]
  | cons x r ih =>
    rw [deckGo, Inj.cons]
    by_cases h1 : x < 0 ∨ 52 ≤ x
    · rw [if_pos h1]
      constructor
      · intro h; omega
      · rintro ⟨h, _⟩; have := h x (by simp); omega
    · rw [if_neg h1]
      by_cases h2 : seen.any (eqp x) = true
      · rw [if_pos h2]
        constructor
        · intro h; omega
        · rintro ⟨_, h, _⟩; exact absurd (any_eqp.1 h2) (h x (by simp))
      · rw [if_neg h2, ih]
        have h3 : x ∉ seen := fun h => h2 (any_eqp.2 h)
        constructor
        · rintro ⟨a, b, c⟩
          refine ⟨fun y hy => ?_, fun y hy => ?_, fun hx => ?_, c⟩
          · rcases List.mem_cons.1 hy with rfl | hy
            · omega
            · exact a y hy
          · rcases List.mem_cons.1 hy with rfl | hy
            · exact h3
            · exact fun hs => b y hy (List.mem_append_left _ hs)
          · exact b x hx (by simp)
        · rintro ⟨a, b, d, e⟩
          refine ⟨fun y hy => a y (by simp [hy]), fun y hy hs => ?_, e⟩
          rcases List.mem_append.1 hs with hs | hs
          · exact b y (by simp [hy]) hs
          · have : y = x := by simpa using hs
            subst this; exact d hy
theorem deckF_iff {l : List Int} : deckF l = 0 ↔ l.length ≤ 52 ∧ (∀ c ∈ l, 0 ≤ c ∧ c < 52) ∧ Inj l := by
  unfold deckF
  by_cases h : 52 < l.length
  · rw [if_pos h]; constructor
    · intro h; omega
    · rintro ⟨h, _⟩; omega
  · rw [if_neg h, deckGo_iff]
    constructor
    · rintro ⟨a, _, c⟩; exact ⟨by omega, a, c⟩
    · rintro ⟨_, a, c⟩; exact ⟨a, fun _ _ h => by simp at h, c⟩
theorem getD_swapF {l : List Int} {i k j : Nat} (hi : i < l.length) (hk : k < l.length) : (swapF l i k).getD j 0 = l.getD (if j = k then i else if j = i then k else j) 0 := by
  unfold swapF
  by_cases h1 : j = k
  · subst h1
    rw [if_pos rfl]; simp [List.getD, hk]
  · have h1' : ¬ k = j := fun e => h1 e.symm
    rw [if_neg h1]
    by_cases h2 : j = i
    · subst h2
      rw [if_pos rfl]; simp [List.getD, h1', hi]
    · have h2' : ¬ i = j := fun e => h2 e.symm
      rw [if_neg h2]; simp [List.getD, List.getElem?_set, h1', h2']
theorem Inj.swap {l : List Int} (h : Inj l) {i k : Nat} (hi : i < l.length) (hk : k < l.length) : Inj (swapF l i k) := by
  intro p q hp hq e
  rw [swapF_length] at hp hq
  rw [getD_swapF hi hk, getD_swapF hi hk] at e
  have := h _ _ (by split <;> (try split) <;> omega) (by split <;> (try split) <;> omega) e
  split at this <;> split at this <;> (try split at this) <;> (try split at this) <;> omega
theorem Inj.idx {l : List Int} (h : Inj l) {d : Nat} (hd : d < l.length) : idxF (eqp (l.getD d 0)) l = d := by
  induction l generalizing d with
  | nil => simp at hd
  | cons x r ih =>
    obtain ⟨hx, hr⟩ := Inj.cons.1 h
    cases d with
    | zero => simp [idxF, eqp]
    | succ d =>
      have hd' : d < r.length := by simpa using hd
      have hm := getD_mem 0 hd' (l := r)
      have hne : ¬ (eqp (r.getD d 0) x = true) := by
        simp only [eqp, decide_eq_true_eq]
        intro e; exact hx (e ▸ hm)
      simp only [List.getD_cons_succ, idxF, if_neg hne]
      rw [ih hr hd', if_neg (by omega)]; omega
/-- What a step of the shuffle may be. -/
def Fit (n j : Nat) (ds : List Int) : Prop := ds.length + j + 1 = n ∧ ∀ i, i < ds.length → 0 ≤ ds.getD i 0 ∧ ds.getD i 0 ≤ n - 1 - (j + i : Nat)
theorem Fit.cons {n j : Nat} {d : Int} {r : List Int} (h : Fit n j (d :: r)) : (0 ≤ d ∧ d ≤ n - 1 - j) ∧ Fit n (j + 1) r ∧ j + 1 < n := by
  obtain ⟨h1, h2⟩ := h
  have h0 := h2 0 (by simp)
  refine ⟨by simpa using h0, ⟨by simp at h1; omega, fun i hi => ?_⟩, by simp at h1; omega⟩
  have := h2 (i + 1) (by simpa using hi)
  simp only [List.getD_cons_succ] at this
  rw [show j + 1 + i = j + (i + 1) by omega]; exact this
theorem shufGo_keeps {l : List Int} {j : Nat} {ds : List Int} (h : Fit l.length j ds) : (Inj l → Inj (shufGo l j ds)) ∧ (∀ c, c ∈ shufGo l j ds ↔ c ∈ l) ∧ ∀ p, l.length - 1 - j < p → p < l.length → (shufGo l j ds).getD p 0 = l.getD p 0 := by
  induction ds generalizing l j with
  | nil => exact ⟨id, fun _ => Iff.rfl, fun _ _ _ => rfl⟩
  | cons d r ih =>
    obtain ⟨h1, h2, h3⟩ := h.cons
    have hi : l.length - 1 - j < l.length := by omega
    have hk : d.toNat < l.length := by omega
    have hl := swapF_length l (l.length - 1 - j) d.toNat
    rw [← hl] at h2
    obtain ⟨a, b, c⟩ := ih h2
    rw [hl] at c
    refine ⟨fun hI => a (hI.swap hi hk), fun x => (b x).trans (mem_swapF hi hk x), fun p hp hp2 => ?_⟩
    rw [shufGo, c p (by omega) hp2, getD_swapF hi hk, if_neg (by omega), if_neg (by omega)]
/-- The draws of a shuffle are read off the two decks. -/
theorem draws_shuf {l : List Int} (hI : Inj l) {j : Nat} {ds : List Int} (h : Fit l.length j ds) : drawsGo (shufGo l j ds) (l.length - 1 - j) l = ds := by
  induction ds generalizing l j with
  | nil =>
    have : l.length - 1 - j = 0 := by have := h.1; simp at this; omega
    rw [this]; rfl
  | cons d r ih =>
    obtain ⟨h1, h2, h3⟩ := h.cons
    have hi : l.length - 1 - j < l.length := by omega
    have hk : d.toNat < l.length := by omega
    have hl := swapF_length l (l.length - 1 - j) d.toNat
    obtain ⟨q, hq⟩ : ∃ q, l.length - 1 - j = q + 1 := ⟨l.length - 1 - j - 1, by omega⟩
    have h2' := h2
    rw [← hl] at h2'
    have hsi := hI.swap hi hk
    have hkeep := (shufGo_keeps h2').2.2 (q + 1) (by rw [hl]; omega) (by rw [hl]; omega)
    have hv : (shufGo (swapF l (l.length - 1 - j) d.toNat) (j + 1) r).getD (q + 1) 0 = l.getD d.toNat 0 := by
      rw [hkeep, hq, getD_swapF (by omega) hk]
      by_cases hz : q + 1 = d.toNat
      · rw [if_pos hz, hz]
      · rw [if_neg hz, if_pos rfl]
    have hrec := ih hsi h2'
    rw [hl, show l.length - 1 - (j + 1) = q by omega] at hrec
    rw [shufGo]
    rw [hq] at hv hrec ⊢
    rw [drawsGo, hv, hI.idx hk]
    rw [show ((d.toNat : Nat) : Int).toNat = d.toNat by omega, hrec, show ((d.toNat : Nat) : Int) = d by omega]
/-- The draws between two decks lead from one to the other. -/
theorem shuf_draws {to : List Int} (hT : Inj to) : ∀ (i : Nat) (now : List Int), Inj now → now.length = to.length → i < to.length → (∀ c ∈ to, c ∈ now) → (∀ p, i < p → p < to.length → now.getD p 0 = to.getD p 0) →
    shufGo now (to.length - 1 - i) (drawsGo to i now) = to ∧ Fit to.length (to.length - 1 - i) (drawsGo to i now) := by
  intro i
  induction i with
  | zero =>
    intro now hN hl hi hm hp
    refine ⟨?_, by simp [drawsGo, Fit]; omega⟩
    have h0 : now.getD 0 0 = to.getD 0 0 := by
      have hmem := hm _ (getD_mem 0 hi)
      obtain ⟨p, hpl, e⟩ := List.getElem_of_mem hmem
      have e' : now.getD p 0 = to.getD 0 0 := by rw [getD_lt 0 hpl, e]
      by_cases hp0 : p = 0
      · subst hp0; exact e'
      · have := hp p (by omega) (by omega)
        have := hT p 0 (by omega) hi (by rw [← this, e'])
        omega
    show now = to
    apply List.ext_getElem hl
    intro p h1 h2
    have : now.getD p 0 = to.getD p 0 := by
      by_cases hp0 : p = 0
      · subst hp0; exact h0
      · exact hp p (by omega) h2
    rwa [getD_lt 0 h1, getD_lt 0 h2] at this
  | succ i ih =>
    intro now hN hl hi hm hp
    have hmem := hm _ (getD_mem 0 hi)
    have hix := idxF_lt hmem
    have hval : now.getD (idxF (eqp (to.getD (i + 1) 0)) now).toNat 0 = to.getD (i + 1) 0 := by
      obtain ⟨p, hpl, e⟩ := List.getElem_of_mem hmem
      have e' : now.getD p 0 = to.getD (i + 1) 0 := by rw [getD_lt 0 hpl, e]
      rw [← e', hN.idx hpl]; simp
    generalize hd : idxF (eqp (to.getD (i + 1) 0)) now = d at *
    have hdi : d.toNat ≤ i + 1 := by
      rcases Nat.lt_or_ge (i + 1) d.toNat with h | h
      · have h1 := hp d.toNat h (by omega)
        have := hT d.toNat (i + 1) (by omega) hi (by rw [← h1, hval])
        omega
      · exact h
    have hk : d.toNat < now.length := by omega
    have hi' : i + 1 < now.length := by omega
    have hs := ih (swapF now (i + 1) d.toNat) (hN.swap hi' hk) (by rw [swapF_length]; exact hl) (by omega) (fun c hc => (mem_swapF hi' hk c).2 (hm c hc)) (fun p h1 h2 => by
      rw [getD_swapF hi' hk]
      by_cases e1 : p = d.toNat
      · have : p = i + 1 := by omega
        rw [if_pos e1, this, ← hval]
        congr 1; omega
      · rw [if_neg e1]
        by_cases e2 : p = i + 1
        · rw [if_pos e2, hval, e2]
        · rw [if_neg e2]; exact hp p (by omega) h2)
    have hn : to.length - 1 - i = to.length - 1 - (i + 1) + 1 := by omega
    rw [hn] at hs
    rw [drawsGo, hd]
    refine ⟨?_, ?_, ?_⟩
    · rw [shufGo, hl, show to.length - 1 - (to.length - 1 - (i + 1)) = i + 1 by omega]
      exact hs.1
    · have := hs.2.1; simp; omega
    · intro j hj
      cases j with
      | zero => simp; omega
      | succ j =>
        have := hs.2.2 j (by simpa using hj)
        simp only [List.getD_cons_succ]
        rw [show to.length - 1 - (i + 1) + (j + 1) = to.length - 1 - (i + 1) + 1 + j by omega]
        exact this
end Go.Ax.Cd
namespace Go.Ax.Cd
open Go.Ax.Idx
theorem fitsGo_iff {n : Int} {j : Nat} {l : List Int} : fitsGo n j l = 0 ↔ ∀ i, i < l.length → 0 ≤ l.getD i 0 ∧ l.getD i 0 ≤ n - 1 - (j + i : Nat) := by
  refine ⟨fitsGo_zero j, fun h => ?_⟩
  induction l generalizing j with
  | nil => rfl
  | cons d r ih =>
    have h0 := h 0 (by simp)
    simp only [List.getD_cons_zero, Nat.add_zero] at h0
    rw [fitsGo, if_neg (by omega)]
    refine ih (fun i hi => ?_)
    have := h (i + 1) (by simpa using hi)
    simp only [List.getD_cons_succ] at this
    rw [show j + 1 + i = j + (i + 1) by omega]; exact this
theorem fitsF_iff {n : Nat} {ds : List Int} (hn : 0 < n) : fitsF n ds = 0 ↔ Fit n 0 ds := by
  unfold fitsF Fit
  have e : (if (1 : Int) > n then 1 else (n : Int)) = n := by rw [if_neg (by omega)]
  rw [e]
  by_cases h : (ds.length : Int) ≠ (n : Int) - 1
  · rw [if_pos h]
    constructor
    · intro h; omega
    · rintro ⟨a, _⟩; omega
  · rw [if_neg h, fitsGo_iff]
    constructor
    · intro a; exact ⟨by omega, a⟩
    · rintro ⟨_, a⟩; exact a
theorem fits0 {ds : List Int} : fitsF 0 ds = 0 ↔ ds = [] := by
  unfold fitsF
  have e : (if (1 : Int) > 0 then (1 : Int) else 0) = 1 := rfl
  rw [e]
  constructor
  · intro h
    by_cases h1 : (ds.length : Int) ≠ 1 - 1
    · rw [if_pos h1] at h; omega
    · exact List.length_eq_zero_iff.mp (by omega)
  · rintro rfl; rfl
/-- What CardsBack asks. -/
theorem cardsBack_plain {l ds : List Int} (hd : deckF l = 0) (hf : fitsF l.length ds = 0) :
    deckF (shufF l ds) = 0 ∧ (∀ c, c ∈ shufF l ds ↔ c ∈ l) ∧ (shufF l ds).length = l.length ∧ drawsF l (shufF l ds) = ds ∧ fitsF l.length (drawsF (shufF l ds) l) = 0 ∧ shufF (shufF l ds) (drawsF (shufF l ds) l) = l := by
  obtain ⟨d1, d2, d3⟩ := deckF_iff.1 hd
  have hlen : (shufF l ds).length = l.length := shufGo_length _ _ _
  rcases Nat.eq_zero_or_pos l.length with h0 | hpos
  · have hl : l = [] := List.length_eq_zero_iff.mp h0
    subst hl
    have : ds = [] := fits0.1 hf
    subst this
    exact ⟨rfl, fun _ => Iff.rfl, rfl, rfl, rfl, rfl⟩
  · have hfit := (fitsF_iff hpos).1 hf
    obtain ⟨k1, k2, k3⟩ := shufGo_keeps hfit
    have hI := k1 d3
    refine ⟨deckF_iff.2 ⟨by rw [hlen]; exact d1, fun c hc => d2 c ((k2 c).1 hc), hI⟩, k2, hlen, ?_, ?_⟩
    · have := draws_shuf d3 hfit
      rwa [Nat.sub_zero] at this
    · have hs := shuf_draws d3 (l.length - 1) (shufF l ds) hI hlen (by omega) (fun c hc => (k2 c).2 hc) (fun p h1 h2 => by omega)
      rw [show l.length - 1 - (l.length - 1) = 0 by omega] at hs
      unfold drawsF
      rw [hlen]
      exact ⟨(fitsF_iff hpos).2 hs.2, hs.1⟩
end Go.Ax.Cd
