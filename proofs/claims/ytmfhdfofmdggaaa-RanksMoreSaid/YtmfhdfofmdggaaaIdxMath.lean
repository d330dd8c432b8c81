/-
  Numbers of placements: the multinomial law, and what it says of ranks.
-/
import Derived.Test.YtmfhdfofmdggaaaIdxPlain
set_option linter.unusedVariables false
set_option linter.unusedSimpArgs false
namespace Go.Ax.Idx

def ch : Nat → Nat → Int
  | _, 0 => 1
  | 0, _ + 1 => 0
  | n + 1, k + 1 => ch n k + ch n (k + 1)
theorem ch_zero (n : Nat) : ch n 0 = 1 := by cases n <;> rfl
theorem ch_mul : ∀ n k : Nat, ((n : Int) + 1) * ch n k = ch (n + 1) (k + 1) * (k + 1)
  | 0, 0 => by simp [ch]
  | 0, k + 1 => by simp [ch]
  | n + 1, 0 => by
    have := ch_mul n 0
    simp only [ch, ch_zero] at this ⊢
    simp only [Int.natCast_add, Int.cast_ofNat_Int, Int.natCast_zero, Int.zero_add, Int.mul_one] at this ⊢
    omega
  | n + 1, k + 1 => by
    have h1 := ch_mul n k
    have h2 := ch_mul n (k + 1)
    have e : ch (n + 1 + 1) (k + 1 + 1) = ch (n + 1) (k + 1) + ch (n + 1) (k + 1 + 1) := rfl
    have e2 : ch (n + 1) (k + 1) = ch n k + ch n (k + 1) := rfl
    rw [e]
    generalize ch (n + 1) (k + 1 + 1) = A at *
    generalize ch (n + 1) (k + 1) = B at *
    generalize ch n k = C at *
    generalize ch n (k + 1) = D at *
    simp only [Int.natCast_add, Int.cast_ofNat_Int] at *
    grind
theorem ch_fct : ∀ j n : Nat, ch (n + j) j * fct j * fct n = fct (n + j)
  | 0, n => by simp [ch_zero, fct]
  | j + 1, n => by
    have h1 := ch_fct j n
    have h2 := ch_mul (n + j) j
    have e : fct (n + (j + 1)) = (n + j + 1) * fct (n + j) := by
      rw [← Nat.add_assoc]; simp only [fct]; congr 1
    have e2 : fct (j + 1) = (j + 1) * fct j := rfl
    rw [e, e2, ← h1, ← Nat.add_assoc]
    have e3 : ((n + j : Nat) : Int) = n + j := by omega
    rw [e3] at h2
    generalize ch (n + j) j = A at *
    generalize ch (n + j + 1) (j + 1) = B at *
    grind

/-- One row of 'ways': the division leaves no rest. -/
theorem wrow_ch (o : Int) (n : Nat) : ∀ j : Nat, (List.range j).foldl wstep (o, (n : Int)) = (o * ch (n + j) j, ((n + j : Nat) : Int)) := by
  intro j
  induction j with
  | zero => simp [ch_zero]
  | succ j ih =>
    rw [List.range_succ, List.foldl_append, ih]
    simp only [List.foldl_cons, List.foldl_nil, wstep]
    have h2 := ch_mul (n + j) j
    have e : o * ch (n + j) j * (((n + j : Nat) : Int) + 1) = o * ch (n + (j + 1)) (j + 1) * (j + 1) := by
      rw [← Nat.add_assoc]
      generalize ch (n + j) j = A at *
      generalize ch (n + j + 1) (j + 1) = B at *
      grind
    rw [e, Int.mul_ediv_cancel _ (by omega)]
    congr 1

def wprod : List Int → Int
  | [] => 1
  | c :: r => fct c.toNat * wprod r
theorem wprod_pos : ∀ l, 0 < wprod l
  | [] => by simp [wprod]
  | c :: r => by
    have h1 := fct_pos c.toNat
    simp only [wprod]
    exact Int.mul_pos (by omega) (wprod_pos r)

theorem waysS_fct (l : List Int) (h0 : ∀ x ∈ l, 0 ≤ x) : ∀ (o : Int) (n : Nat), (l.foldl wrow (o, (n : Int))).1 * wprod l * fct n = o * fct (n + l.sum.toNat) := by
  induction l with
  | nil => intro o n; simp [wprod]
  | cons c r ih =>
    intro o n
    have hc := h0 c (by simp)
    have hr := sum_nonneg r (fun x hx => h0 x (by simp [hx]))
    simp only [List.foldl_cons, List.sum_cons, wprod]
    unfold wrow
    rw [wrow_ch]
    have h1 := ih (fun x hx => h0 x (by simp [hx])) (o * ch (n + c.toNat) c.toNat) (n + c.toNat)
    have h2 := ch_fct c.toNat n
    have e : n + (c + r.sum).toNat = n + c.toNat + r.sum.toNat := by omega
    rw [e]
    change (List.foldl wrow (o * ch (n + c.toNat) c.toNat, ((n + c.toNat : Nat) : Int)) r).1 * (fct c.toNat * wprod r) * fct n = _
    have h3 := fct_pos (n + c.toNat)
    generalize (List.foldl wrow (o * ch (n + c.toNat) c.toNat, ((n + c.toNat : Nat) : Int)) r).1 = A at *
    generalize ch (n + c.toNat) c.toNat = B at *
    generalize fct (n + c.toNat) = C at *
    generalize fct (n + c.toNat + r.sum.toNat) = D at *
    generalize fct n = E at *
    generalize fct c.toNat = F at *
    generalize wprod r = G at *
    -- A*G*C = o*B*D, B*F*E = C ⊢ A*(F*G)*E = o*D
    have h5 : (A * (F * G) * E) * C = (o * D) * C := by
      have : A * (F * G) * E * C = (A * G * C) * (F * E) := by grind
      rw [this, h1]
      have : o * B * D * (F * E) = o * D * (B * F * E) := by grind
      rw [this, h2]
    exact Int.eq_of_mul_eq_mul_right (by omega) h5
theorem waysF_fct (l : List Int) (h0 : ∀ x ∈ l, 0 ≤ x) : waysF l * wprod l = fct l.sum.toNat := by
  have := waysS_fct l h0 1 0
  simp only [fct, Int.mul_one, Int.one_mul, Nat.zero_add] at this
  exact this

theorem wprod_set (l : List Int) (i : Nat) (v : Int) (hi : i < l.length) : wprod (l.set i v) * fct (l.getD i 0).toNat = wprod l * fct v.toNat := by
  induction l generalizing i with
  | nil => simp at hi
  | cons x r ih =>
    cases i with
    | zero => simp only [List.set_cons_zero, wprod, List.getD_cons_zero]; grind
    | succ i =>
      simp only [List.set_cons_succ, wprod, List.getD_cons_succ]
      have := ih i (by simpa using hi)
      grind
theorem less_fct (l : List Int) (h0 : ∀ x ∈ l, 0 ≤ x) (i : Nat) (hi : 0 < l.getD i 0) : waysF (less l i) * wprod l = fct (l.sum.toNat - 1) * l.getD i 0 := by
  obtain ⟨a, b, c, d⟩ := less_ok h0 hi
  have h1 := waysF_fct _ a
  rw [b] at h1
  have h2 := wprod_set l i (l.getD i 0 - 1) d
  have e : fct (l.getD i 0).toNat = l.getD i 0 * fct (l.getD i 0 - 1).toNat := by
    have : (l.getD i 0).toNat = (l.getD i 0 - 1).toNat + 1 := by omega
    rw [this]; simp only [fct]
    congr 1; omega
  rw [e] at h2
  change wprod (less l i) * _ = _ at h2
  have hp := fct_pos (l.getD i 0 - 1).toNat
  have h3 : wprod l = wprod (less l i) * l.getD i 0 := by
    have : wprod l * fct (l.getD i 0 - 1).toNat = (wprod (less l i) * l.getD i 0) * fct (l.getD i 0 - 1).toNat := by rw [← h2]; grind
    exact Int.eq_of_mul_eq_mul_right (by omega) this
  rw [h3, ← Int.mul_assoc, h1]
  congr 2
  omega
theorem rrow_fct (l : List Int) (h0 : ∀ x ∈ l, 0 ≤ x) : ∀ c, c ≤ l.length → rrow l c * wprod l = fct (l.sum.toNat - 1) * (l.take c).sum := by
  intro c
  induction c with
  | zero => intro _; simp [rrow]
  | succ c ih =>
    intro hc
    rw [rrow_succ, sum_take_succ l c (by omega), Int.add_mul, Int.mul_add, ih (by omega)]
    congr 1
    have hx := h0 _ (getD_mem 0 (by omega : c < l.length))
    split
    · rename_i h; exact less_fct l h0 c h
    · rename_i h
      have : l.getD c 0 = 0 := by omega
      rw [this]; simp
/-- The multinomial law. -/
theorem rrow_all (l : List Int) (h0 : ∀ x ∈ l, 0 ≤ x) (hs : 0 < l.sum) : rrow l l.length = waysF l := by
  have h1 := rrow_fct l h0 l.length (Nat.le_refl _)
  rw [List.take_length] at h1
  have h2 := waysF_fct l h0
  have e : fct l.sum.toNat = fct (l.sum.toNat - 1) * l.sum := by
    have : l.sum.toNat = (l.sum.toNat - 1) + 1 := by omega
    rw [this]; simp only [fct, Nat.add_sub_cancel]
    rw [Int.mul_comm]; congr 1; omega
  have hp := wprod_pos l
  refine Int.eq_of_mul_eq_mul_right (b := rrow l l.length) (a := wprod l) (by omega) ?_
  rw [h1, h2, e]
theorem waysF_nonneg (l : List Int) (h0 : ∀ x ∈ l, 0 ≤ x) : 0 ≤ waysF l := by
  have h1 := waysF_fct l h0
  have hp := wprod_pos l
  have hf := fct_pos l.sum.toNat
  rcases Int.lt_or_le (waysF l) 0 with h | h
  · have : waysF l * wprod l < 0 := Int.mul_neg_of_neg_of_pos h hp
    omega
  · exact h
theorem rrow_mono (l : List Int) (h0 : ∀ x ∈ l, 0 ≤ x) (a d : Nat) : rrow l a ≤ rrow l (a + d) := by
  induction d with
  | zero => exact Int.le_refl _
  | succ d ih =>
    rw [← Nat.add_assoc, rrow_succ]
    split
    · rename_i h
      have := waysF_nonneg _ (less_ok h0 h).1
      omega
    · omega
theorem cnt_pos (x : Int) (r : List Int) (h0 : 0 ≤ x) (h6 : x ≤ 6) : 0 < (cnt (x :: r)).getD x.toNat 0 := by
  rw [cnt_getD _ _ (by omega)]
  have : ((x.toNat : Nat) : Int) = x := by omega
  rw [this, List.count_cons_self]; omega
theorem less_cnt (x : Int) (r : List Int) (h0 : 0 ≤ x) (h6 : x ≤ 6) : less (cnt (x :: r)) x.toNat = cnt r := (cnt_cons r x h0 h6).symm
theorem rrow_cnt (x : Int) (r : List Int) (h0 : 0 ≤ x) (h6 : x ≤ 6) : rrow (cnt (x :: r)) (x.toNat + 1) = rrow (cnt (x :: r)) x.toNat + waysF (cnt r) := by
  rw [rrow_succ, if_pos (cnt_pos x r h0 h6), less_cnt x r h0 h6]
theorem rrow_cnt_all (x : Int) (r : List Int) (h : ∀ y ∈ x :: r, 0 ≤ y ∧ y ≤ 6) : rrow (cnt (x :: r)) 7 = waysF (cnt (x :: r)) := by
  have := rrow_all (cnt (x :: r)) (cnt_nonneg _) (by rw [cnt_sum _ h]; simp)
  rwa [cnt_length] at this
theorem waysF_nil : waysF (cnt []) = 1 := by rw [cnt_nil]; decide
theorem rankF_nonneg (l : List Int) (h : ∀ x ∈ l, 0 ≤ x ∧ x ≤ 6) : 0 ≤ rankF l := by
  induction l with
  | nil => simp [rankF]
  | cons x r ih =>
    have h1 := ih (fun y hy => h y (by simp [hy]))
    have h2 := rrow_mono (cnt (x :: r)) (cnt_nonneg _) 0 x.toNat
    have h3 : rrow (cnt (x :: r)) 0 = 0 := by simp [rrow]
    rw [Nat.zero_add] at h2
    simp only [rankF]; omega
theorem rankF_lt (l : List Int) (h : ∀ x ∈ l, 0 ≤ x ∧ x ≤ 6) : rankF l < waysF (cnt l) := by
  induction l with
  | nil => rw [waysF_nil]; simp [rankF]
  | cons x r ih =>
    have hx := h x (by simp)
    have h1 := ih (fun y hy => h y (by simp [hy]))
    have h2 := rrow_cnt x r hx.1 hx.2
    have h3 := rrow_mono (cnt (x :: r)) (cnt_nonneg _) (x.toNat + 1) (6 - x.toNat)
    rw [show x.toNat + 1 + (6 - x.toNat) = 7 by omega, rrow_cnt_all x r h] at h3
    simp only [rankF]; omega

/-- Lexicographic order of placements of the same counts. -/
theorem rankF_lt_of_head (x y : Int) (r s : List Int) (h : ∀ z ∈ x :: r, 0 ≤ z ∧ z ≤ 6) (h' : ∀ z ∈ y :: s, 0 ≤ z ∧ z ≤ 6) (hc : cnt (x :: r) = cnt (y :: s)) (hxy : x < y) : rankF (x :: r) < rankF (y :: s) := by
  have hx := h x (by simp)
  have hy := h' y (by simp)
  have h1 := rankF_lt r (fun z hz => h z (by simp [hz]))
  have h2 := rrow_cnt x r hx.1 hx.2
  have h3 := rrow_mono (cnt (x :: r)) (cnt_nonneg _) (x.toNat + 1) (y.toNat - (x.toNat + 1))
  rw [show x.toNat + 1 + (y.toNat - (x.toNat + 1)) = y.toNat by omega] at h3
  have h4 := rankF_nonneg s (fun z hz => h' z (by simp [hz]))
  simp only [rankF]
  rw [← hc]; omega
theorem cnt_tail (x : Int) (r s : List Int) (h0 : 0 ≤ x) (h6 : x ≤ 6) (hc : cnt (x :: r) = cnt (x :: s)) : cnt r = cnt s := by
  rw [← less_cnt x r h0 h6, ← less_cnt x s h0 h6, hc]
/-- A list in falling order is the last of its counts. -/
theorem rankF_falls (l : List Int) (h : ∀ x ∈ l, 0 ≤ x ∧ x ≤ 6) (hd : l.Pairwise (fun a b => b ≤ a)) : rankF l = waysF (cnt l) - 1 := by
  induction l with
  | nil => rw [waysF_nil]; simp [rankF]
  | cons x r ih =>
    have hx := h x (by simp)
    rw [List.pairwise_cons] at hd
    have h1 := ih (fun y hy => h y (by simp [hy])) hd.2
    have h2 := rrow_cnt x r hx.1 hx.2
    have key : ∀ d, x.toNat + 1 + d ≤ 7 → rrow (cnt (x :: r)) (x.toNat + 1 + d) = rrow (cnt (x :: r)) (x.toNat + 1) := by
      intro d
      induction d with
      | zero => intro _; rfl
      | succ d ih2 =>
        intro hd7
        rw [← Nat.add_assoc, rrow_succ, ih2 (by omega), if_neg, Int.add_zero]
        rw [cnt_getD _ _ (by omega)]
        have : List.count (((x.toNat + 1 + d : Nat)) : Int) (x :: r) = 0 := by
          rw [List.count_eq_zero]
          intro hm
          rcases List.mem_cons.mp hm with e | e
          · omega
          · have := hd.1 _ e; omega
        rw [this]; simp
    have h3 := key (6 - x.toNat) (by omega)
    rw [show x.toNat + 1 + (6 - x.toNat) = 7 by omega, rrow_cnt_all x r h] at h3
    simp only [rankF]; omega
theorem rrow_gap (l m : List Int) (hm : l = cnt m) (a d : Nat) (h : ∀ z ∈ m, ¬ ((a : Int) ≤ z ∧ z < a + d)) (h7 : a + d ≤ 7) : rrow l (a + d) = rrow l a := by
  induction d with
  | zero => rfl
  | succ d ih =>
    rw [← Nat.add_assoc, rrow_succ, ih (fun z hz hh => h z hz (by omega)) (by omega), if_neg, Int.add_zero]
    rw [hm, cnt_getD _ _ (by omega)]
    have : List.count (((a + d : Nat)) : Int) m = 0 := by
      rw [List.count_eq_zero]
      intro hm
      exact h _ hm (by omega)
    rw [this]; simp
/-- A list in rising order is the first. -/
theorem rankF_rises (l : List Int) (h : ∀ x ∈ l, 0 ≤ x ∧ x ≤ 6) (hd : l.Pairwise (fun a b => a ≤ b)) : rankF l = 0 := by
  induction l with
  | nil => rfl
  | cons x r ih =>
    have hx := h x (by simp)
    rw [List.pairwise_cons] at hd
    have h1 := ih (fun y hy => h y (by simp [hy])) hd.2
    have h2 := rrow_gap (cnt (x :: r)) (x :: r) rfl 0 x.toNat (fun z hz => by
      rcases List.mem_cons.mp hz with e | e
      · omega
      · have := hd.1 _ e; omega) (by omega)
    rw [Nat.zero_add] at h2
    have h3 : rrow (cnt (x :: r)) 0 = 0 := by simp [rrow]
    simp only [rankF]; omega
/-- The step to the next: a smaller head and the last of its tails, a next head and the first. -/
theorem rankF_next (x y : Int) (r s : List Int) (h : ∀ z ∈ x :: r, 0 ≤ z ∧ z ≤ 6) (h' : ∀ z ∈ y :: s, 0 ≤ z ∧ z ≤ 6) (hc : cnt (x :: r) = cnt (y :: s)) (hxy : x < y)
    (hgap : ∀ z ∈ x :: r, ¬ (x < z ∧ z < y)) (hr : r.Pairwise (fun a b => b ≤ a)) (hs : s.Pairwise (fun a b => a ≤ b)) : rankF (y :: s) = rankF (x :: r) + 1 := by
  have hx := h x (by simp)
  have hy := h' y (by simp)
  have h1 := rankF_falls r (fun z hz => h z (by simp [hz])) hr
  have h2 := rankF_rises s (fun z hz => h' z (by simp [hz])) hs
  have h3 := rrow_cnt x r hx.1 hx.2
  have h4 := rrow_gap (cnt (x :: r)) (x :: r) rfl (x.toNat + 1) (y.toNat - (x.toNat + 1)) (fun z hz hh => hgap z hz (by omega)) (by omega)
  rw [show x.toNat + 1 + (y.toNat - (x.toNat + 1)) = y.toNat by omega] at h4
  simp only [rankF]
  rw [← hc]; omega
theorem cnt_perm {l m : List Int} (h : l.Perm m) : cnt l = cnt m := by
  refine list_ext7 (cnt_length _) (cnt_length _) (fun i hi => ?_)
  rw [cnt_getD _ _ hi, cnt_getD _ _ hi, h.count_eq]
theorem rankF_prefix (p l m : List Int) (h : cnt l = cnt m) (d : Int) (hr : rankF m = rankF l + d) (hpl : ∀ q : List Int, cnt (q ++ l) = cnt (q ++ m)) : rankF (p ++ m) = rankF (p ++ l) + d := by
  induction p with
  | nil => exact hr
  | cons x p ih =>
    simp only [List.cons_append, rankF]
    have := hpl (x :: p)
    simp only [List.cons_append] at this
    rw [this, ih]; omega
end Go.Ax.Idx
