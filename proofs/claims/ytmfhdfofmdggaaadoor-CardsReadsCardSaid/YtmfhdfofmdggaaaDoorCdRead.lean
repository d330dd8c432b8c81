/-
  Texts of decks, in plain Lean: written and read. No program in sight.
-/
import Derived.Test.YtmfhdfofmdggaaaDoorCdLaw
set_option linter.unusedVariables false
set_option linter.unusedSimpArgs false
namespace Go.Ax.Cd
open Go.Ax.Idx

theorem join_cons2 (y : List UInt8) (q : List (List UInt8)) (b : UInt8) : Lib.joinTail [b] (y :: q) = b :: Lib.join (y :: q) [b] := by
  rw [Lib.join_cons]; simp [Lib.joinTail]
theorem join_split (b : UInt8) (s : List UInt8) : Lib.join (splitF b s) [b] = s := by
  induction s with
  | nil => rw [splitF, Lib.join_one]
  | cons x r ih =>
    simp only [splitF]
    cases hq : splitF b r with
    | nil => exact absurd hq (splitF_ne b r)
    | cons y q =>
      rw [hq] at ih
      by_cases h : x = b
      · rw [if_pos h, Lib.join_cons, join_cons2, ih, h]; rfl
      · rw [if_neg h]
        simp only
        rw [Lib.join_cons] at ih ⊢
        rw [List.cons_append, ih]
theorem splitF_word (b : UInt8) (w s : List UInt8) (h : b ∉ w) : splitF b (w ++ b :: s) = w :: splitF b s := by
  induction w with
  | nil => simp [splitF]
  | cons x r ih =>
    have hx : ¬ x = b := fun e => h (by simp [e])
    have := ih (fun hm => h (by simp [hm]))
    simp only [List.cons_append, splitF, hx, if_false, this]
theorem splitF_last (b : UInt8) (w : List UInt8) (h : b ∉ w) : splitF b w = [w] := by
  induction w with
  | nil => rfl
  | cons x r ih =>
    have hx : ¬ x = b := fun e => h (by simp [e])
    have := ih (fun hm => h (by simp [hm]))
    simp only [splitF, hx, if_false, this]
theorem split_join (b : UInt8) (ls : List (List UInt8)) (hne : ls ≠ []) (h : ∀ w ∈ ls, b ∉ w) : splitF b (Lib.join ls [b]) = ls := by
  induction ls with
  | nil => exact absurd rfl hne
  | cons x r ih =>
    rw [Lib.join_cons]
    cases r with
    | nil =>
      have : Lib.joinTail [b] [] = [] := rfl
      rw [this, List.append_nil]; exact splitF_last b x (h x (by simp))
    | cons y q =>
      rw [join_cons2, splitF_word b x _ (h x (by simp)), ih (by simp) (fun w hw => h w (by simp [hw]))]
theorem indexByte_getD {l : List UInt8} {b : UInt8} (h : 0 ≤ Lib.indexByte l b) : l.getD (Lib.indexByte l b).toNat 0 = b := by
  induction l with
  | nil => simp [Lib.indexByte] at h
  | cons x r ih =>
    unfold Lib.indexByte at h ⊢
    by_cases hx : x = b
    · subst hx; simp
    · have hb : (x == b) = false := by simpa using hx
      simp only [hb, Bool.false_eq_true, if_false] at h ⊢
      by_cases h1 : Lib.indexByte r b = -1
      · have : (Lib.indexByte r b == -1) = true := by simpa using h1
        simp [this] at h
      · have h2 : (Lib.indexByte r b == -1) = false := by simpa using h1
        simp only [h2, Bool.false_eq_true, if_false] at h ⊢
        have hge := Lib.indexByte_ge r b
        rw [show (Lib.indexByte r b + 1).toNat = (Lib.indexByte r b).toNat + 1 by omega, List.getD_cons_succ]
        exact ih (by omega)
theorem rank_idx : ∀ i : Fin 13, Lib.indexByte rankL (rankL.getD i.val 0) = i.val := by decide
theorem suit_idx : ∀ i : Fin 4, Lib.indexByte suitL (suitL.getD i.val 0) = i.val := by decide
theorem rank_32 : ∀ i : Fin 13, rankL.getD i.val 0 ≠ 32 := by decide
theorem suit_32 : ∀ i : Fin 4, suitL.getD i.val 0 ≠ 32 := by decide
theorem word_card {c : Int} (h : 0 ≤ c ∧ c < 52) : wordF (cardT c) = some c ∧ (32 : UInt8) ∉ cardT c := by
  have h1 := rank_idx ⟨(c % 13).toNat, by omega⟩
  have h2 := suit_idx ⟨(c / 13).toNat, by omega⟩
  have h3 := rank_32 ⟨(c % 13).toNat, by omega⟩
  have h4 := suit_32 ⟨(c / 13).toNat, by omega⟩
  simp only at h1 h2 h3 h4
  constructor
  · unfold wordF cardT
    simp only [List.getD_cons_zero, List.getD_cons_succ]
    rw [if_neg (by simp), h1, h2, if_neg (by omega)]
    congr 1; omega
  · unfold cardT
    simp only [List.mem_cons, List.not_mem_nil, or_false, not_or]
    exact ⟨Ne.symm h3, Ne.symm h4⟩
theorem card_word {w : List UInt8} {c : Int} (h : wordF w = some c) : cardT c = w ∧ 0 ≤ c ∧ c < 52 := by
  unfold wordF at h
  by_cases h1 : w.length ≠ 2
  · rw [if_pos h1] at h; cases h
  · rw [if_neg h1] at h
    by_cases h2 : Lib.indexByte rankL (w.getD 0 0) < 0 ∨ Lib.indexByte suitL (w.getD 1 0) < 0
    · rw [if_pos h2] at h; cases h
    · rw [if_neg h2] at h
      simp only [Option.some.injEq] at h
      have hr := indexByte_getD (l := rankL) (b := w.getD 0 0) (by omega)
      have hs := indexByte_getD (l := suitL) (b := w.getD 1 0) (by omega)
      have hr2 : Lib.indexByte rankL (w.getD 0 0) < 13 := indexByte_lt rankL _
      have hs2 : Lib.indexByte suitL (w.getD 1 0) < 4 := indexByte_lt suitL _
      generalize Lib.indexByte rankL (w.getD 0 0) = a at *
      generalize Lib.indexByte suitL (w.getD 1 0) = b at *
      refine ⟨?_, by omega, by omega⟩
      unfold cardT
      rw [show (c % 13).toNat = a.toNat by omega, show (c / 13).toNat = b.toNat by omega, hr, hs]
      match w, h1 with
      | [x, y], _ => rfl
      | [], h1 => simp at h1
      | [_], h1 => simp at h1
      | _ :: _ :: _ :: _, h1 => simp at h1
theorem readGo_cards (l acc : List Int) (h : ∀ c ∈ l, 0 ≤ c ∧ c < 52) : readGo acc (l.map cardT) = some (acc ++ l) := by
  induction l generalizing acc with
  | nil => simp [readGo]
  | cons c r ih =>
    rw [List.map_cons, readGo, (word_card (h c (by simp))).1]
    simp only
    rw [ih _ (fun x hx => h x (by simp [hx]))]; simp
theorem readGo_back (ws : List (List UInt8)) (acc out : List Int) (h : readGo acc ws = some out) : ∃ l, out = acc ++ l ∧ l.map cardT = ws := by
  induction ws generalizing acc with
  | nil => simp only [readGo, Option.some.injEq] at h; exact ⟨[], by simp [h], rfl⟩
  | cons w r ih =>
    rw [readGo] at h
    cases hw : wordF w with
    | none => rw [hw] at h; cases h
    | some c =>
      rw [hw] at h
      obtain ⟨l, h1, h2⟩ := ih _ h
      exact ⟨c :: l, by rw [h1]; simp, by rw [List.map_cons, (card_word hw).1, h2]⟩
/-- What is written is read. -/
theorem read_text {l : List Int} (hd : deckF l = 0) : readO (textF l) = some l ∧ readE (textF l) = 0 := by
  have hlen := (deckF_iff.1 hd).1
  have hm := deckF_mem hd
  have ho : readO (textF l) = some l := by
    unfold readO
    by_cases h0 : l = []
    · subst h0; rfl
    · have hne : textF l ≠ [] := by
        intro e
        have hs := split_join 32 (l.map cardT) (by simpa using h0) (fun w hw => by
          obtain ⟨c, hc, rfl⟩ := List.mem_map.1 hw
          exact (word_card (hm c hc)).2)
        unfold textF at e
        rw [e, splitF] at hs
        cases l with
        | nil => exact h0 rfl
        | cons c r => simp [cardT] at hs
      rw [if_neg hne]
      unfold textF
      rw [split_join 32 (l.map cardT) (by simpa using h0) (fun w hw => by
          obtain ⟨c, hc, rfl⟩ := List.mem_map.1 hw
          exact (word_card (hm c hc)).2), readGo_cards l [] hm]
      rfl
  refine ⟨ho, ?_⟩
  have := textF_len l
  unfold readE
  rw [if_neg (by omega), ho]
  exact hd
/-- What is read is written. -/
theorem text_read {s : List UInt8} {out : List Int} (ho : readO s = some out) : textF out = s := by
  unfold readO at ho
  by_cases h0 : s = []
  · subst h0
    rw [if_pos rfl] at ho
    cases ho; rfl
  · rw [if_neg h0] at ho
    obtain ⟨l, h1, h2⟩ := readGo_back _ _ _ ho
    simp only [List.nil_append] at h1
    subst h1
    unfold textF
    rw [h2, join_split]
theorem readE_zero {s : List UInt8} (h : readE s = 0) : ∃ out, readO s = some out ∧ deckF out = 0 := by
  unfold readE at h
  split at h
  · omega
  · cases ho : readO s with
    | none => rw [ho] at h; simp at h
    | some out => rw [ho] at h; exact ⟨out, rfl, h⟩
end Go.Ax.Cd
