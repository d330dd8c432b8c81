/-
  Texts of cards in plain Lean. No program in sight.
-/
import Derived.Test.YtmfhdfofmdggaaaCdPlain
import Derived.Lib.Bytealg
import Derived.Lib.Join
set_option linter.unusedVariables false
set_option linter.unusedSimpArgs false
namespace Go.Ax.Cd
open Go.Ax.Idx

/-- A text, cut at each of its bytes b. -/
def splitF (b : UInt8) : List UInt8 → List (List UInt8)
  | [] => [[]]
  | x :: r => if x = b then [] :: splitF b r else
    match splitF b r with
    | [] => [[x]]
    | y :: q => (x :: y) :: q
theorem splitF_ne (b : UInt8) (s : List UInt8) : splitF b s ≠ [] := by
  cases s with
  | nil => simp [splitF]
  | cons x r => simp only [splitF]; split; · simp
                · split <;> simp
theorem splitF_length (b : UInt8) (s : List UInt8) : (splitF b s).length = s.count b + 1 := by
  induction s with
  | nil => rfl
  | cons x r ih =>
    simp only [splitF]
    by_cases h : x = b
    · subst h; simp [ih]
    · have h2 : List.count b (x :: r) = List.count b r := by rw [List.count_cons]; simp [h]
      rw [if_neg h, h2]
      cases hq : splitF b r with
      | nil => exact absurd hq (splitF_ne b r)
      | cons y q => rw [hq] at ih; simpa using ih
theorem splitF_no (b : UInt8) (s : List UInt8) (h : Lib.indexByte s b < 0) : splitF b s = [s] := by
  induction s with
  | nil => rfl
  | cons x r ih =>
    unfold Lib.indexByte at h
    by_cases hx : x = b
    · subst hx; simp at h
    · have hb : (x == b) = false := by simpa using hx
      simp only [hb, Bool.false_eq_true, if_false] at h
      have hr : Lib.indexByte r b < 0 := by
        have := Lib.indexByte_ge r b
        by_cases h1 : Lib.indexByte r b = -1
        · omega
        · have : (Lib.indexByte r b == -1) = false := by simpa using h1
          simp only [this, Bool.false_eq_true, if_false] at h
          omega
      simp only [splitF, hx, if_false, ih hr]
theorem splitF_yes (b : UInt8) (s : List UInt8) (h : 0 ≤ Lib.indexByte s b) : Lib.indexByte s b < s.length ∧ splitF b s = s.take (Lib.indexByte s b).toNat :: splitF b (s.drop ((Lib.indexByte s b).toNat + 1)) := by
  induction s with
  | nil => simp [Lib.indexByte] at h
  | cons x r ih =>
    unfold Lib.indexByte at h ⊢
    by_cases hx : x = b
    · subst hx; simp [splitF]
    · have hb : (x == b) = false := by simpa using hx
      simp only [hb, Bool.false_eq_true, if_false] at h ⊢
      by_cases h1 : Lib.indexByte r b = -1
      · have : (Lib.indexByte r b == -1) = true := by simpa using h1
        simp [this] at h
      · have h2 : (Lib.indexByte r b == -1) = false := by simpa using h1
        simp only [h2, Bool.false_eq_true, if_false] at h ⊢
        have hge := Lib.indexByte_ge r b
        obtain ⟨i1, i2⟩ := ih (by omega)
        refine ⟨by simp; omega, ?_⟩
        simp only [splitF, hx, if_false, i2]
        have e : (Lib.indexByte r b + 1).toNat = (Lib.indexByte r b).toNat + 1 := by omega
        rw [e]; simp
end Go.Ax.Cd
namespace Go.Ax.Cd
def rankL : List UInt8 := [50, 51, 52, 53, 54, 55, 56, 57, 84, 74, 81, 75, 65]
def suitL : List UInt8 := [67, 68, 72, 83]
def cardT (c : Int) : List UInt8 := [rankL.getD (c % 13).toNat 0, suitL.getD (c / 13).toNat 0]
theorem drop_take1 (l : List UInt8) (i j : Nat) (hi : i < l.length) (hj : j = i + 1) : (l.drop i).take (j - i) = [l.getD i 0] := by
  subst hj
  rw [show i + 1 - i = 1 by omega, List.drop_eq_getElem_cons hi, List.take_succ_cons, List.take_zero]
  simp [List.getD, hi]
theorem deckGo_mem {seen l : List Int} (h : deckGo seen l = 0) : ∀ c ∈ l, 0 ≤ c ∧ c < 52 := by
  induction l generalizing seen with
  | nil => intro c hc; simp at hc
  | cons x r ih =>
    rw [deckGo] at h
    split at h
    · omega
    · split at h
      · omega
      · intro c hc
        rcases List.mem_cons.1 hc with rfl | hc
        · omega
        · exact ih h c hc
theorem deckF_mem {l : List Int} (h : deckF l = 0) : ∀ c ∈ l, 0 ≤ c ∧ c < 52 := by
  unfold deckF at h
  split at h
  · omega
  · exact deckGo_mem h
def textF (l : List Int) : List UInt8 := Lib.join (l.map cardT) [32]
theorem lens_cards (l : List Int) : Lib.lens (l.map cardT) = 2 * l.length := by
  induction l with
  | nil => rfl
  | cons x r ih =>
    have : Lib.lens (cardT x :: r.map cardT) = (cardT x).length + Lib.lens (r.map cardT) := by simp [Lib.lens]
    rw [List.map_cons, this, ih]; simp [cardT]; omega
theorem textF_len (l : List Int) : (textF l).length ≤ 3 * l.length := by
  cases l with
  | nil => simp [textF, Lib.join_nil]
  | cons x r =>
    unfold textF
    rw [List.map_cons, Lib.join_length, ← List.map_cons, lens_cards]; simp; omega
/-- One card's text, read. -/
def wordF (w : List UInt8) : Option Int :=
  if w.length ≠ 2 then none else if Lib.indexByte rankL (w.getD 0 0) < 0 ∨ Lib.indexByte suitL (w.getD 1 0) < 0 then none
  else some (13 * Lib.indexByte suitL (w.getD 1 0) + Lib.indexByte rankL (w.getD 0 0))
def readGo (acc : List Int) : List (List UInt8) → Option (List Int)
  | [] => some acc
  | w :: r => match wordF w with
    | none => none
    | some c => readGo (acc ++ [c]) r
def readO (s : List UInt8) : Option (List Int) := if s = [] then some [] else readGo [] (splitF 32 s)
def readE (s : List UInt8) : Int := if 8192 < s.length then 2 else match readO s with
  | none => 5
  | some out => deckF out
theorem indexByte_lt (l : List UInt8) (b : UInt8) : Lib.indexByte l b < l.length := by
  induction l with
  | nil => simp [Lib.indexByte]
  | cons x r ih =>
    unfold Lib.indexByte
    split
    · simp
    · split
      · simp; omega
      · simp; omega
end Go.Ax.Cd
