/-
  The best five of some cards, in plain Lean.
-/
import Derived.Test.YtmfhdfofmdggaaaRkPlain
set_option linter.unusedVariables false
set_option linter.unusedSimpArgs false
namespace Go.Ax.Rk
open Go.Ax.Idx Go.Ax.Cd

def handOf (l pl : List Int) : List Int := pl.map (fun i => l.getD i.toNat 0)
def updF (l pl : List Int) (st : Int × List Int) : Int × List Int := if st.1 < valF (handOf l pl) then (valF (handOf l pl), pl) else st
/-- The last d places, one after another, behind what is chosen. -/
def goF (l : List Int) : Nat → List Int → Int × List Int → Int × List Int
  | 0, _, st => st
  | d + 1, pl, st => goF l d pl (if (pl ++ [((l.length - (d + 1) : Nat) : Int)]).length = 5 then updF l (pl ++ [((l.length - (d + 1) : Nat) : Int)]) st else goF l d (pl ++ [((l.length - (d + 1) : Nat) : Int)]) st)
def walkF (l : List Int) (d : Nat) (pl : List Int) (st : Int × List Int) : Int × List Int := if pl.length = 5 then updF l pl st else goF l d pl st
theorem goF_succ (l : List Int) (d : Nat) (pl : List Int) (st : Int × List Int) : goF l (d + 1) pl st = goF l d pl (walkF l d (pl ++ [((l.length - (d + 1) : Nat) : Int)]) st) := rfl
theorem handOf_length (l pl : List Int) : (handOf l pl).length = pl.length := by simp [handOf]
/-- ranks.Best -/
def bestE (l : List Int) : Int := if deckF l ≠ 0 then deckF l else if l.length < 5 then 8 else if 9 < l.length then 2 else 0
def bestF (l : List Int) : Int × List Int := goF l l.length [] (-1, [])
/-- slices.IsSorted, from above. -/
def srtF (l : List Int) : Nat → Bool
  | 0 => true
  | i + 1 => if l.getD (i + 1) 0 < l.getD i 0 then false else srtF l i
theorem srtF_true {l : List Int} (h : ∀ i, i + 1 < l.length → l.getD i 0 ≤ l.getD (i + 1) 0) (k : Nat) (hk : k < l.length ∨ k = 0) : srtF l k = true := by
  induction k with
  | zero => rfl
  | succ k ih =>
    have := h k (by omega)
    rw [srtF, if_neg (by omega)]
    exact ih (.inl (by omega))
end Go.Ax.Rk
