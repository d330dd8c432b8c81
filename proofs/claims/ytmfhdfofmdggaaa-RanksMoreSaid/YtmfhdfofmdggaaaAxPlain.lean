/-
  Plain lemmas on lists and numbers, for the ends of walks.
-/
set_option linter.unusedVariables false
set_option linter.unusedSimpArgs false
namespace Go.Ax

theorem getD_lt {α : Type} {l : List α} {k : Nat} (d : α) (h : k < l.length) : l.getD k d = l[k] := by
  simp [List.getD, h]
theorem getD_mem {α : Type} {l : List α} {k : Nat} (d : α) (h : k < l.length) : l.getD k d ∈ l := by
  rw [getD_lt d h]; exact List.getElem_mem h
theorem take_succ_getD {α : Type} (l : List α) (d : α) (k : Nat) (h : k < l.length) : l.take (k + 1) = l.take k ++ [l.getD k d] := by
  rw [List.take_succ_eq_append_getElem h, getD_lt d h]
theorem sum_take_succ (l : List Int) (k : Nat) (h : k < l.length) : (l.take (k + 1)).sum = (l.take k).sum + l.getD k 0 := by
  rw [take_succ_getD l 0 k h, List.sum_append]
  simp only [List.sum_cons, List.sum_nil]
  omega
theorem any_take_succ {α : Type} (p : α → Bool) (l : List α) (d : α) (k : Nat) (h : k < l.length) : (l.take (k + 1)).any p = ((l.take k).any p || p (l.getD k d)) := by
  rw [take_succ_getD l d k h, List.any_append]
  simp only [List.any_cons, List.any_nil, Bool.or_false]
theorem any_of_getD {α : Type} {p : α → Bool} {l : List α} {d : α} {k : Nat} (h : k < l.length) (hp : p (l.getD k d) = true) : l.any p = true := by
  rw [List.any_eq_true]; exact ⟨_, getD_mem d h, hp⟩
theorem drop_getD {α : Type} (l : List α) (d : α) (k : Nat) (h : k < l.length) : l.drop k = l.getD k d :: l.drop (k + 1) := by
  rw [getD_lt d h]; exact List.drop_eq_getElem_cons h
end Go.Ax
