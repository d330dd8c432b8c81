/-
  Rules: guards on operations that were themselves passed over.
-/
import Derived.Test.YtmfhdfofmdggaaaAxHeap
set_option linter.unusedVariables false
set_option linter.unusedSimpArgs false
namespace Go.Ax
open Go.RowKit

section
variable {P : Program} {fn : Func} {c : Ctx} {fr : Fr} {H : AHeap} {k : List It}

theorem wanted_undef {w : World} {a : Act} {σ : Nat → Option Blk} {S : Nat → Prop} {n : Nat} (hr : Rep c w a σ S n fr H) {all : Array Oper} {d : Option Nat} {op : Op} {ty : TypeId} {pos : String} {after : Array Edge} {j t : Nat} {p : Bool}
    (hy : yslot all j = some t) (hb : look t fr = some (.tup [])) : Region.wanted ⟨d, op, ty, pos, after, some (j, p)⟩ (yielded all a.tmps) = false := by
  obtain ⟨h1, h2⟩ := hr.slots t _ hb
  have h3 : t < a.tmps.size := by rw [hr.size]; exact h1
  generalize hz : a.tmps.getD t undef = z at h2
  cases h2
  rename_i vs hl hv
  have h4 : a.tmps[t]? = some (.tuple vs) := by
    simp only [Array.getD, h3, dite_true] at hz
    simp only [Array.getElem?_eq_getElem h3]
    exact congrArg some hz
  unfold yslot at hy
  simp only [Region.wanted, yielded, hy, Option.bind_some, h4]
  cases p <;> rfl

theorem vr_undef {w : World} {S : Nat → Prop} {σ : Nat → Option Blk} : VR w S σ (.tup []) undef := .tup _ _ _ rfl (fun i hi => absurd hi (Nat.not_lt_zero _))

/-- An operation that is passed over leaves nothing in its slot. -/
theorem ax_skip_not {q : Bool} {all : Array Oper} {d : Nat} {op : Op} {ty : TypeId} {pos : String} {after : Array Edge} {rest : List Oper} {j t : Nat} {p b : Bool}
    (hy : yslot all j = some t) (hb : look t fr = some (.bool b)) (hne : (b == p) = false) (h : Ax P fn c (.ops q all rest k) ((d, .tup []) :: fr) H) : Ax P fn c (.ops q all (⟨some d, op, ty, pos, after, some (j, p)⟩ :: rest) k) fr H := by
  cases q with
  | false =>
    intro hd w a σ S hr
    obtain ⟨hd1, hd2⟩ := dsts_cons hd
    simp only [wpList, wanted_of hr hy hb, hne, Bool.false_eq_true, if_false]
    exact h hd2 w _ σ S (hr.put vr_undef (hd1 d rfl))
  | true =>
    intro hd w a σ S hr
    obtain ⟨hd1, hd2⟩ := dsts_cons hd
    simp only [wpQuiet, wanted_of hr hy hb, hne, Bool.false_eq_true, if_false]
    exact h hd2 w _ σ S (hr.put vr_undef (hd1 d rfl))
theorem ax_skip_undef {q : Bool} {all : Array Oper} {d : Nat} {op : Op} {ty : TypeId} {pos : String} {after : Array Edge} {rest : List Oper} {j t : Nat} {p : Bool}
    (hy : yslot all j = some t) (hb : look t fr = some (.tup [])) (h : Ax P fn c (.ops q all rest k) ((d, .tup []) :: fr) H) : Ax P fn c (.ops q all (⟨some d, op, ty, pos, after, some (j, p)⟩ :: rest) k) fr H := by
  cases q with
  | false =>
    intro hd w a σ S hr
    obtain ⟨hd1, hd2⟩ := dsts_cons hd
    simp only [wpList, wanted_undef hr hy hb, Bool.false_eq_true, if_false]
    exact h hd2 w _ σ S (hr.put vr_undef (hd1 d rfl))
  | true =>
    intro hd w a σ S hr
    obtain ⟨hd1, hd2⟩ := dsts_cons hd
    simp only [wpQuiet, wanted_undef hr hy hb, Bool.false_eq_true, if_false]
    exact h hd2 w _ σ S (hr.put vr_undef (hd1 d rfl))
end
end Go.Ax
