/-
  Rules: guarded operations in a region whose order is open.
-/
import Derived.Test.YtmfhdfofmdggaaaAxMore7
import Derived.Test.YtmfhdfofmdggaaaAxUndef
set_option linter.unusedVariables false
set_option linter.unusedSimpArgs false
namespace Go.Ax
open Go.RowKit

section
variable {P : Program} {fn : Func} {c : Ctx} {fr : Fr} {H : AHeap} {k : List It}

/-- An operation whose guard lets it run, and that does not look at memory, may be taken first. -/
theorem ax_any_qg {all : Array Oper} {fuel : Nat} {listed listed' : Array Bool} (i : Nat) {d j t : Nat} {p : Bool} {op : Op} {ty : TypeId} {pos : String} {after : Array Edge} {v : AV}
    (hi : all[i]? = some ⟨some d, op, ty, pos, after, some (j, p)⟩) (hsel : Region.noSelect all = true) (hready : (Region.ready .any all listed).contains i = true) (hfree : Region.free .any all listed i = true) (hd : Nat.blt d fn.ntmps = true)
    (hy : yslot all j = some t) (hb : look t fr = some (.bool p))
    (hop : QOp true P fn c fr H ⟨some d, op, ty, pos, after, some (j, p)⟩ v) (hl : listed.setIfInBounds i true = listed') (h : Ax P fn c (.any all fuel listed' k) ((d, v) :: fr) H) : Ax P fn c (.any all (fuel + 1) listed k) fr H := by
  intro w a σ S hr
  subst hl
  obtain ⟨x, hx, hrun⟩ := hop w a σ S hr
  refine wpAny_first hi (Region.noSelect_spec hsel) ?_ fuel listed a w (Region.free_spec hi hfree) (by simpa using hready) (v := x) ?_ (h w _ σ S (hr.put hx (Nat.le_of_ble_eq_true hd)))
  · rintro ch a' w' ⟨_, _, _, _, _, hp⟩
    exact (post_panic _ hp).elim
  · exact .inl ⟨by rw [wanted_of hr hy hb]; simp, fun w' => hrun w' (.inl rfl)⟩
/-- An operation that its guard passes over. -/
theorem ax_any_qn {all : Array Oper} {fuel : Nat} {listed listed' : Array Bool} (i : Nat) {d j t : Nat} {p b : Bool} {op : Op} {ty : TypeId} {pos : String} {after : Array Edge}
    (hi : all[i]? = some ⟨some d, op, ty, pos, after, some (j, p)⟩) (hsel : Region.noSelect all = true) (hready : (Region.ready .any all listed).contains i = true) (hfree : Region.free .any all listed i = true) (hd : Nat.blt d fn.ntmps = true)
    (hy : yslot all j = some t) (hb : look t fr = some (.bool b)) (hne : (b == p) = false)
    (hl : listed.setIfInBounds i true = listed') (h : Ax P fn c (.any all fuel listed' k) ((d, .tup []) :: fr) H) : Ax P fn c (.any all (fuel + 1) listed k) fr H := by
  intro w a σ S hr
  subst hl
  refine wpAny_first hi (Region.noSelect_spec hsel) ?_ fuel listed a w (Region.free_spec hi hfree) (by simpa using hready) (v := undef) ?_ (h w _ σ S (hr.put vr_undef (Nat.le_of_ble_eq_true hd)))
  · rintro ch a' w' ⟨_, _, _, _, _, hp⟩
    exact (post_panic _ hp).elim
  · exact .inr ⟨by rw [wanted_of hr hy hb]; exact hne, rfl⟩
/-- .. whose guard was itself passed over. -/
theorem ax_any_qu {all : Array Oper} {fuel : Nat} {listed listed' : Array Bool} (i : Nat) {d j t : Nat} {p : Bool} {op : Op} {ty : TypeId} {pos : String} {after : Array Edge}
    (hi : all[i]? = some ⟨some d, op, ty, pos, after, some (j, p)⟩) (hsel : Region.noSelect all = true) (hready : (Region.ready .any all listed).contains i = true) (hfree : Region.free .any all listed i = true) (hd : Nat.blt d fn.ntmps = true)
    (hy : yslot all j = some t) (hb : look t fr = some (.tup []))
    (hl : listed.setIfInBounds i true = listed') (h : Ax P fn c (.any all fuel listed' k) ((d, .tup []) :: fr) H) : Ax P fn c (.any all (fuel + 1) listed k) fr H := by
  intro w a σ S hr
  subst hl
  refine wpAny_first hi (Region.noSelect_spec hsel) ?_ fuel listed a w (Region.free_spec hi hfree) (by simpa using hready) (v := undef) ?_ (h w _ σ S (hr.put vr_undef (Nat.le_of_ble_eq_true hd)))
  · rintro ch a' w' ⟨_, _, _, _, _, hp⟩
    exact (post_panic _ hp).elim
  · exact .inr ⟨wanted_undef hr hy hb, rfl⟩
theorem ax_split_any {all : Array Oper} {fuel : Nat} {listed : Array Bool} (t : Nat) {p : Prop} {_ : Decidable p} (hb : look t fr = some (.bool (decide p))) (ht : p → Ax P fn c (.any all fuel listed k) ((t, .bool true) :: fr) H) (hf : ¬ p → Ax P fn c (.any all fuel listed k) ((t, .bool false) :: fr) H) : Ax P fn c (.any all fuel listed k) fr H := by
  by_cases h : p
  · exact fun w a σ S hr => ht h w a σ S (hr.dup (by rw [decide_eq_true h] at hb; exact hb))
  · exact fun w a σ S hr => hf h w a σ S (hr.dup (by rw [decide_eq_false h] at hb; exact hb))
end
end Go.Ax
