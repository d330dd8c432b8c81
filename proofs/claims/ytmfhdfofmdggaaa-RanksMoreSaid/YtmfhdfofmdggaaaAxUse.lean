/-
  Calls by contract, in the forms that walks use.
-/
import Derived.Test.YtmfhdfofmdggaaaAxMore2
import Derived.Test.YtmfhdfofmdggaaaAxPlain
set_option linter.unusedVariables false
set_option linter.unusedSimpArgs false
namespace Go.Ax
open Go.RowKit

section
variable {P : Program} {fn : Func} {c : Ctx} {fr : Fr} {H : AHeap} {k : List It}
variable {all : Array Oper} {d : Nat} {g : Operand} {args : List Operand} {ats : Array TypeId} {ty : TypeId} {pos : String} {after : Array Edge} {rest : List Oper} {f : FuncId}

/-- A call that gives a plain value. -/
theorem ax_callv {caps as as' : List AV} {r : AV} (hg : ev fr g = some (.fn f caps)) (ha : evs fr args = some as) (has : as ++ caps = as') (hcall : VCall P f as' r)
    (hk : Ax P fn c (.ops false all rest k) ((d, r) :: fr) H) : Ax P fn c (.ops false all (⟨some d, .call { callee := .value g, args := args.toArray, argTypes := ats }, ty, pos, after, none⟩ :: rest) k) fr H :=
  ax_call hg ha has (hcall H) (fun _ h => h) (fun _ h => h) (fun r' H' h => by obtain ⟨rfl, rfl⟩ := h; exact hk)
/-- .. some of whose arguments are objects, which it only reads. -/
theorem ax_calll {caps as as' as'' : List AV} {r : AV} (hg : ev fr g = some (.fn f caps)) (ha : evs fr args = some as) (has : as ++ caps = as') (hl : AV.frzs H as' = as'') (hcall : VCall P f as'' r) (hrl : ∀ (h : Nat) (o : AObj), H[h]? = some (some o) → refless o.c) (hin : inBs H as') (hn : noRef.noRefs as'' = true) (hr : noRef r = true) (hfl : flat r = true)
    (hk : Ax P fn c (.ops false all rest k) ((d, r) :: fr) H) : Ax P fn c (.ops false all (⟨some d, .call { callee := .value g, args := args.toArray, argTypes := ats }, ty, pos, after, none⟩ :: rest) k) fr H :=
  ax_call hg ha has (VCall.lend hcall hrl hl hin hn hr hfl) (fun _ h => h) (fun _ h => h) (fun r' H' h => by obtain ⟨rfl, rfl⟩ := h; exact hk)
/-- A call that makes an object, which the caller owns. -/
theorem ax_callf {caps as as' : List AV} {r : Nat → AV} {o : AObj} (hg : ev fr g = some (.fn f caps)) (ha : evs fr args = some as) (has : as ++ caps = as') (hcall : FCall P f as' r o)
    (hk : Ax P fn c (.ops false all rest k) ((d, r H.length) :: fr) (H ++ [some o])) : Ax P fn c (.ops false all (⟨some d, .call { callee := .value g, args := args.toArray, argTypes := ats }, ty, pos, after, none⟩ :: rest) k) fr H :=
  ax_call hg ha has (hcall H) (fun _ h => h) (fun _ h => h) (fun r' H' h => by obtain ⟨rfl, rfl⟩ := h; exact hk)
/-- A call by any contract. -/
theorem ax_callc {caps as as' : List AV} {fix : Nat → Prop} {K : AV → AHeap → Prop} (hg : ev fr g = some (.fn f caps)) (ha : evs fr args = some as) (has : as ++ caps = as') (hcall : ACall P f as' H fix K) (hall : ∀ h, h < H.length → fix h) (hfl : ∀ h, fix h → h < H.length)
    (hk : ∀ r H', K r H' → Ax P fn c (.ops false all rest k) ((d, r) :: fr) H') : Ax P fn c (.ops false all (⟨some d, .call { callee := .value g, args := args.toArray, argTypes := ats }, ty, pos, after, none⟩ :: rest) k) fr H :=
  ax_call hg ha has hcall hall hfl hk
theorem ax_callc0 {caps as as' : List AV} {fix : Nat → Prop} {K : AV → AHeap → Prop} (hg : ev fr g = some (.fn f caps)) (ha : evs fr args = some as) (has : as ++ caps = as') (hcall : ACall P f as' H fix K) (hall : ∀ h, h < H.length → fix h) (hfl : ∀ h, fix h → h < H.length)
    (hk : ∀ r H', K r H' → Ax P fn c (.ops false all rest k) fr H') : Ax P fn c (.ops false all (⟨none, .call { callee := .value g, args := args.toArray, argTypes := ats }, ty, pos, after, none⟩ :: rest) k) fr H :=
  ax_call hg ha has hcall hall hfl hk
end

theorem refless_ints {k : IntKind} {l : List Int} : refless (.ints k l) := refless_simple rfl
theorem refless_strs {l : List (List UInt8)} : refless (.strs l) := refless_simple rfl
/-- The objects of a short memory name none. -/
theorem refl1 {o1 : AObj} (h1 : refless o1.c) : ∀ (h : Nat) (o : AObj), ([some o1] : AHeap)[h]? = some (some o) → refless o.c := by
  intro h o ho
  match h, ho with
  | 0, ho => simp at ho; subst ho; exact h1
  | _ + 1, ho => simp at ho
theorem refl2 {o1 o2 : AObj} (h1 : refless o1.c) (h2 : refless o2.c) : ∀ (h : Nat) (o : AObj), ([some o1, some o2] : AHeap)[h]? = some (some o) → refless o.c := by
  intro h o ho
  match h, ho with
  | 0, ho => simp at ho; subst ho; exact h1
  | 1, ho => simp at ho; subst ho; exact h2
  | _ + 2, ho => simp at ho
theorem refl3 {o1 o2 o3 : AObj} (h1 : refless o1.c) (h2 : refless o2.c) (h3 : refless o3.c) : ∀ (h : Nat) (o : AObj), ([some o1, some o2, some o3] : AHeap)[h]? = some (some o) → refless o.c := by
  intro h o ho
  match h, ho with
  | 0, ho => simp at ho; subst ho; exact h1
  | 1, ho => simp at ho; subst ho; exact h2
  | 2, ho => simp at ho; subst ho; exact h3
  | _ + 3, ho => simp at ho
end Go.Ax
