import Derived.Test.YtmfhdfofmdggaaaDoorK6
import Derived.Test.YtmfhdfofmdggaaaDoorShelf
namespace Go.Proofs.YtmfhdfofmdggaaaDoor
open Go.Ax Go.Ax.Idx Go.Ax.Cd Go.RowKit
set_option maxRecDepth 100000
set_option maxHeartbeats 4000000
set_option linter.unusedSimpArgs false
set_option linter.unusedVariables false

theorem join (ls : List (List UInt8)) (sep : List UInt8) (hN : ls.length ≤ 140737488355328) (hj : (Lib.join ls sep).length ≤ 140737488355328) : VCall Tryd.prog 48 [.ro (.strs ls) 0 ls.length, .str sep] (.str (Lib.join ls sep)) := by
  refine VCall.of_below ⟨Tryd.f48, rfl, by kernel_rfl, rfl⟩ rfl rfl (fun w S vals hS hv => ?_)
  obtain ⟨h1, h2⟩ := hv
  have a := h2 0 (by simp)
  have b := h2 1 (by simp)
  obtain ⟨x, y, rfl⟩ : ∃ x y, vals = #[x, y] := by
    have : vals.toList.length = 2 := by simpa using h1
    match hq : vals.toList, this with
    | [x, y], _ => exact ⟨x, y, by rw [← Array.toArray_toList (xs := vals), hq]⟩
  simp at a b
  have hy : y = strV sep := by cases b; rfl
  subst hy
  have hsep : (⟨sep.toArray⟩ : ByteArray).data.toList = sep := by simp
  have hbyte : ∀ l : List UInt8, (⟨l.toArray⟩ : ByteArray).data.toList = l := fun l => by simp
  generalize hn : ls.length = n at a
  cases a with
  | ro0 _ _ _ ad cap =>
    have : ls = [] := List.length_eq_zero_iff.mp hn
    subst this
    refine (Tryd.strings_Join_none ad cap ⟨sep.toArray⟩ w).mono ?_
    rintro e w' ⟨rfl, rfl⟩
    exact ⟨_, rfl, Below.refl _ _, .str _ []⟩
  | ro _ _ _ _ bk o cap val hSb hlen hc hv h1' =>
    subst hn
    have hxs : (ls.map (fun l => (⟨l.toArray⟩ : ByteArray))).length = ls.length := by simp
    have c := Tryd.strings_Join bk o cap (ls.map (fun l => (⟨l.toArray⟩ : ByteArray))) ⟨sep.toArray⟩ w (fun j x hx => ?_) (hS _ hSb) (by simpa using hN) (by simpa using hlen) ?_
    · rw [hxs] at c
      refine c.mono ?_
      rintro e w' ⟨rfl, hb⟩
      have e2 : ((ls.map (fun l => (⟨l.toArray⟩ : ByteArray))).map (fun x => x.data.toList)) = ls := by rw [List.map_map]; exact (List.map_congr_left (fun x _ => rfl)).trans (List.map_id _)
      rw [e2, hsep]
      exact ⟨_, rfl, hb, .str _ _⟩
    · simp only [List.getElem?_map, Option.map_eq_some_iff] at hx
      obtain ⟨l, hl, rfl⟩ := hx
      have hlt : j < ls.length := (List.getElem?_eq_some_iff.1 hl).1
      have q := hc j 0 hlt (by simp [Cells.sz])
      have v := hv j 0 hlt (by simp [Cells.sz])
      simp only [Cells.sz, Nat.mul_one, Nat.add_zero] at q
      simp only [Cells.at, Nat.zero_add, List.getD, hl, Option.getD_some] at v
      rw [q]
      generalize val j 0 = z at v
      cases v; rfl
    · have e2 : ((ls.map (fun l => (⟨l.toArray⟩ : ByteArray))).map (fun x => x.data.toList)) = ls := by rw [List.map_map]; exact (List.map_congr_left (fun x _ => rfl)).trans (List.map_id _)
      rw [e2, hsep]; exact hj
end Go.Proofs.YtmfhdfofmdggaaaDoor
