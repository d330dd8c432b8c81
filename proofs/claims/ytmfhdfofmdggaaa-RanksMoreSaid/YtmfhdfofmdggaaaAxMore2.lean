/-
  Rules: objects given up, new variables.
-/
import Derived.Test.YtmfhdfofmdggaaaAxMore
set_option linter.unusedVariables false
set_option linter.unusedSimpArgs false
namespace Go.Ax
open Go.RowKit

section
variable {ind : Bool} {P : Program} {fn : Func} {c : Ctx} {fr : Fr} {H : AHeap} {k : List It}

/-- The last object is given up: nothing names it any more. -/
theorem Rep.dropLast {w : World} {a : Act} {σ : Nat → Option Blk} {S : Nat → Prop} {n : Nat} {x : Option AObj} (hr : Rep c w a σ S n fr (H ++ [x])) (hfx : ¬ c.fix H.length) :
    Rep c w a (fun h => if h = H.length then none else σ h) S n (forgetF H.length fr) (forgetH H.length H) := by
  have hne : ∀ h, h ≠ H.length → (fun h => if h = H.length then none else σ h) h = σ h := fun h he => by simp [he]
  have hvf : ∀ {x v}, VR w S σ x v → VR w S (fun h => if h = H.length then none else σ h) (x.forget H.length) v := fun hv => hv.forget _ hne
  have hget : ∀ h o, (forgetH H.length H)[h]? = some (some o) → ∃ o0, h < H.length ∧ (H ++ [x])[h]? = some (some o0) ∧ o = ⟨o0.ty, o0.c.forget H.length⟩ := by
    intro h o ho
    rw [forgetH_get] at ho
    cases hq : H[h]? with
    | none => simp [hq] at ho
    | some oo => cases oo with
      | none => simp [hq, forgetO] at ho
      | some o0 =>
        simp [hq, forgetO] at ho
        have hlt : h < H.length := (List.getElem?_eq_some_iff.1 hq).1
        exact ⟨o0, hlt, by rw [List.getElem?_append_left hlt]; exact hq, ho.symm⟩
  refine ⟨⟨?_, ?_, hr.hr.small, fun h hl => ?_⟩, ⟨hr.kp.os, hr.kp.output, hr.kp.tape, hr.kp.size, hr.kp.block, hr.kp.S1, hr.kp.S2, fun h hf => ?_, fun h hf => ?_, ?_⟩, hr.defers, hr.size, fun t v hl => ?_⟩
  · intro h o ho
    obtain ⟨o0, hlt, h0, rfl⟩ := hget h o ho
    rcases hr.hr.live h o0 h0 with ⟨hn, hl0⟩ | ⟨b, C, cur, g1, g2, g3, g4, g5, g6, g7⟩
    · exact .inl ⟨by rw [if_neg (by omega)]; exact hn, by simpa [Cells.forget_len] using hl0⟩
    · right
      simp only [Cells.forget_len, Cells.forget_sz]
      refine ⟨b, C, cur, by rw [if_neg (by omega)]; exact g1, g2, g3, g4, g5, g6, fun i j hi hj => ?_⟩
      obtain ⟨v, e1, e2, e3⟩ := g7 i j hi hj
      exact ⟨v, e1, by rw [Cells.forget_at _ o0.c i j hj]; exact hvf e2, e3⟩
  · intro h1 h2 o1 o2 b s1 C1 s2 C2 q1 q2 e1 e2
    obtain ⟨p1, l1, h01, _⟩ := hget h1 o1 q1
    obtain ⟨p2, l2, h02, _⟩ := hget h2 o2 q2
    rw [if_neg (by omega)] at e1 e2
    exact hr.hr.dist h1 h2 _ _ b s1 C1 s2 C2 h01 h02 e1 e2
  · rw [forgetH_length] at hl
    by_cases he : h = H.length
    · simp [he]
    · simp only [he, if_false]
      exact hr.hr.dom h (by simp; omega)
  · have h2 : ¬ h = H.length := fun e => hfx (e ▸ hf)
    rw [if_neg h2]
    exact hr.kp.fixed h hf
  · have h1 := hr.kp.fixlt h hf
    have h2 : h ≠ H.length := fun e => hfx (e ▸ hf)
    rw [forgetH_length]
    simp at h1
    omega
  · intro h o b s C ho hb
    obtain ⟨o0, hlt, h0, rfl⟩ := hget h o ho
    rw [if_neg (by omega)] at hb
    exact hr.kp.own h o0 b s C h0 hb
  · rw [look_forgetF] at hl
    cases hq : look t fr with
    | none => simp [hq] at hl
    | some v0 =>
      simp [hq] at hl
      subst hl
      exact ⟨(hr.slots t v0 hq).1, hvf (hr.slots t v0 hq).2⟩

theorem ax_drop {x : Code} {H1 : AHeap} {y : Option AObj} (hH : H = H1 ++ [y]) (hfx : ¬ c.fix H1.length) (h : Ax P fn c (.code x k) (forgetF H1.length fr) (forgetH H1.length H1)) : Ax P fn c (.code x k) fr H := by
  subst hH
  exact fun w a _ S hr => h w a _ S (hr.dropLast hfx)

end
end Go.Ax
