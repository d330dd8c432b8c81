/-
  More rules: slices from the beginning; looks at a walk's state (for my own use while a text is being written).
-/
import Derived.Test.YtmfhdfofmdggaaaAxMore3
set_option linter.unusedVariables false
set_option linter.unusedSimpArgs false
namespace Go.Ax
open Go.RowKit

section
variable {ind : Bool} {P : Program} {fn : Func} {c : Ctx} {fr : Fr} {H : AHeap} {k : List It}
variable {d : Option Nat} {ty : TypeId} {pos : String} {after : Array Edge} {g : Option (Nat × Bool)}
/-- x[:h] -/
theorem q_slice_sl0 {x : Operand} {t e : TypeId} {lo hi : Option Operand} {lo' hi' : Option AV} {h' i n : Nat} {ob : AObj} {l h : Int} (ht : P.underlying t = some (.slice e)) (hx : ev fr x = some (.sl h' i n)) (hh : H[h']? = some (some ob)) (hs : (P.info? e).map (·.size) = some ob.c.sz)
    (h1 : evo fr lo = some lo') (h2 : evo fr hi = some hi') (h3 : sbnd 0 lo' = some l) (h4 : sbnd n hi' = some h) (hb : l = 0 ∧ 0 ≤ h ∧ h ≤ n) :
    QOp ind P fn c fr H ⟨d, .slice t x lo hi none, ty, pos, after, g⟩ (.sl h' i h.toNat) := by
  intro w a σ S hr
  have hxv := hr.evAt hx
  generalize hz : a.eval x = z at hxv
  obtain ⟨rfl, hb1, hb2⟩ := hb
  cases hxv with
  | sl0 _ _ hσ =>
    have h0 : h = 0 := by omega
    subst h0
    refine ⟨.slice none 0 0, .sl0 _ _ hσ, fun w' _ => ?_⟩
    have hbs := run_sliceBounds (P := P) (w := w') (isS := true) (len := 0) (cap := 0) hr h1 h2 h3 h4 ⟨by omega, by omega, by omega⟩
    cases hq : P.info? e with
    | none => simp [hq] at hs
    | some inf => simp [execOp, hz, Instr.sliceAt, Instr.slice, run_underlying ht, hbs, sizeOf, typeInfo, hq]
  | sl _ _ _ _ b s C cap hσ hlen hcap =>
    obtain ⟨hs', cur, g1, g2, g3, g4, g5, g6⟩ := hr.obj hh hσ
    subst hs'
    refine ⟨.slice (some ⟨b, i * ob.c.sz, none⟩) h.toNat cap, .sl _ _ _ _ _ _ C _ hσ (by omega) (by omega), fun w' _ => ?_⟩
    have hbs := run_sliceBounds (P := P) (w := w') (isS := true) (cap := cap) hr h1 h2 h3 h4 ⟨by omega, by omega, by omega⟩
    cases hq : P.info? e with
    | none => simp [hq] at hs
    | some inf => simp [execOp, hz, Instr.sliceAt, Instr.slice, run_underlying ht, hbs, sizeOf, typeInfo, hq, Addr.add_lit]
end

def Peek {α : Type} (_ : α) (_ : Fr) (_ : AHeap) : Prop := False
def PeekAny (_ : List Nat) (_ : Fr) (_ : AHeap) : Prop := False
theorem ax_peek {P : Program} {fn : Func} {c : Ctx} {q : Bool} {all : Array Oper} {o : Oper} {rest : List Oper} {k : List It} {fr : Fr} {H : AHeap} (h : Peek o.op fr H) : Ax P fn c (.ops q all (o :: rest) k) fr H := h.elim
theorem ax_peek_post {P : Program} {fn : Func} {c : Ctx} {e : Exit} {k : List It} {fr : Fr} {H : AHeap} (h : Peek e fr H) : Ax P fn c (.post e k) fr H := h.elim
theorem ax_peek_code {P : Program} {fn : Func} {c : Ctx} {x : Code} {k : List It} {fr : Fr} {H : AHeap} (h : Peek 0 fr H) : Ax P fn c (.code x k) fr H := h.elim
theorem ax_peek_any {P : Program} {fn : Func} {c : Ctx} {all : Array Oper} {fuel : Nat} {listed : Array Bool} {k : List It} {fr : Fr} {H : AHeap} (h : PeekAny (Region.ready .any all listed) fr H) : Ax P fn c (.any all fuel listed k) fr H := h.elim
end Go.Ax
