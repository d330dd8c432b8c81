/-
  Rules: the same memory, told otherwise; objects that nobody uses any more.
-/
import Derived.Test.YtmfhdfofmdggaaaAxUse
set_option linter.unusedVariables false
set_option linter.unusedSimpArgs false
namespace Go.Ax
open Go.RowKit

/-- Two rows hold the same. -/
def CEq (a b : Cells) : Prop := b.len = a.len ∧ b.sz = a.sz ∧ ∀ i j, i < a.len → j < a.sz → b.at i j = a.at i j
/-- The second memory tells no more than the first. -/
def HSub (H H' : AHeap) : Prop := H'.length = H.length ∧ ∀ (h : Nat) (o' : AObj), H'[h]? = some (some o') → ∃ o : AObj, H[h]? = some (some o) ∧ o'.ty = o.ty ∧ CEq o.c o'.c
theorem CEq.refl (a : Cells) : CEq a a := ⟨rfl, rfl, fun _ _ _ _ => rfl⟩
theorem HSub.refl (H : AHeap) : HSub H H := ⟨rfl, fun _ o h => ⟨o, h, rfl, CEq.refl _⟩⟩
theorem HSub.nil : HSub [] [] := HSub.refl []
theorem HSub.cons {x y : Option AObj} {H H' : AHeap} (hx : ∀ o', y = some o' → ∃ o, x = some o ∧ o'.ty = o.ty ∧ CEq o.c o'.c) (h : HSub H H') : HSub (x :: H) (y :: H') := by
  refine ⟨by simp [h.1], fun i o' ho => ?_⟩
  cases i with
  | zero =>
    simp only [List.getElem?_cons_zero, Option.some.injEq] at ho
    obtain ⟨o, rfl, h1, h2⟩ := hx o' ho
    exact ⟨o, by simp, h1, h2⟩
  | succ i => simpa using h.2 i o' (by simpa using ho)
theorem HSub.same {x : Option AObj} {H H' : AHeap} (h : HSub H H') : HSub (x :: H) (x :: H') := HSub.cons (fun o ho => ⟨o, ho, rfl, CEq.refl _⟩) h
theorem HSub.eqv {t : TypeId} {a b : Cells} {H H' : AHeap} (hc : CEq a b) (h : HSub H H') : HSub (some ⟨t, a⟩ :: H) (some ⟨t, b⟩ :: H') :=
  HSub.cons (fun o ho => by cases ho; exact ⟨_, rfl, rfl, hc⟩) h
theorem HSub.drop {x : Option AObj} {H H' : AHeap} (h : HSub H H') : HSub (x :: H) (none :: H') := HSub.cons (fun o ho => by cases ho) h

theorem Rep.heap {c : Ctx} {w : World} {a : Act} {σ : Nat → Option Blk} {S : Nat → Prop} {n : Nat} {fr : Fr} {H H' : AHeap} (hr : Rep c w a σ S n fr H) (hs : HSub H H') : Rep c w a σ S n fr H' := by
  refine ⟨⟨fun h o' ho => ?_, fun h h' o o' b s C s' C' q1 q2 e1 e2 => ?_, hr.hr.small, fun h hl => hr.hr.dom h (by rw [← hs.1]; exact hl)⟩, ⟨hr.kp.os, hr.kp.output, hr.kp.tape, hr.kp.size, hr.kp.block, hr.kp.S1, hr.kp.S2, hr.kp.fixed, fun h hf => by rw [hs.1]; exact hr.kp.fixlt h hf, fun h o b s C q e => ?_⟩, hr.defers, hr.size, hr.slots⟩
  · obtain ⟨o, h1, h2, h3, h4, h5⟩ := hs.2 h o' ho
    rw [h2, h3, h4]
    rcases hr.hr.live h o h1 with g | ⟨b, C, cur, g1, g2, g3, g4, g5, g6, g7⟩
    · exact .inl g
    · exact .inr ⟨b, C, cur, g1, g2, g3, g4, g5, g6, fun i j hi hj => by rw [h5 i j hi hj]; exact g7 i j hi hj⟩
  · obtain ⟨p, h1, _⟩ := hs.2 h o q1
    obtain ⟨p', h1', _⟩ := hs.2 h' o' q2
    exact hr.hr.dist h h' p p' b s C s' C' h1 h1' e1 e2
  · obtain ⟨p, h1, _⟩ := hs.2 h o q
    exact hr.kp.own h p b s C h1 e

section
variable {P : Program} {fn : Func} {c : Ctx} {fr : Fr} {H : AHeap} {k : List It}
theorem ax_heap {x : Code} (H' : AHeap) (hs : HSub H H') (h : Ax P fn c (.code x k) fr H') : Ax P fn c (.code x k) fr H :=
  fun w a σ S hr => h w a σ S (hr.heap hs)
theorem ax_heap_ops {q : Bool} {all : Array Oper} {rest : List Oper} (H' : AHeap) (hs : HSub H H') (h : Ax P fn c (.ops q all rest k) fr H') : Ax P fn c (.ops q all rest k) fr H := by
  cases q with
  | true => exact fun hd w a σ S hr => h hd w a σ S (hr.heap hs)
  | false => exact fun hd w a σ S hr => h hd w a σ S (hr.heap hs)
end
theorem ACall.weaken {P : Program} {f : FuncId} {args : List AV} {H : AHeap} {fix : Nat → Prop} {K K' : AV → AHeap → Prop} (hc : ACall P f args H fix K) (hK : ∀ r H', K r H' → K' r H') : ACall P f args H fix K' := by
  refine ⟨hc.1, fun w σ S vals h1 h2 h3 => Calls.mono (hc.2 w σ S vals h1 h2 h3) fun e w' he => ?_⟩
  obtain ⟨v, r, σ', S', H', g1, g2, g3, g4, g5⟩ := he
  exact ⟨v, r, σ', S', H', g1, g2, g3, ⟨g4.os, g4.output, g4.tape, g4.size, g4.block, g4.S1, g4.S2, g4.fixed, g4.fixlt, g4.own⟩, hK _ _ g5⟩
end Go.Ax
