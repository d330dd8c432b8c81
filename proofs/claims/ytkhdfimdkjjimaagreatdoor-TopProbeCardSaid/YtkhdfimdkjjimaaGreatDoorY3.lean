import Derived.Lib.Bytealg
import Derived.Laws.Externs
import Derived.Laws.CopyRow
import Derived.OpenShut
import Derived.Laws.StructEq
import Derived.ChangeKeysEq
import Derived.WideLaws
import Derived.Laws.Bits64
import Derived.Laws.BitsLemmas
import Derived.Lib.AppendStr
import Derived.Lib.UnsafeStr
import Derived.Lib.Builder
import Derived.Laws.Small
import Derived.MapKept
import Derived.Laws.IdiomStrings
import Derived.Lib.ItoaNum
import Derived.Lib.AtoiAll
import Derived.Lib.ParseIntB
import Derived.Lib.Join
import Derived.Test.YtkhdfimdkjjimaaGreatDoorY2
set_option linter.unusedVariables false
set_option linter.unusedSimpArgs false
namespace Go.Ax
variable [Pins]
open Go.RowKit
/-- One more object, of which there is nothing yet. -/
theorem Rep.nowhere1 {c : Ctx} {w : World} {a : Act} {σ : Nat → Option Blk} {S : Nat → Prop} {n : Nat} {fr : Fr} {H : zP} (hr : Rep c w a σ S n fr H) {o : AObj} (ho : o.c.len = 0) : Rep c w a (upσ σ H.length .nowhere) S n fr (H ++ [some o]) := by
 have hext : ∀ h B, σ h = some B → upσ σ H.length .nowhere h = some B := by
  intro h B hB
  unfold upσ
  split
  ·rename_i he; rw [he, hr.hr.dom _ (Nat.le_refl _)] at hB; cases hB
  ·exact hB
 have hv : ∀ {x v}, VR w S σ x v → VR w S (upσ σ H.length .nowhere) x v := fun h => h.mono (fun _ h => h) (fun _ _ => rfl) _ hext
 have hset : ∀ (h' : Nat) (o' : AObj), (H ++ [some o])[h']? = some (some o') → (h' = H.length ∧ o' = o) ∨ (h' < H.length ∧ H[h']? = some (some o')) := by
  intro h' o' ho
  by_cases he : h' < H.length
  ·rw [List.getElem?_append_left he] at ho; exact .inr ⟨he, ho⟩
  ·by_cases he2 : h' = H.length
   ·subst he2; simp at ho; exact .inl ⟨rfl, ho.symm⟩
   ·have : (H ++ [some o]).length ≤ h' := by simp; omega
    rw [List.getElem?_eq_none this] at ho; cases ho
 have hnone : ∀ h, h < H.length → upσ σ H.length .nowhere h = σ h := fun h hl => by simp [upσ, Nat.ne_of_lt hl]
 have hat : upσ σ H.length .nowhere H.length = some .nowhere := by simp [upσ]
 refine ⟨⟨?_, ?_, hr.hr.small, fun h hl => ?_⟩, ⟨hr.kp.os, hr.kp.output, hr.kp.tape, hr.kp.size, hr.kp.block, hr.kp.S1, hr.kp.S2, fun h hf => by rw [hnone h (hr.kp.fixlt h hf)]; exact hr.kp.fixed h hf, fun h hf => by have := hr.kp.fixlt h hf; simp; omega, ?_⟩, hr.defers, hr.size, fun t v hl => ⟨(hr.slots t v hl).1, hv (hr.slots t v hl).2⟩⟩
 ·intro h' o' ho'
  rcases hset h' o' ho' with ⟨rfl, rfl⟩ | ⟨hlt, ho'⟩
  ·exact .inl ⟨hat, ho⟩
  ·rcases hr.hr.live h' o' ho' with ⟨hn, hl0⟩ | ⟨b', C', cu, g1, g2, g3, g4, g5, g6, g7⟩
   ·exact .inl ⟨hext _ _ hn, hl0⟩
   ·right
    refine ⟨b', C', cu, hext _ _ g1, g2.mono U hv, g3, g4, g5, g6, fun i j hi hj => ?_⟩
    obtain ⟨v, e1, e2, e3⟩ := g7 i j hi hj
    exact ⟨v, e1, hv e2, e3⟩
 ·intro h1 h2 o1 o2 b s1 C1 s2 C2 q1 q2 e1 e2
  rcases hset h1 o1 q1 with ⟨rfl, rfl⟩ | ⟨l1, q1'⟩
  ·rw [hat] at e1; cases e1
  ·rcases hset h2 o2 q2 with ⟨rfl, rfl⟩ | ⟨l2, q2'⟩
   ·rw [hat] at e2; cases e2
   ·rw [hnone h1 l1] at e1
    rw [hnone h2 l2] at e2
    exact hr.hr.dist h1 h2 o1 o2 b s1 C1 s2 C2 q1' q2' e1 e2
 ·simp only [List.length_append, List.length_cons, List.length_nil] at hl
  have : ¬ h = H.length := by omega
  simp only [upσ, this, if_false]
  exact hr.hr.dom h (by omega)
 ·intro h' o' b s C ho hb
  rcases hset h' o' ho with ⟨rfl, rfl⟩ | ⟨hlt, ho'⟩
  ·rw [hat] at hb; cases hb
  ·rw [hnone h' hlt] at hb
   exact hr.kp.own h' o' b s C ho' hb
/-- Cells, told otherwise. -/
theorem Rep.recell {c : Ctx} {w : World} {a : Act} {σ : Nat → Option Blk} {S : Nat → Prop} {n : Nat} {fr : Fr} {H : zP} (hr : Rep c w a σ S n fr H) {h : Nat} {o : AObj} (hh : H[h]? = some (some o)) {c' : Cells} (h1 : c'.len = o.c.len) (h2 : c'.kd = o.c.kd)
 (h3 : ∀ i j v, i < o.c.len → j < o.c.sz → VR w S σ (o.c.at i j) v → VR w S σ (c'.at i j) v) : Rep c w a σ S n fr (H.set h (some ⟨o.ty, c'⟩)) := by
 have hlt : h < H.length := (List.getElem?_eq_some_iff.1 hh).1
 have hset : ∀ (h' : Nat) (o' : AObj), (H.set h (some ⟨o.ty, c'⟩))[h']? = some (some o') → ∃ o0 : AObj, H[h']? = some (some o0) ∧ o'.ty = o0.ty ∧ o'.c.len = o0.c.len ∧ o'.c.kd = o0.c.kd ∧ ∀ i j v, i < o0.c.len → j < o0.c.sz → VR w S σ (o0.c.at i j) v → VR w S σ (o'.c.at i j) v := by
  intro h' o' ho
  by_cases he : h' = h
  ·subst he
   simp only [List.getElem?_set_self hlt, Option.some.injEq] at ho
   subst ho
   exact ⟨o, hh, U, h1, h2, h3⟩
  ·rw [List.getElem?_set_ne (Ne.symm he)] at ho
   exact ⟨o', ho, U, U, U, fun _ _ _ _ _ h => h⟩
 refine ⟨⟨fun h' o' ho => ?_, fun h1 h2 o1 o2 b s C s' C' q1 q2 e1 e2 => ?_, hr.hr.small, fun h' hl => hr.hr.dom h' (by simpa using hl)⟩, ⟨hr.kp.os, hr.kp.output, hr.kp.tape, hr.kp.size, hr.kp.block, hr.kp.S1, hr.kp.S2, hr.kp.fixed, fun h' hf => by simpa using hr.kp.fixlt h' hf, fun h' o' b s C q e => ?_⟩, hr.defers, hr.size, hr.slots⟩
 ·obtain ⟨o0, h1, h2, h3, h4, h5⟩ := hset h' o' ho
  rw [h3, zLx h4]
  rcases hr.hr.live h' o0 h1 with g | ⟨b, C, cur, g1, g2, g3, g4, g5, g6, g7⟩
  ·exact .inl g
  ·exact .inr ⟨b, C, cur, g1, g2.kd h2 h4, g3, g4, g5, g6, fun i j hi hj => by
    obtain ⟨v, e1, e2, e3⟩ := g7 i j hi hj
    exact ⟨v, e1, h5 i j v hi hj e2, e3⟩⟩
 ·obtain ⟨p, p1, _⟩ := hset h1 o1 q1
  obtain ⟨p', p1', _⟩ := hset h2 o2 q2
  exact hr.hr.dist h1 h2 p p' b s C s' C' p1 p1' e1 e2
 ·obtain ⟨p, p1, _⟩ := hset h' o' q
  exact hr.kp.own h' p b s C p1 e
section
variable {P : Program} {fn : Func} {c : Ctx} {fr : Fr} {H : zP} {k : List It}
end
/-- What a value is told as, once the objects of HF are only read. -/
def FzTo (HF : zP) (x y : AV) : Prop := y = x ∨ y = .any ∨ (y = x.frz HF ∧ inB HF x)
def fzk (HF : zP) (fr : Fr) : Fr → Prop
 | [] => True
 | (t, y) :: r => (∃ x, zAa t fr = some x ∧ FzTo HF x y) ∧ fzk HF fr r
theorem look_fzk {HF : zP} {fr L : Fr} {t : Nat} {y : AV} (h : fzk HF fr L) (hl : zAa t L = some y) : ∃ x, zAa t fr = some x ∧ FzTo HF x y := by
 have _p := ‹Pins›
 induction L with
 | nil => simp [zAa] at hl
 | cons p r ih =>
  obtain ⟨u, x⟩ := p
  obtain ⟨h1, h2⟩ := h
  simp only [zAa] at hl
  by_cases he : t = u
  ·subst he; simp at hl; subst hl; exact h1
  ·have hb : Nat.beq t u = false := zBX he
   simp [hb] at hl
   exact ih h2 hl
/-- Objects that nobody writes any more join the region. -/
theorem Rep.freeze {c : Ctx} {w : World} {a : Act} {σ : Nat → Option Blk} {S : Nat → Prop} {n : Nat} {fr L : Fr} {H : zP} (hr : Rep c w a σ S n fr H) (HF H' : zP) (hsub : subH HF H) (hrl : ∀ (h : Nat) (o : AObj), HF[h]? = some (some o) → zAG o.c)
 (hlen : H'.length = H.length)
 (hH : ∀ (h : Nat) (o' : AObj), H'[h]? = some (some o') → (∀ o : AObj, HF[h]? ≠ some (some o)) ∧ ∃ o : AObj, H[h]? = some (some o) ∧ o'.ty = o.ty ∧ o'.c.len = o.c.len ∧ o'.c.kd = o.c.kd ∧ ∀ i j, i < o.c.len → j < o.c.sz → FzTo HF (o.c.at i j) (o'.c.at i j))
 (hL : fzk HF fr L) : ∃ S', Rep c w a σ S' n L H' := by
 have hlive : zJv w S σ HF := fun h o ho => hr.hr.live h o (hsub h o ho)
 let S' : Nat → Prop := fun b => S b ∨ ∃ h o s C, HF[h]? = some (some o) ∧ σ h = some (.at b s C)
 have hup : ∀ {σ1 : Nat → Option Blk} {x v}, VR w S σ1 x v → VR w S' σ1 x v := fun h => h.mono (fun _ h => .inl h) (fun _ _ => rfl) _ (fun _ _ h => h)
 have hfz : ∀ {x y v}, FzTo HF x y → VR w S σ x v → VR w S' σ y v := by
  intro x y v h hv
  rcases h with rfl | rfl | ⟨rfl, hin⟩
  ·exact hup hv
  ·exact .any _ _
  ·exact VR.freeze hlive hrl (fun _ h => .inl h) (fun h o b s C h1 h2 => .inr ⟨h, o, s, C, h1, h2⟩) hv σ hin
 refine ⟨S', ⟨fun h o' ho' => ?_, fun h1 h2 o1 o2 b s C s' C' q1 q2 e1 e2 => ?_, fun b hb => ?_, fun h hl => hr.hr.dom h (by omega)⟩, ⟨hr.kp.os, hr.kp.output, hr.kp.tape, hr.kp.size, hr.kp.block, fun b hb => .inl (hr.kp.S1 b hb), fun b hb => ?_, hr.kp.fixed, fun h hf => by rw [hlen]; exact hr.kp.fixlt h hf, fun h o b s C q e => ?_⟩, hr.defers, hr.size, fun t y hy => ?_⟩
 ·obtain ⟨hno, o, h1, h2, h3, h4, h5⟩ := hH h o' ho'
  rw [h3, zLx h4]
  rcases hr.hr.live h o h1 with g | ⟨b, C, cur, g1, g2, g3, g4, g5, g6, g7⟩
  ·exact .inl g
  ·refine .inr ⟨b, C, cur, g1, (g2.mono U hup).kd h2 h4, g3, g4, g5, ?_, fun i j hi hj => ?_⟩
   ·rintro (hs | ⟨h', o2, s2, C2, q1, q2⟩)
    ·exact g6 hs
    ·have := hr.hr.dist h h' o o2 b _ C s2 C2 h1 (hsub h' o2 q1) g1 q2
     subst this
     exact hno o2 q1
   ·obtain ⟨v, e1, e2, e3⟩ := g7 i j hi hj
    exact ⟨v, e1, hfz (h5 i j hi hj) e2, e3⟩
 ·obtain ⟨_, p, p1, _⟩ := hH h1 o1 q1
  obtain ⟨_, p', p1', _⟩ := hH h2 o2 q2
  exact hr.hr.dist h1 h2 p p' b s C s' C' p1 p1' e1 e2
 ·rcases hb with hs | ⟨h, o, s, C, q1, q2⟩
  ·exact hr.hr.small b hs
  ·obtain ⟨_, cu, g, _⟩ := hr.obj (hsub h o q1) q2
   exact g.lt
 ·rcases hb with hs | ⟨h, o, s, C, q1, q2⟩
  ·exact hr.kp.S2 b hs
  ·rcases hr.kp.own h o b s C (hsub h o q1) q2 with g | g
   ·exact .inr (.inl g)
   ·exact .inr (.inr g)
 ·obtain ⟨_, p, p1, _⟩ := hH h o q
  exact hr.kp.own h p b s C p1 e
 ·obtain ⟨x, hx, hf⟩ := look_fzk hL hy
  exact ⟨(hr.slots t x hx).1, hfz hf (hr.slots t x hx).2⟩
section
variable {P : Program} {fn : Func} {c : Ctx} {fr : Fr} {H : zP} {k : List It}
theorem zBD {x : Code} (HF H' : zP) (L : Fr) (hsub : subH HF H) (hrl : ∀ (h : Nat) (o : AObj), HF[h]? = some (some o) → zAG o.c) (hlen : H'.length = H.length)
 (hH : ∀ (h : Nat) (o' : AObj), H'[h]? = some (some o') → (∀ o : AObj, HF[h]? ≠ some (some o)) ∧ ∃ o : AObj, H[h]? = some (some o) ∧ o'.ty = o.ty ∧ o'.c.len = o.c.len ∧ o'.c.kd = o.c.kd ∧ ∀ i j, i < o.c.len → j < o.c.sz → FzTo HF (o.c.at i j) (o'.c.at i j))
 (hL : fzk HF fr L) (hk : Ax P fn c (.code x k) L H') : Ax P fn c (.code x k) fr H := by
 intro w a σ S hr
 obtain ⟨S', hr'⟩ := hr.freeze HF H' hsub hrl hlen hH hL
 exact hk w a σ S' hr'
theorem zAK {x : Code} (H' : zP) (he : H = H') (hk : Ax P fn c (.code x k) fr H') : Ax P fn c (.code x k) fr H := he ▸ hk
end
end Go.Ax
namespace Go.Ax
variable [Pins]
open Go.RowKit
section
variable {ind : Bool} {P : Program} {fn : Func} {c : Ctx} {fr : Fr} {H : zP} {k : List It}
variable {d : Option Nat} {ty : TypeId} {pos : String} {after : Array Edge} {gu : Option (Nat × Bool)}
end
def AEqs : List AV → List AV → Prop
 | [], [] => True
 | x :: r, y :: q => AEq x y ∧ AEqs r q
 | _, _ => False
theorem AEqs.length : ∀ {a b : List AV}, AEqs a b → a.length = b.length
 | [], [], _ => have _p := ‹Pins›; rfl
 | _ :: r, _ :: q, h => by simp [AEqs.length h.2]
 | [], _ :: _, h => h.elim
 | _ :: _, [], h => h.elim
theorem AEqs.get : ∀ {a b : List AV}, AEqs a b → ∀ i, i < a.length → AEq (a.getD i .any) (b.getD i .any)
 | [], [], _, i, hi => by have _p := ‹Pins›; simp at hi
 | x :: r, y :: q, h, 0, _ => h.1
 | x :: r, y :: q, h, i + 1, hi => by simpa using AEqs.get h.2 i (by simpa using hi)
 | [], _ :: _, h, _, _ => h.elim
 | _ :: _, [], h, _, _ => h.elim
end Go.Ax
namespace Go.Ax
variable [Pins]
open Go.RowKit
section
variable {ind : Bool} {P : Program} {fn : Func} {c : Ctx} {fr : Fr} {H : zP} {k : List It}
variable {d : Option Nat} {ty : TypeId} {pos : String} {after : Array Edge} {g : Option (Nat × Bool)}
/-- The address of an array's element (of one cell). -/
theorem zAk {x ix : Operand} {t e : TypeId} {n h i j jx : Nat} {kk : IntKind} {m : Int} (ht : P.underlying t = some (.array n e)) (hs : (P.info? e).map (·.size) = some 1) (hx : ev fr x = some (.ptr h i j)) (hi : ev fr ix = some (.int kk m)) (hj : j + m.toNat = jx) (hb : 0 ≤ m ∧ m < n) :
 QOp ind P fn c fr H ⟨d, .indexAddr t x ix, ty, pos, after, g⟩ (.ptr h i jx) := by
 intro w a σ S hr
 have h1 := hr.evAt hx
 have h2 := hr.evInt hi
 subst hj
 generalize hz : a.eval x = z at h1
 cases h1 with
 | ptr _ _ _ _ b s C hσ =>
  refine ⟨_, .ptr _ h i (j + m.toNat) b s C hσ, fun w' _ => ?_⟩
  cases hq : P.info? e with
  | none => simp [hq] at hs
  | some inf =>
   have hsz : inf.size = 1 := by simpa [hq] using hs
   simp [execOp, hz, h2, Instr.indexAt, Instr.sureAddr, asIntOf, run_underlying ht, hb, sizeOf, typeInfo, hq, hsz, Addr.add_lit, Nat.add_assoc]
theorem zB1 {x ix : Operand} {t e : TypeId} {n i j jx : Nat} {cl : Cells} {kk : IntKind} {m : Int} (ht : P.underlying t = some (.array n e)) (hs : (P.info? e).map (·.size) = some 1) (hx : ev fr x = some (.rp cl i j)) (hi : ev fr ix = some (.int kk m)) (hj : j + m.toNat = jx) (hb : 0 ≤ m ∧ m < n) :
 QOp ind P fn c fr H ⟨d, .indexAddr t x ix, ty, pos, after, g⟩ (.rp cl i jx) := by
 intro w a σ S hr
 have h1 := hr.evAt hx
 have h2 := hr.evInt hi
 subst hj
 generalize hz : a.eval x = z at h1
 cases h1 with
 | rp _ _ _ _ b o val hS hc hvv h1' =>
  refine ⟨.pointer (some ⟨b, o + m.toNat, none⟩), .rp _ _ _ _ _ _ (fun e => val (m.toNat + e)) hS (fun e he => ?_) (fun e he => ?_) (fun e he => h1' _ (by omega)), fun w' _ => ?_⟩
  ·have := hc (m.toNat + e) (by omega)
   rwa [← Nat.add_assoc] at this
  ·have := hvv (m.toNat + e) (by omega)
   rwa [← Nat.add_assoc] at this
  ·cases hq : P.info? e with
   | none => simp [hq] at hs
   | some inf =>
    have hsz : inf.size = 1 := by simpa [hq] using hs
    simp [execOp, hz, h2, Instr.indexAt, Instr.sureAddr, asIntOf, run_underlying ht, hb, sizeOf, typeInfo, hq, hsz, Addr.add_lit]
/-- Reading a whole struct or array. -/
theorem zJn {x : Operand} {t : TypeId} {u : TypeDesc} {h i : Nat} {ob : AObj} {inf : TypeInfo} {L : List AV} (ht : P.underlying t = some u) (hu : zBO u = true) (hinf : P.info? t = some inf) (hsz : inf.size = ob.c.sz) (hx : ev fr x = some (.ptr h i 0)) (hh : H[h]? = some (some ob))
 (hL : (List.range ob.c.sz).map (ob.c.at i) = L) (hi : i < ob.c.len) : QOp false P fn c fr H ⟨d, .load t x, ty, pos, after, g⟩ (.agg L) := by
 intro w a σ S hr
 have h1 := hr.evAt hx
 subst hL
 generalize hz : a.eval x = z at h1
 cases h1 with
 | ptr _ _ _ _ b s C hσ =>
  obtain ⟨hs', cur, g1, g2, g3, g4, g5, g6⟩ := hr.obj hh hσ
  subst hs'
  have hcell : ∀ w' : World, w'.heap = w.heap → ∀ j, j < ob.c.sz → ∃ y, w'.cell? ⟨b, i * ob.c.sz + j, none⟩ = some y ∧ VR w S σ (ob.c.at i j) y ∧ y.oneCell' = true := by
   intro w' hw j hj
   obtain ⟨y, e1, e2, e3⟩ := g6 i j hi hj
   obtain ⟨mk, g1, _, _⟩ := g1.cells (by omega)
   exact ⟨y, by simp [World.cell?, hw, g1, e1], e2, e3⟩
  let cs : List Value := (List.range ob.c.sz).map (fun j => (w.cell? ⟨b, i * ob.c.sz + j, none⟩).getD undef)
  refine ⟨.agg cs.toArray, .agg _ _ _ (by simp [cs]) (fun j hj => ?_) (fun j hj => ?_), fun w' hw => ?_⟩
  ·have hj' : j < ob.c.sz := by simpa using hj
   obtain ⟨y, e1, e2, _⟩ := hcell w rfl j hj'
   simpa [cs, Array.getD, hj', e1, List.getD] using e2
  ·have hj' : j < ob.c.sz := by simpa using hj
   obtain ⟨y, e1, _, e3⟩ := hcell w rfl j hj'
   simpa [cs, Array.getD, hj', e1] using e3
  ·have hw := hw.resolve_left (by decide)
   have hl := run_loadCells_list (P := P) w' ⟨b, i * ob.c.sz, none⟩ cs (fun j v hv => by
    have hj : j < ob.c.sz := by simpa [cs] using (List.getElem?_eq_some_iff.1 hv).1
    obtain ⟨y, e1, _, _⟩ := hcell w rfl j hj
    simp only [cs, List.getElem?_map, List.getElem?_range hj, Option.map_some, Option.some.injEq] at hv
    subst hv
    rw [e1, Addr.add_lit]
    have := World.cell?_of_block (w := w) (w' := w') (a := ⟨b, i * ob.c.sz + j, none⟩) (by rw [hw])
    rw [this, e1]; rfl)
   have hcl : cs.length = inf.size := by simp [cs, hsz]
   rw [hcl] at hl
   have hz' : a.eval x = .pointer (some ⟨b, i * ob.c.sz, none⟩) := by rw [hz]; simp
   simp [execOp, hz', Instr.loadAt, Instr.sureAddr, loadVar, zCY ht, hu, sizeOf, typeInfo, hinf, hl]
theorem zm {x : Operand} {t : TypeId} {u : TypeDesc} {i : Nat} {cl : Cells} {inf : TypeInfo} {L : List AV} (ht : P.underlying t = some u) (hu : zBO u = true) (hinf : P.info? t = some inf) (hsz : inf.size = cl.sz) (hx : ev fr x = some (.rp cl i 0))
 (hL : (List.range cl.sz).map (cl.at i) = L) : QOp false P fn c fr H ⟨d, .load t x, ty, pos, after, g⟩ (.agg L) := by
 intro w a σ S hr
 have h1 := hr.evAt hx
 subst hL
 generalize hz : a.eval x = z at h1
 cases h1 with
 | rp _ _ _ _ b o val hS hc hvv h1' =>
  let cs : List Value := (List.range cl.sz).map val
  refine ⟨.agg cs.toArray, .agg _ _ _ (by simp [cs]) (fun j hj => ?_) (fun j hj => ?_), fun w' hw => ?_⟩
  ·have hj' : j < cl.sz := by simpa using hj
   have := (hvv j (by omega)).mono (w' := w) (fun _ h => h) (fun _ _ => rfl) σ (fun _ _ h => by cases h)
   simpa [cs, Array.getD, hj', List.getD] using this
  ·have hj' : j < cl.sz := by simpa using hj
   have := h1' j (by omega)
   simpa [cs, Array.getD, hj'] using this
  ·have hw := hw.resolve_left (by decide)
   have hl := run_loadCells_list (P := P) w' ⟨b, o, none⟩ cs (fun j v hv => by
    have hj : j < cl.sz := by simpa [cs] using (List.getElem?_eq_some_iff.1 hv).1
    simp only [cs, List.getElem?_map, List.getElem?_range hj, Option.map_some, Option.some.injEq] at hv
    subst hv
    rw [Addr.add_lit]
    have := World.cell?_of_block (w := w) (w' := w') (a := ⟨b, o + j, none⟩) (by rw [hw])
    rw [this]; exact hc j (by omega))
   have hcl : cs.length = inf.size := by simp [cs, hsz]
   rw [hcl] at hl
   simp [execOp, hz, Instr.loadAt, Instr.sureAddr, loadVar, zCY ht, hu, sizeOf, typeInfo, hinf, hl]
/-- The address of a field. -/
theorem zO {x : Operand} {s : TypeId} {fs : Array Field} {f h i j jx : Nat} {fd : Field} {inf : TypeInfo} (ht : P.underlying s = some (.struct fs)) (hf : fs[f]? = some fd) (hi : P.info? fd.type = some inf) (hne : Nat.beq inf.size 0 = false) (hx : ev fr x = some (.ptr h i j)) (hj : j + fd.offset = jx) :
 QOp ind P fn c fr H ⟨d, .fieldAddr s x f, ty, pos, after, g⟩ (.ptr h i jx) := by
 intro w a σ S hr
 have h1 := hr.evAt hx
 subst hj
 have hne' : ¬ inf.size = 0 := fun e => by rw [e] at hne; cases hne
 generalize hz : a.eval x = z at h1
 cases h1 with
 | ptr _ _ _ _ b sz C hσ =>
  refine ⟨_, .ptr _ h i (j + fd.offset) b sz C hσ, fun w' _ => ?_⟩
  simp [execOp, hz, Instr.fieldAt, run_underlying ht, hf, Instr.sureAddr, fieldPlace, sizeOf, typeInfo, hi, hne', Addr.add_lit, Nat.add_assoc]
theorem zK {x : Operand} {s : TypeId} {fs : Array Field} {f i j jx : Nat} {cl : Cells} {fd : Field} {inf : TypeInfo} (ht : P.underlying s = some (.struct fs)) (hf : fs[f]? = some fd) (hi : P.info? fd.type = some inf) (hne : Nat.beq inf.size 0 = false) (hx : ev fr x = some (.rp cl i j)) (hj : j + fd.offset = jx) :
 QOp ind P fn c fr H ⟨d, .fieldAddr s x f, ty, pos, after, g⟩ (.rp cl i jx) := by
 intro w a σ S hr
 have h1 := hr.evAt hx
 subst hj
 have hne' : ¬ inf.size = 0 := fun e => by rw [e] at hne; cases hne
 generalize hz : a.eval x = z at h1
 cases h1 with
 | rp _ _ _ _ b o val hS hc hvv h1' =>
  refine ⟨.pointer (some ⟨b, o + fd.offset, none⟩), .rp _ _ _ _ _ _ (fun e => val (fd.offset + e)) hS (fun e he => ?_) (fun e he => ?_) (fun e he => h1' _ (by omega)), fun w' _ => ?_⟩
  ·have := hc (fd.offset + e) (by omega)
   rwa [← Nat.add_assoc] at this
  ·have := hvv (fd.offset + e) (by omega)
   rwa [← Nat.add_assoc] at this
  ·simp [execOp, hz, Instr.fieldAt, run_underlying ht, hf, Instr.sureAddr, fieldPlace, sizeOf, typeInfo, hi, hne', Addr.add_lit]
/-- A pointer that is not nil. -/
theorem zV {x : Operand} {h i j : Nat} (hx : ev fr x = some (.ptr h i j)) : QOp ind P fn c fr H ⟨d, .nilCheck x, ty, pos, after, g⟩ (.ptr h i j) := by
 intro w a σ S hr
 have h1 := hr.evAt hx
 generalize hz : a.eval x = z at h1
 cases h1 with
 | ptr _ _ _ _ b s C hσ => exact ⟨_, .ptr _ h i j b s C hσ, fun w' _ => by simp [execOp, hz]⟩
theorem zAH {x : Operand} {cl : Cells} {i j : Nat} (hx : ev fr x = some (.rp cl i j)) : QOp ind P fn c fr H ⟨d, .nilCheck x, ty, pos, after, g⟩ (.rp cl i j) := by
 intro w a σ S hr
 have h1 := hr.evAt hx
 generalize hz : a.eval x = z at h1
 cases h1 with
 | rp _ _ _ _ b o val hS hc hvv h1' => exact ⟨_, .rp _ _ _ _ _ _ val hS hc hvv h1', fun w' _ => by simp [execOp, hz]⟩
/-- A store of a whole struct or array. -/
theorem zDT {all : Array Oper} {t : TypeId} {x y : Operand} {ty : TypeId} {pos : String} {after : Array Edge} {rest : List Oper} {h i : Nat} {ob : AObj} {L : List AV} {c' : Cells}
 (hx : ev fr x = some (.ptr h i 0)) (hy : ev fr y = some (.agg L)) (hs : (P.info? t).map (·.size) = some ob.c.sz) (hh : H[h]? = some (some ob)) (hl : L.length = ob.c.sz) (hi : i < ob.c.len)
 (h1 : c'.len = ob.c.len) (h2 : c'.sz = ob.c.sz) (h3 : ∀ i' j', i' < ob.c.len → j' < ob.c.sz → c'.at i' j' = if i' = i then L.getD j' .any else ob.c.at i' j')
 (hk : Ax P fn c (.ops false all rest k) fr (H.set h (some ⟨ob.ty, c'⟩))) (hz0 : ob.c.sz ≠ 0 := by (intro hh; cases hh)) : Ax P fn c (.ops false all (⟨none, .store t x y, ty, pos, after, none⟩ :: rest) k) fr H := by
 refine ax_w0 (fun w a σ S hr => ?_) hk
 have e1 := hr.evAt hx
 have e2 := hr.evAt hy
 generalize hz : a.eval x = z at e1
 generalize hzy : a.eval y = u at e2
 cases e2 with
 | agg _ _ vs hvl hvv hv1 =>
  cases e1 with
  | ptr _ _ _ _ b s C hσ =>
   obtain ⟨hs', cur, g1, g2, g3, g4, g5, g6⟩ := hr.obj hh hσ
   subst hs'
   obtain ⟨mk, g1, hmk, hrow⟩ := g1.cells hz0
   have hfit : i * ob.c.sz + ob.c.sz ≤ cur.size := by
    rw [g2]
    have : (i + 1) * ob.c.sz ≤ C * ob.c.sz := Nat.mul_le_mul_right _ (by omega)
    rw [Nat.add_mul] at this; omega
   have hvsz : vs.size = ob.c.sz := by rw [hvl, hl]
   have hst := zBM P b (i * ob.c.sz) ob.ty mk vs.toList 0 cur w g1 hmk (by simp [hvsz]; exact hfit) (fun v hv => by
    obtain ⟨j, hj, rfl⟩ := List.getElem_of_mem hv
    have hj' : j < vs.size := by simpa using hj
    have := hv1 j (by rw [← hvl]; exact hj')
    simpa [Array.getD, hj'] using this)
   simp only [Nat.add_zero] at hst
   generalize hcur : (cur.toList.take (i * ob.c.sz) ++ vs.toList ++ cur.toList.drop (i * ob.c.sz + vs.toList.length)).toArray = cur' at hst
   have hlen' : cur'.size = cur.size := by rw [← hcur]; simp [hvsz]; omega
   have hat : ∀ p, p < cur.size → cur'[p]? = if i * ob.c.sz ≤ p ∧ p < i * ob.c.sz + ob.c.sz then vs[p - i * ob.c.sz]? else cur[p]? := by
    intro p hp
    rw [← hcur]
    simp only [List.getElem?_toArray, List.append_assoc]
    by_cases c1 : p < i * ob.c.sz
    ·rw [List.getElem?_append_left (by simp; omega), List.getElem?_take, if_pos c1, if_neg (by omega)]; simp
    ·rw [List.getElem?_append_right (by simp; omega)]
     have ht : (cur.toList.take (i * ob.c.sz)).length = i * ob.c.sz := by simp; omega
     rw [ht]
     by_cases c2 : p < i * ob.c.sz + ob.c.sz
     ·rw [List.getElem?_append_left (by simp [hvsz]; omega), if_pos ⟨by omega, c2⟩]; simp
     ·rw [List.getElem?_append_right (by simp [hvsz]; omega), if_neg (by omega)]
      simp only [Array.length_toList, hvsz, List.getElem?_drop, Array.getElem?_toList]
      congr 1; omega
   refine ⟨w.setRow b cur', σ, S, ?_, hr.setRow hh hσ hrow h2 (by omega) (by rw [hlen', g2]) (fun i' j' hi' hj' => ?_)⟩
   ·simp only [Nat.add_zero] at hz
    simp only [execOp, hz, hzy, Instr.storeAt, Instr.sureAddr, storeVar, Sem.run_bind, Sem.run_pure, Result.andThen_ok, zEg hs, Value.cells, hvsz]
    simp [hst]
   ·rw [h1] at hi'
    rw [h2] at hj' ⊢
    rw [h3 i' j' hi' hj']
    have hp : i' * ob.c.sz + j' < cur.size := by
     rw [g2]
     have : (i' + 1) * ob.c.sz ≤ C * ob.c.sz := Nat.mul_le_mul_right _ (by omega)
     rw [Nat.add_mul] at this; omega
    rw [hat _ hp]
    by_cases he : i' = i
    ·subst he
     rw [if_pos rfl, if_pos ⟨by omega, by omega⟩]
     have hjv : j' < vs.size := by omega
     refine ⟨vs.getD j' undef, by simp [Array.getD, hjv], hvv j' (by omega), hv1 j' (by omega)⟩
    ·rw [if_neg he]
     have hne : ¬ (i * ob.c.sz ≤ i' * ob.c.sz + j' ∧ i' * ob.c.sz + j' < i * ob.c.sz + ob.c.sz) := by
      rintro ⟨q1, q2⟩
      rcases Nat.lt_or_gt_of_ne he with hlt | hlt
      ·have : (i' + 1) * ob.c.sz ≤ i * ob.c.sz := Nat.mul_le_mul_right _ hlt
       rw [Nat.add_mul] at this; omega
      ·have : (i + 1) * ob.c.sz ≤ i' * ob.c.sz := Nat.mul_le_mul_right _ hlt
       rw [Nat.add_mul] at this; omega
     rw [if_neg hne]
     exact g6 i' j' hi' hj'
end
end Go.Ax
namespace Go.Ax
variable [Pins]
open Go.RowKit
section
variable {P : Program} {fn : Func} {c : Ctx} {fr : Fr} {H : zP} {k : List It}
theorem zHY {w : World} {a : Act} {σ : Nat → Option Blk} {S : Nat → Prop} {n : Nat} (hr : Rep c w a σ S n fr H) {all : Array Oper} {d : Option Nat} {op : Op} {ty : TypeId} {pos : String} {after : Array Edge} {j t : Nat} {p : Bool}
 (hy : zDp all j = some t) (hb : zAa t fr = some (.tup [])) : Region.wanted ⟨d, op, ty, pos, after, some (j, p)⟩ (yielded all a.tmps) = false := by
 obtain ⟨h1, h2⟩ := hr.slots t _ hb
 have h3 : t < a.tmps.size := by rw [hr.size]; exact h1
 generalize hz : a.tmps.getD t undef = z at h2
 cases h2
 rename_i vs hl hv
 have h4 : a.tmps[t]? = some (.tuple vs) := by
  simp only [Array.getD, h3, dite_true] at hz
  simp only [Array.getElem?_eq_getElem h3]
  exact congrArg some hz
 unfold zDp at hy
 simp only [Region.wanted, yielded, hy, Option.bind_some, h4]
 cases p <;> rfl
theorem zHX {w : World} {S : Nat → Prop} {σ : Nat → Option Blk} : VR w S σ (.tup []) undef := have _p := ‹Pins›; .tup _ _ _ rfl (fun i hi => absurd hi (Nat.not_lt_zero _))
/-- An operation that is passed over leaves nothing in its slot. -/
theorem zAZ {q : Bool} {all : Array Oper} {d : Nat} {op : Op} {ty : TypeId} {pos : String} {after : Array Edge} {rest : List Oper} {j t : Nat} {p b : Bool}
 (hy : zDp all j = some t) (hb : zAa t fr = some (.bool b)) (hne : (b == p) = false) (h : Ax P fn c (.ops q all rest k) ((d, .tup []) :: fr) H) : Ax P fn c (.ops q all (⟨some d, op, ty, pos, after, some (j, p)⟩ :: rest) k) fr H := by
 cases q with
 | false =>
  intro hd w a σ S hr
  obtain ⟨hd1, hd2⟩ := zBV hd
  simp only [wpList, zGP hr hy hb, hne, Bool.false_eq_true, if_false]
  exact h hd2 w _ σ S (hr.put zHX (hd1 d U))
 | true =>
  intro hd w a σ S hr
  obtain ⟨hd1, hd2⟩ := zBV hd
  simp only [wpQuiet, zGP hr hy hb, hne, Bool.false_eq_true, if_false]
  exact h hd2 w _ σ S (hr.put zHX (hd1 d U))
theorem zAu {q : Bool} {all : Array Oper} {d : Nat} {op : Op} {ty : TypeId} {pos : String} {after : Array Edge} {rest : List Oper} {j t : Nat} {p : Bool}
 (hy : zDp all j = some t) (hb : zAa t fr = some (.tup [])) (h : Ax P fn c (.ops q all rest k) ((d, .tup []) :: fr) H) : Ax P fn c (.ops q all (⟨some d, op, ty, pos, after, some (j, p)⟩ :: rest) k) fr H := by
 cases q with
 | false =>
  intro hd w a σ S hr
  obtain ⟨hd1, hd2⟩ := zBV hd
  simp only [wpList, zHY hr hy hb, Bool.false_eq_true, if_false]
  exact h hd2 w _ σ S (hr.put zHX (hd1 d U))
 | true =>
  intro hd w a σ S hr
  obtain ⟨hd1, hd2⟩ := zBV hd
  simp only [wpQuiet, zHY hr hy hb, Bool.false_eq_true, if_false]
  exact h hd2 w _ σ S (hr.put zHX (hd1 d U))
end
end Go.Ax
namespace Go.Ax
variable [Pins]
open Go.RowKit
section
variable {P : Program} {fn : Func} {c : Ctx} {fr : Fr} {H : zP} {k : List It}
end
end Go.Ax
namespace Go.Ax
variable [Pins]
mutual
def zCe (n : Nat) : AV → Bool
 | .sl h _ _ => Nat.blt h n
 | .ptr h _ _ => Nat.blt h n
 | .fn _ l => zB4 n l
 | .agg l => zB4 n l
 | .tup l => zB4 n l
 | .mp h => Nat.blt h n
 | _ => true
def zB4 (n : Nat) : List AV → Bool
 | [] => true
 | v :: r => zCe n v && zB4 n r
end
theorem zCt {n : Nat} {l : List AV} (h : zB4 n l = true) (i : Nat) (hi : i < l.length) : zCe n (l.getD i .any) = true := by
 have _p := ‹Pins›
 induction l generalizing i with
 | nil => simp at hi
 | cons v r ih =>
  simp only [zB4, Bool.and_eq_true] at h
  cases i with
  | zero => exact h.1
  | succ i => simpa using ih h.2 i (by simpa using hi)
theorem VR.cutv {w : World} {S : Nat → Prop} {σ : Nat → Option Blk} {n : Nat} {x : AV} {v : Value} (h : VR w S σ x v) : zCe n x = true → ∀ σ' : Nat → Option Blk, (∀ h, h < n → σ' h = σ h) → VR w S σ' x v := by
 induction h with
 | int => intros; constructor
 | bool => intros; constructor
 | str => intros; constructor
 | nil => intros; constructor
 | ro0 => intros; constructor
 | ro σ c i len b o cap val hSb hlen hc hv h1 ih => intro _ σ' _; exact .ro _ _ _ _ _ _ _ val hSb hlen hc hv h1
 | sl σ h i len b s C cap hσ hlen hcap => intro hb σ' hs; exact .sl _ _ _ _ _ _ _ _ (by rw [hs h (Nat.le_of_ble_eq_true hb)]; exact hσ) hlen hcap
 | sl0 σ h hσ => intro hb σ' hs; exact .sl0 _ _ (by rw [hs h (Nat.le_of_ble_eq_true hb)]; exact hσ)
 | rp σ c i j b o val hSb hc hv h1 ih => intro _ σ' _; exact .rp _ _ _ _ _ _ val hSb hc hv h1
 | ptr σ h i j b s C hσ => intro hb σ' hs; exact .ptr _ _ _ _ _ _ _ (by rw [hs h (Nat.le_of_ble_eq_true hb)]; exact hσ)
 | nilp => intros; constructor
 | fn σ f cap vs hl hv ih => intro hn σ' hs; exact .fn _ _ _ _ hl (fun i hi => ih i hi (zCt hn i hi) _ hs)
 | nilfn => intros; constructor
 | iface => intros; constructor
 | nilif => intros; constructor
 | agg σ l vs hl hv h1 ih => intro hn σ' hs; exact .agg _ _ _ hl (fun i hi => ih i hi (zCt hn i hi) _ hs) h1
 | tup σ l vs hl hv ih => intro hn σ' hs; exact .tup _ _ _ hl (fun i hi => ih i hi (zCt hn i hi) _ hs)
 | mp σ h b hσ => intro hb σ' hs; exact .mp _ _ _ (by rw [hs h (Nat.le_of_ble_eq_true hb)]; exact hσ)
 | rom σ ks vs b es clock e hSb hb hn hl hd he hk hv => intro _ σ' _; exact .rom _ _ _ b es clock e hSb hb hn hl hd he hk hv
 | any => intros; constructor
theorem Lays.cutv {w : World} {S : Nat → Prop} {σ σ' : Nat → Option Blk} {o : AObj} {b : Nat} {cur : Array Value} {C n : Nat} (h : Lays w S σ o b cur C) (hc : ∀ ks vs, o.c = .mp ks vs → zB4 n ks = true ∧ zB4 n vs = true) (hs : ∀ h, h < n → σ' h = σ h) : Lays w S σ' o b cur C := by
 have _p := ‹Pins›
 cases h with
 | row mk h hm hC => exact .row mk h hm hC
 | map ks vs es clock hc' hC h hn hl hd he =>
  obtain ⟨b1, b2⟩ := hc ks vs hc'
  exact .map ks vs es clock hc' hC h hn hl hd (fun i hi => let ⟨e, e1, e2, e3⟩ := he i hi; ⟨e, e1, e2.cutv (zCt b1 i hi) _ hs, e3.cutv (zCt b2 i (by omega)) _ hs⟩)
def zKg (n : Nat) : Cells → Bool
 | .ints _ _ => true
 | .strs _ => true
 | .box l => zB4 n l
 | .fn _ _ _ => false
 | .mp ks vs => zB4 n ks && zB4 n vs
theorem zJ1 {n : Nat} {c : Cells} (h : zKg n c = true) (i j : Nat) (hj : j < c.sz) : zCe n (c.at i j) = true := by
 cases c with
 | ints => rfl
 | strs => rfl
 | box l => exact zCt h j hj
 | fn => cases h
 | mp => exact absurd hj (Nat.not_lt_zero _)
def belowO (n : Nat) : Option AObj → Bool
 | none => true
 | some o => zKg n o.c
def zId (n : Nat) : zP → Bool
 | [] => true
 | x :: r => belowO n x && zId n r
theorem zIe {n : Nat} {H : zP} (hb : zId n H = true) {h : Nat} {o : AObj} (ho : H[h]? = some (some o)) : zKg n o.c = true := by
 have _p := ‹Pins›
 induction H generalizing h with
 | nil => simp at ho
 | cons x r ih =>
  simp only [zId, Bool.and_eq_true] at hb
  cases h with
  | zero => simp at ho; subst ho; exact hb.1
  | succ h => exact ih hb.2 (by simpa using ho)
def zB3 (n : Nat) : Fr → Bool
 | [] => true
 | (_, v) :: r => zCe n v && zB3 n r
theorem zIc {n : Nat} {fr : Fr} (hb : zB3 n fr = true) {t : Nat} {v : AV} (hl : zAa t fr = some v) : zCe n v = true := by
 have _p := ‹Pins›
 induction fr with
 | nil => simp [zAa] at hl
 | cons p r ih =>
  obtain ⟨u, x⟩ := p
  simp only [zB3, Bool.and_eq_true] at hb
  simp only [zAa] at hl
  cases hq : Nat.beq t u with
  | true => rw [hq] at hl; simp at hl; subst hl; exact hb.1
  | false => rw [hq] at hl; exact ih hb.2 (by simpa using hl)
def zIM (n : Nat) (σ : Nat → Option Blk) (h : Nat) : Option Blk := if h < n then σ h else none
theorem Rep.cut {c : Ctx} {w : World} {a : Act} {σ : Nat → Option Blk} {S : Nat → Prop} {n : Nat} {fr : Fr} {H H0 H1 : zP} (hr : Rep c w a σ S n fr H) (hH : H = H0 ++ H1) (hf : ∀ h, c.fix h → h < H0.length)
 (hbH : zId H0.length H0 = true) (hbF : zB3 H0.length fr = true) : Rep c w a (zIM H0.length σ) S n fr H0 := by
 subst hH
 have hs : ∀ h, h < H0.length → zIM H0.length σ h = σ h := fun h hl => if_pos hl
 have hget : ∀ {h : Nat} {o : AObj}, H0[h]? = some (some o) → h < H0.length ∧ (H0 ++ H1)[h]? = some (some o) := by
  intro h o ho
  have hl : h < H0.length := (List.getElem?_eq_some_iff.1 ho).1
  exact ⟨hl, by rw [List.getElem?_append_left hl]; exact ho⟩
 refine ⟨⟨fun h o ho => ?_, fun h h' o o' b s C s' C' q1 q2 e1 e2 => ?_, hr.hr.small, fun h hl => if_neg (by omega)⟩, ⟨hr.kp.os, hr.kp.output, hr.kp.tape, hr.kp.size, hr.kp.block, hr.kp.S1, hr.kp.S2, fun h hh => by rw [hs h (hf h hh)]; exact hr.kp.fixed h hh, hf, fun h o b s C q e => ?_⟩, hr.defers, hr.size, fun t v hl => ⟨(hr.slots t v hl).1, (hr.slots t v hl).2.cutv (zIc hbF hl) _ hs⟩⟩
 ·obtain ⟨hl, ho'⟩ := hget ho
  rw [hs h hl]
  rcases hr.hr.live h o ho' with g | ⟨b, C, cur, g1, g2, g3, g4, g5, g6, g7⟩
  ·exact .inl g
  ·refine .inr ⟨b, C, cur, g1, g2.cutv (fun ks vs hc => by have := zIe hbH ho; rw [hc] at this; simpa [zKg] using this) hs, g3, g4, g5, g6, fun i j hi hj => ?_⟩
   obtain ⟨v, k1, k2, k3⟩ := g7 i j hi hj
   exact ⟨v, k1, k2.cutv (zJ1 (zIe hbH ho) i j hj) _ hs, k3⟩
 ·obtain ⟨hl, ho⟩ := hget q1
  obtain ⟨hl', ho'⟩ := hget q2
  rw [hs h hl] at e1
  rw [hs h' hl'] at e2
  exact hr.hr.dist h h' o o' b s C s' C' ho ho' e1 e2
 ·obtain ⟨hl, ho⟩ := hget q
  rw [hs h hl] at e
  exact hr.kp.own h o b s C ho e
section
variable {P : Program} {fn : Func} {c : Ctx} {fr : Fr} {H : zP} {k : List It}
/-- Only the first objects are kept. -/
theorem ax_cut {x : Code} (H0 H1 : zP) (L : Fr) (hH : H = H0 ++ H1) (hL : zA3 fr L) (hf : ∀ h, c.fix h → h < H0.length) (hbH : zId H0.length H0 = true) (hbF : zB3 H0.length L = true)
 (hk : Ax P fn c (.code x k) L H0) : Ax P fn c (.code x k) fr H :=
 fun w a σ S hr => hk w a _ S ((hr.weaken hL).cut hH hf hbH hbF)
/-- The same memory, its cells told otherwise. -/
theorem Rep.heapA {w : World} {a : Act} {σ : Nat → Option Blk} {S : Nat → Prop} {n : Nat} {H' : zP} (hr : Rep c w a σ S n fr H) (hlen : H'.length = H.length)
 (hs : ∀ (h : Nat) (o' : AObj), H'[h]? = some (some o') → ∃ o : AObj, H[h]? = some (some o) ∧ o'.ty = o.ty ∧ o'.c.len = o.c.len ∧ o'.c.kd = o.c.kd ∧ ∀ i j, i < o.c.len → j < o.c.sz → AEq (o.c.at i j) (o'.c.at i j)) : Rep c w a σ S n fr H' := by
 refine ⟨⟨fun h o' ho => ?_, fun h h' o o' b s C s' C' q1 q2 e1 e2 => ?_, hr.hr.small, fun h hl => hr.hr.dom h (by rw [← hlen]; exact hl)⟩, ⟨hr.kp.os, hr.kp.output, hr.kp.tape, hr.kp.size, hr.kp.block, hr.kp.S1, hr.kp.S2, hr.kp.fixed, fun h hf => by rw [hlen]; exact hr.kp.fixlt h hf, fun h o b s C q e => ?_⟩, hr.defers, hr.size, hr.slots⟩
 ·obtain ⟨o, h1, h2, h3, h4, h5⟩ := hs h o' ho
  rw [h3, zLx h4]
  rcases hr.hr.live h o h1 with g | ⟨b, C, cur, g1, g2, g3, g4, g5, g6, g7⟩
  ·exact .inl g
  ·refine .inr ⟨b, C, cur, g1, g2.kd h2 h4, g3, g4, g5, g6, fun i j hi hj => ?_⟩
   obtain ⟨v, k1, k2, k3⟩ := g7 i j hi hj
   exact ⟨v, k1, h5 i j hi hj _ _ _ _ k2, k3⟩
 ·obtain ⟨p, h1, _⟩ := hs h o q1
  obtain ⟨p', h1', _⟩ := hs h' o' q2
  exact hr.hr.dist h h' p p' b s C s' C' h1 h1' e1 e2
 ·obtain ⟨p, h1, _⟩ := hs h o q
  exact hr.kp.own h p b s C h1 e
theorem zLU {x : Code} (H' : zP) (hlen : H'.length = H.length) (hs : ∀ (h : Nat) (o' : AObj), H'[h]? = some (some o') → ∃ o : AObj, H[h]? = some (some o) ∧ o'.ty = o.ty ∧ o'.c.len = o.c.len ∧ o'.c.kd = o.c.kd ∧ ∀ i j, i < o.c.len → j < o.c.sz → AEq (o.c.at i j) (o'.c.at i j))
 (hk : Ax P fn c (.code x k) fr H') : Ax P fn c (.code x k) fr H := fun w a σ S hr => hk w a σ S (hr.heapA hlen hs)
end
end Go.Ax
namespace Go.Ax
variable [Pins]
def zAz (n : Nat) : Cells → Prop
 | .mp ks vs => zB4 n ks = true ∧ zB4 n vs = true
 | c => ∀ i j, i < c.len → j < c.sz → zCe n (c.at i j) = true
theorem zAz.row {n : Nat} {c : Cells} (h : zAz n c) : ∀ i j, i < c.len → j < c.sz → zCe n (c.at i j) = true := by
 have _p := ‹Pins›
 cases c <;> first | exact h | exact fun i j hi => absurd hi (Nat.not_lt_zero _)
theorem zAz.mp {n : Nat} {c : Cells} (h : zAz n c) {ks vs : List AV} (hc : c = .mp ks vs) : zB4 n ks = true ∧ zB4 n vs = true := by have _p := ‹Pins›; subst hc; exact h
theorem Rep.cutP {c : Ctx} {w : World} {a : Act} {σ : Nat → Option Blk} {S : Nat → Prop} {n : Nat} {fr : Fr} {H H0 H1 : zP} (hr : Rep c w a σ S n fr H) (hH : H = H0 ++ H1) (hf : ∀ h, c.fix h → h < H0.length)
 (hbH : ∀ (h : Nat) (o : AObj), H0[h]? = some (some o) → zAz H0.length o.c) (hbF : zB3 H0.length fr = true) : Rep c w a (zIM H0.length σ) S n fr H0 := by
 subst hH
 have hs : ∀ h, h < H0.length → zIM H0.length σ h = σ h := fun h hl => if_pos hl
 have hget : ∀ {h : Nat} {o : AObj}, H0[h]? = some (some o) → h < H0.length ∧ (H0 ++ H1)[h]? = some (some o) := by
  intro h o ho
  have hl : h < H0.length := (List.getElem?_eq_some_iff.1 ho).1
  exact ⟨hl, by rw [List.getElem?_append_left hl]; exact ho⟩
 refine ⟨⟨fun h o ho => ?_, fun h h' o o' b s C s' C' q1 q2 e1 e2 => ?_, hr.hr.small, fun h hl => if_neg (by omega)⟩, ⟨hr.kp.os, hr.kp.output, hr.kp.tape, hr.kp.size, hr.kp.block, hr.kp.S1, hr.kp.S2, fun h hh => by rw [hs h (hf h hh)]; exact hr.kp.fixed h hh, hf, fun h o b s C q e => ?_⟩, hr.defers, hr.size, fun t v hl => ⟨(hr.slots t v hl).1, (hr.slots t v hl).2.cutv (zIc hbF hl) _ hs⟩⟩
 ·obtain ⟨hl, ho'⟩ := hget ho
  rw [hs h hl]
  rcases hr.hr.live h o ho' with g | ⟨b, C, cur, g1, g2, g3, g4, g5, g6, g7⟩
  ·exact .inl g
  ·refine .inr ⟨b, C, cur, g1, g2.cutv (fun ks vs hc => (hbH h o ho).mp hc) hs, g3, g4, g5, g6, fun i j hi hj => ?_⟩
   obtain ⟨v, k1, k2, k3⟩ := g7 i j hi hj
   exact ⟨v, k1, k2.cutv ((hbH h o ho).row i j hi hj) _ hs, k3⟩
 ·obtain ⟨hl, ho⟩ := hget q1
  obtain ⟨hl', ho'⟩ := hget q2
  rw [hs h hl] at e1
  rw [hs h' hl'] at e2
  exact hr.hr.dist h h' o o' b s C s' C' ho ho' e1 e2
 ·obtain ⟨hl, ho⟩ := hget q
  rw [hs h hl] at e
  exact hr.kp.own h o b s C ho e
section
variable {P : Program} {fn : Func} {c : Ctx} {fr : Fr} {H : zP} {k : List It}
theorem zB2 {x : Code} (H0 H1 : zP) (L : Fr) (hH : H = H0 ++ H1) (hL : zA3 fr L) (hf : ∀ h, c.fix h → h < H0.length) (hbH : ∀ (h : Nat) (o : AObj), H0[h]? = some (some o) → zAz H0.length o.c) (hbF : zB3 H0.length L = true)
 (hk : Ax P fn c (.code x k) L H0) : Ax P fn c (.code x k) fr H :=
 fun w a σ S hr => hk w a _ S ((hr.weaken hL).cutP hH hf hbH hbF)
variable {ind : Bool} {d : Option Nat} {t t' ty : TypeId} {pos : String} {after : Array Edge} {g : Option (Nat × Bool)}
end
end Go.Ax
namespace Go.Ax
variable [Pins]
open Go.RowKit
def nilOf : AV → Option Bool
 | .nilp => some true
 | .ptr _ _ _ => some false
 | .rp _ _ _ => some false
 | _ => none
theorem zIO {P : Program} {op : BinOp} {t : TypeId} {x y : Operand} {a b : Option Addr} {w : World} : (eqGuard op t x y (.pointer a) (.pointer b)).run P w = .ok () w := by
 have _p := ‹Pins›
 unfold eqGuard
 split <;> rfl
theorem zIP {P : Program} (w : World) {t e : TypeId} (a : Option Addr) (h : P.underlying t = some (.pointer e)) : (binOp .eql t (.pointer a) (.pointer none)).run P w = .ok (.bool a.isNone) w := by
 have _p := ‹Pins›
 have h1 : ∀ d : Nat, (Op.equalIn (d + 1) t (.pointer a) (.pointer none)).run P w = .ok a.isNone w := fun d => by
  cases a with
  | none => simp [Op.equalIn, run_underlying h]
  | some a => simp [Op.equalIn, run_underlying h]
 simp only [binOp]
 simp [Op.equal, Op.maxDepth, h1 9999]
section
variable {P : Program} {fn : Func} {c : Ctx} {fr : Fr} {H : zP} {k : List It} {ind : Bool} {d : Option Nat} {ty : TypeId} {pos : String} {after : Array Edge} {g : Option (Nat × Bool)}
theorem vr_nilOf {w : World} {S : Nat → Prop} {σ : Nat → Option Blk} {v : AV} {z : Value} {b : Bool} (h : VR w S σ v z) (hv : nilOf v = some b) : ∃ a : Option Addr, z = .pointer a ∧ a.isNone = b := by
 have _p := ‹Pins›
 cases h <;> simp [nilOf] at hv <;> subst hv <;> exact ⟨_, rfl, rfl⟩
theorem zK7 {x y : Operand} {t t' e : TypeId} {v : AV} {b : Bool} (ht : P.underlying t = some (.pointer e)) (hx : ev fr x = some v) (hv : nilOf v = some b) (hy : ev fr y = some .nilp) : QOp ind P fn c fr H ⟨d, .binOp .eql t x y t', ty, pos, after, g⟩ (.bool b) := by
 intro w a σ S hr
 have h1 := hr.evAt hx
 have h2 := hr.evAt hy
 generalize hz : a.eval x = z at h1
 generalize hzy : a.eval y = zy at h2
 cases h2
 obtain ⟨ad, rfl, rfl⟩ := vr_nilOf h1 hv
 refine ⟨_, .bool _ _, fun w' _ => ?_⟩
 simp only [execOp, hz, hzy, Sem.run_bind, zIO, Result.andThen_ok, zIP w' ad ht]
 rfl
end
end Go.Ax
namespace Go.Ax
variable [Pins]
open Go.ChangeShapes Go.WideShapes Go.ChangeAt Go.RowKit
section
variable {H : Type} {enc : TypeId × Value → H} {P : Program} {W : World}
abbrev allS (W : World) : Nat → Prop := fun b => b < W.heap.size
/-- One after the other, cells are told by abstract values. -/
def zDe (W : World) (l : List AV) (cs : List Value) : Prop :=
 l.length = cs.length ∧ ∀ i, i < cs.length → VR W (allS W) (fun _ => none) (l.getD i .any) (cs.getD i undef) ∧ (cs.getD i undef).oneCell' = true
/-- A reader: type t, n cells, told by e of some a that is ok. -/
def Rd {α : Type} (enc : TypeId × Value → H) (P : Program) (W : World) (t : TypeId) (n : Nat) (e : α → List AV) (ok : α → Prop) : Prop :=
 ∀ fuel cs x, DataW.trod enc P W 0 (fun _ => true) true fuel t cs = some x → ∃ a, ok a ∧ cs.length = n ∧ zDe W (e a) cs
theorem zHe {W : World} {v : AV} {c : Value} (h : VR W (allS W) (fun _ => none) v c) (h1 : c.oneCell' = true) : zDe W [v] [c] := by
 have _p := ‹Pins›
 refine ⟨U, fun i hi => ?_⟩
 have : i = 0 := by simpa using hi
 subst this
 exact ⟨h, h1⟩
theorem Rd.bool {t : TypeId} (ht : P.underlying t = some .bool) : Rd enc P W t 1 (fun b : Bool => [AV.bool b]) (fun _ => True) := by
 intro fuel cs x h
 obtain ⟨b, rfl, _⟩ := DataW.trod_bool ht h
 exact ⟨b, trivial, U, zHe (.bool _ _) U⟩
theorem Rd.int {t : TypeId} {k : IntKind} (ht : P.underlying t = some (.int k)) : Rd enc P W t 1 (fun n : Int => [AV.int k n]) (fun n => (Lit.int k n).wf = true) := by
 intro fuel cs x h
 obtain ⟨n, rfl, _, hw⟩ := DataW.trod_int ht h
 exact ⟨n, hw, U, zHe (.int _ _ _) U⟩
theorem Rd.str {t : TypeId} (ht : P.underlying t = some .string) : Rd enc P W t 1 (fun s : List UInt8 => [AV.str s]) (fun s => s.length ≤ 9223372036854775807) := by
 intro fuel cs x h
 obtain ⟨s, rfl, _, hs⟩ := DataW.trod_string ht h
 have e : Value.string s = zGs s.data.toList := by
  show Value.string s = Value.string ⟨s.data.toList.toArray⟩
  rw [Array.toArray_toList]
 refine ⟨s.data.toList, ?_, U, ?_⟩
 ·unfold maxLen at hs; simpa using hs
 ·rw [e]; exact zHe (.str _ _) rfl
/-- The row that a list's elements make, each of n cells. -/
def zC3 {α : Type} (d : α) (n : Nat) (e : α → List AV) (l : List α) : Cells := .fn l.length n (fun i j => (e (l.getD i d)).getD j .any)
theorem Rd.slice {α : Type} {t t' : TypeId} {n : Nat} {e : α → List AV} {ok : α → Prop} (d : α) (ht : P.underlying t = some (.slice t')) (hc : P.cellsOf t' = n) (hn : Nat.blt 0 n = true) (h : Rd enc P W t' n e ok) :
 Rd enc P W t 1 (fun l : List α => [AV.ro (zC3 d n e l) 0 l.length]) (fun l => l.length ≤ 9223372036854775807 ∧ ∀ a ∈ l, ok a) := by
 have hn := Nat.le_of_ble_eq_true hn
 intro fuel cs x hx
 rcases DataW.trod_slice ht hx with ⟨rfl, _⟩ | ⟨a, len, cap, elems, rest, m, _, rfl, _, _, hl, hm, hlen, hel, _, _⟩
 ·exact ⟨[], ⟨Nat.zero_le _, fun a ha => by simp at ha⟩, U, zHe (.ro0 _ _ _ _ _) U⟩
 subst hc
 have each : ∀ i, i < len → ∃ z : α × List Value, ok z.1 ∧ W.cells? 0 (a.add (i * P.cellsOf t')) (P.cellsOf t') = some z.2 ∧ zDe W (e z.1) z.2 := by
  intro i hi
  have h1 := hel i hi
  have h2 : elems[i]? = some (elems[i]'(by omega)) := List.getElem?_eq_getElem _
  rw [h2, Option.bind_eq_some_iff] at h1
  obtain ⟨cs', hcs, hy⟩ := h1
  obtain ⟨z, hz, hzl, hzr⟩ := h _ _ _ hy
  exact ⟨(z, cs'), hz, hcs, hzr⟩
 cases len with
 | zero => exact ⟨[], ⟨Nat.zero_le _, fun a ha => by simp at ha⟩, rfl, zHe (.ro0 _ _ _ _ _) rfl⟩
 | succ len =>
  have ha : a = ⟨a.block, a.off, none⟩ ∧ a.block < W.heap.size := by
   obtain ⟨z, _, hcs, _⟩ := each 0 (Nat.succ_pos _)
   obtain ⟨_, hl2, hce⟩ := World.cells?_some hcs
   have h0 := hce 0 hn
   have hz0 : z.2[0]? = some (z.2[0]'(by omega)) := List.getElem?_eq_getElem _
   rw [hz0] at h0
   simp only [Nat.zero_mul] at h0
   have e0 : ∀ q : Addr, q.add 0 = q := by intro q; simp [Addr.add]
   rw [e0, e0] at h0
   have hsp : a = ⟨a.block, a.off, none⟩ := by
    have hb := h0
    unfold World.cell? at hb
    split at hb
    ·cases hsp : a.spot with
     | none => cases a; simp_all
     | some s => simp [hsp] at hb
    ·cases hb
   refine ⟨hsp, ?_⟩
   rcases Nat.lt_or_ge a.block W.heap.size with hh | hh
   ·exact hh
   ·rw [hsp] at h0
    unfold World.cell? at h0
    have : W.heap[a.block]? = none := by simp [hh]
    simp [this] at h0
  let f : Nat → α × List Value := fun i => if hi : i < len + 1 then Classical.choose (each i hi) else (d, [])
  have hf : ∀ i, i < len + 1 → ok (f i).1 ∧ W.cells? 0 (a.add (i * P.cellsOf t')) (P.cellsOf t') = some (f i).2 ∧ zDe W (e (f i).1) (f i).2 := by
   intro i hi
   have := Classical.choose_spec (each i hi)
   simp only [f, hi, dite_true]
   exact this
  let l : List α := (List.range (len + 1)).map (fun i => (f i).1)
  have hll : l.length = len + 1 := by simp [l]
  have hlg : ∀ i, i < len + 1 → l.getD i d = (f i).1 := by intro i hi; simp [l, List.getD, hi]
  refine ⟨l, ⟨by unfold maxLen at hm; omega, fun b hb => ?_⟩, U, ?_⟩
  ·obtain ⟨i, hi, rfl⟩ := List.mem_map.1 hb
   exact (hf i (List.mem_range.1 hi)).1
  ·refine zHe ?_ U
   rw [ha.1, hll]
   refine .ro _ _ _ _ _ _ _ (fun i j => (f i).2.getD j undef) ha.2 hl (fun i j hi hj => ?_) (fun i j hi hj => ?_) (fun i j hi hj => ?_)
   all_goals
    obtain ⟨g1, g2, g3, g4⟩ := hf i hi
    obtain ⟨_, q2, q3⟩ := World.cells?_some g2
    have hj' : j < (f i).2.length := by rw [q2]; exact hj
   ·have h3 := q3 j hj
    rw [List.getElem?_eq_getElem hj'] at h3
    rw [ha.1, add_plain, add_plain] at h3
    show W.cell? ⟨a.block, a.off + i * P.cellsOf t' + j, none⟩ = some ((f i).2.getD j undef)
    rw [h3, List.getD, List.getElem?_eq_getElem hj']; rfl
   ·show VR W (allS W) (fun _ => none) ((e (l.getD (0 + i) d)).getD j .any) _
    rw [Nat.zero_add, hlg i hi]
    exact (g4 j hj').1
   ·exact (g4 j hj').2
/-- One part behind the other. -/
theorem zDe.append {l l' : List AV} {cs cs' : List Value} (h : zDe W l cs) (h' : zDe W l' cs') : zDe W (l ++ l') (cs ++ cs') := by
 have _p := ‹Pins›
 refine ⟨by simp [h.1, h'.1], fun i hi => ?_⟩
 by_cases hlt : i < cs.length
 ·have e1 : (l ++ l').getD i .any = l.getD i .any := by simp [List.getD, List.getElem?_append, h.1, hlt]
  have e2 : (cs ++ cs').getD i undef = cs.getD i undef := by simp [List.getD, List.getElem?_append, hlt]
  rw [e1, e2]; exact h.2 i hlt
 ·have e1 : (l ++ l').getD i .any = l'.getD (i - cs.length) .any := by simp [List.getD, List.getElem?_append, h.1, hlt]
  have e2 : (cs ++ cs').getD i undef = cs'.getD (i - cs.length) undef := by simp [List.getD, List.getElem?_append, hlt]
  rw [e1, e2]; exact h'.2 _ (by simp at hi; omega)
/-- Readers of some cells in a row: the fields of a struct from one on. -/
def RdF {α : Type} (enc : TypeId × Value → H) (P : Program) (W : World) (fs : List Field) (o n : Nat) (e : α → List AV) (ok : α → Prop) : Prop :=
 ∀ fuel (cs : List Value) (m : Nat), cs.length = m → o + n = m → (∀ f ∈ fs, ∃ x, DataW.trod enc P W 0 (fun _ => true) true fuel f.type ((cs.drop f.offset).take (P.cellsOf f.type)) = some x) → ∃ a, ok a ∧ zDe W (e a) (cs.drop o)
theorem RdF.nil {o : Nat} : RdF enc P W [] o 0 (fun _ : Unit => []) (fun _ => True) := by
 have _p := ‹Pins›
 intro fuel cs m h1 h2 _
 refine ⟨(), trivial, ?_⟩
 rw [List.drop_of_length_le (by omega)]
 exact ⟨U, fun i hi => by simp at hi⟩
theorem RdF.cons {α β : Type} {f : Field} {fs : List Field} {o n m : Nat} {e : α → List AV} {ok : α → Prop} {e' : β → List AV} {ok' : β → Prop} (ho : f.offset = o) (hc : P.cellsOf f.type = n) (h : Rd enc P W f.type n e ok) (h' : RdF enc P W fs (o + n) m e' ok') :
 RdF enc P W (f :: fs) o (n + m) (fun a : α × β => e a.1 ++ e' a.2) (fun a => ok a.1 ∧ ok' a.2) := by
 intro fuel cs k h1 h2 h3
 obtain ⟨x, hx⟩ := h3 f (by simp)
 obtain ⟨a, ha, hl, hr⟩ := h _ _ _ hx
 obtain ⟨b, hb, hr'⟩ := h' fuel cs k h1 (by omega) (fun g hg => h3 g (by simp [hg]))
 refine ⟨(a, b), ⟨ha, hb⟩, ?_⟩
 rw [ho, hc] at hr
 have e1 : cs.drop o = (cs.drop o).take n ++ cs.drop (o + n) := by rw [← List.drop_drop, List.take_append_drop]
 rw [e1]
 exact hr.append hr'
theorem Rd.struct {α : Type} {t : TypeId} {fs : Array Field} {n : Nat} {e : α → List AV} {ok : α → Prop} (ht : P.underlying t = some (.struct fs)) (hc : P.cellsOf t = n) (h : RdF enc P W fs.toList 0 n e ok) : Rd enc P W t n e ok := by
 have _p := ‹Pins›
 intro fuel cs x hx
 obtain ⟨xs, m, _, _, hl, hxl, hf⟩ := DataW.trod_struct ht hx
 obtain ⟨a, ha, hr⟩ := h m cs n (by omega) (by omega) (fun f hf' => by
  obtain ⟨i, hi, rfl⟩ := List.getElem_of_mem hf'
  have h1 := hf i fs.toList[i] (by simp at hi; simp [hi])
  have h2 : xs[i]? = some (xs[i]'(by simp at hi; omega)) := List.getElem?_eq_getElem _
  rw [h2] at h1
  exact ⟨_, h1⟩)
 exact ⟨a, ha, by omega, by simpa using hr⟩
/-- The same, told by another list of abstract values. -/
theorem zDe.conv {l l' : List AV} {cs : List Value} (h : zDe W l cs) (hl : l'.length = l.length) (he : ∀ i, i < l.length → AEq (l.getD i .any) (l'.getD i .any)) : zDe W l' cs :=
 have _p := ‹Pins›; ⟨hl.trans h.1, fun i hi => ⟨he i (by rw [h.1]; exact hi) _ _ _ _ (h.2 i hi).1, (h.2 i hi).2⟩⟩
theorem Rd.map {α β : Type} {t : TypeId} {n : Nat} {e : α → List AV} {ok : α → Prop} {e' : β → List AV} {ok' : β → Prop} (h : Rd enc P W t n e ok) (f : α → β) (hok : ∀ a, ok a → ok' (f a)) (hl : ∀ a, (e' (f a)).length = (e a).length)
 (he : ∀ a i, i < (e a).length → AEq ((e a).getD i .any) ((e' (f a)).getD i .any)) : Rd enc P W t n e' ok' := by
 intro fuel cs x hx
 obtain ⟨a, ha, h1, h2⟩ := h fuel cs x hx
 exact ⟨f a, hok a ha, h1, h2.conv (hl a) (he a)⟩
theorem zOZ (k : IntKind) (l : List Int) : AEq (.ro (zC3 0 1 (fun n : Int => [AV.int k n]) l) 0 l.length) (.ro (.ints k l) 0 l.length) := by
 refine AEq.ro U (fun d j hd hj => ?_)
 have hj0 : j = 0 := Nat.lt_one_iff.1 hj
 subst hj0
 rfl
theorem Rd.ints {t t' : TypeId} {k : IntKind} (ht : P.underlying t = some (.slice t')) (hc : P.cellsOf t' = 1) (hk : P.underlying t' = some (.int k)) :
 Rd enc P W t 1 (fun l : List Int => [AV.ro (.ints k l) 0 l.length]) (fun l => l.length ≤ 9223372036854775807 ∧ ∀ n ∈ l, (Lit.int k n).wf = true) :=
 (Rd.slice 0 ht hc rfl (Rd.int hk)).map id (fun _ h => h) (fun _ => rfl) (fun l i hi => by
  have : i = 0 := by simpa using hi
  subst this
  exact zOZ k l)
/-- A struct or an array. -/
theorem Rd.agg {α : Type} {t : TypeId} {n : Nat} {e : α → List AV} {ok : α → Prop} {vs : Array Value} {d : DataW H} {p : List MemPlace} (h : Rd enc P W t n e ok) (hd : DataW.Trod enc P W 0 (fun _ => true) true t (.agg vs) d p) :
 ∃ a, ok a ∧ VR W (allS W) (fun _ => none) (.agg (e a)) (.agg vs) := by
 have _p := ‹Pins›
 obtain ⟨fuel, hx⟩ := hd
 obtain ⟨a, ha, _, hr⟩ := h _ _ _ hx
 have hc : (Value.agg vs).cells = vs := rfl
 rw [hc] at hr
 refine ⟨a, ha, .agg _ _ _ (by rw [hr.1]; simp) (fun i hi => ?_) (fun i hi => ?_)⟩
 all_goals
  rw [hr.1] at hi
  have g := hr.2 i hi
  have hi' : i < vs.size := by simpa using hi
  have e1 : vs.toList.getD i undef = vs.getD i undef := by simp [List.getD, Array.getD, hi']
  rw [e1] at g
 ·exact g.1
 ·exact g.2
end
end Go.Ax
namespace Go.Ax
variable [Pins]
open Go.RowKit
section
variable {H : Type} {enc : TypeId × Value → H} {P : Program} {W : World}
end
end Go.Ax
namespace Go.Ax
variable [Pins]
open Go.RowKit
section
variable {P : Program} {fn : Func} {c : Ctx} {fr : Fr} {H H0 : zP} {k : List It} {M : M}
/-- Whatever order came before: one rest, over what is zEz then. -/
theorem zT {all : Array Oper} {fuel : Nat} {listed : Array Bool} (L : Fr) (h1 : (∀ fr, zA3 fr L → Ax P fn c (.any all fuel listed k) fr H) → Ax P fn c M fr H0) (h2 : Ax P fn c (.any all fuel listed k) L H) : Ax P fn c M fr H0 :=
 h1 (fun _ hk w a σ S hr => h2 w a σ S (hr.weaken hk))
theorem zAL {x : Code} (L : Fr) (h1 : (∀ fr, zA3 fr L → Ax P fn c (.code x k) fr H) → Ax P fn c M fr H0) (h2 : Ax P fn c (.code x k) L H) : Ax P fn c M fr H0 :=
 h1 (fun _ hk w a σ S hr => h2 w a σ S (hr.weaken hk))
end
theorem zCM {HF : zP} {fr : Fr} : ∀ {L : Fr}, zA3 fr L → fzk HF fr L
 | [], _ => have _p := ‹Pins›; trivial
 | (t, v) :: r, h => ⟨⟨v, h.1, .inl rfl⟩, zCM h.2⟩
theorem zIT (t : Nat) (v : AV) (L : Fr) : zAa t ((t, v) :: L) = some v := by
 have _p := ‹Pins›
 show (bif Nat.beq t t then some v else _) = _
 rw [Nat.beq_refl]; rfl
theorem zKJ {t : Nat} {p q : AV} {L : Fr} (hp : zCe 0 p = false) : ∀ (M : Fr), zA3 ((t, p) :: L) M → zB3 0 M = true → zA3 ((t, q) :: L) M
 | [], _, _ => have _p := ‹Pins›; trivial
 | (u, v) :: r, h, hb => by
  simp only [zB3, Bool.and_eq_true] at hb
  refine ⟨?_, zKJ hp r h.2 hb.2⟩
  have h1 : (bif Nat.beq u t then some p else zAa u L) = some v := h.1
  show (bif Nat.beq u t then _ else zAa u L) = some v
  cases hq : Nat.beq u t with
  | true => rw [hq] at h1; simp at h1; subst h1; rw [hp] at hb; exact absurd hb.1 (by decide)
  | false => rw [hq] at h1; simpa using h1
/-- From now on the only object is only read. -/
theorem ax_fzOne {P : Program} {fn : Func} {c : Ctx} {fr : Fr} {k : List It} {x : Code} {o : AObj} {v : AV} (t : Nat) (L : Fr) (v' : AV) (hn : zAG o.c) (hv : zCe 0 v = false) (hv' : v' = v.frz [some o]) (hi : inB [some o] v) (hb' : zCe 0 v' = true) (hk1 : zA3 fr ((t, v) :: L)) (hk2 : zA3 ((t, v) :: L) L) (hb : zB3 0 L = true) (hfx : ∀ h, ¬ c.fix h)
 (h : Ax P fn c (.code x k) ((t, v') :: L) []) : Ax P fn c (.code x k) fr [some o] := by
 refine zBD [some o] [none] ((t, v') :: L) (fun _ _ h => h) (zEN hn) U ?_ ⟨⟨v, hk1.1, .inr (.inr ⟨hv', hi⟩)⟩, zCM hk1.2⟩ ?_
 ·intro h o' ho'
  match h, ho' with
  | 0, ho' => simp at ho'
  | _ + 1, ho' => simp at ho'
 exact ax_cut [] [none] ((t, v') :: L) U ⟨zIT _ _ _, zKJ (p := v) hv L hk2 hb⟩ (fun h hh => (hfx h hh).elim) U (by simp only [zB3, Bool.and_eq_true]; exact ⟨hb', hb⟩) h
end Go.Ax
namespace Go.Ax
variable [Pins]
open Go.RowKit
def sclEq (P : Program) (t : TypeId) (x y : AV) : Option Bool := match P.underlying t, x, y with
 | some (.int _), .int k a, .int k' b => if k = k' then some (decide (a = b)) else none
 | some .string, .str a, .str b => some (decide (a = b))
 | some .bool, .bool a, .bool b => some (a == b)
 | _, _, _ => none
def eqFs (P : Program) (L M : List AV) : List Field → Option Bool
 | [] => some true
 | f :: fs => match eqFs P L M fs, L[f.offset]?, M[f.offset]? with
  | some r, some x, some y => (sclEq P f.type x y).map (· && r)
  | _, _, _ => none
theorem zOa {P : Program} {w w' : World} {S : Nat → Prop} {σ : Nat → Option Blk} {t : TypeId} {x y : AV} {b : Bool} {v v' : Value} (h : sclEq P t x y = some b) (hv : VR w S σ x v) (hv' : VR w S σ y v') (d : Nat) :
 P.plainKey t = true ∧ (Op.equalIn (d + 1) t v v').run P w' = .ok b w' := by
 unfold sclEq at h
 split at h
 ·rename_i hu
  split at h
  ·rename_i hk
   subst hk
   simp only [Option.some.injEq] at h
   subst h
   cases hv; cases hv'
   refine ⟨by simp [Program.plainKey, hu], ?_⟩
   rw [run_equalIn_int w' d t _ _ _ _ hu]; rfl
  ·cases h
 ·rename_i hu
  simp only [Option.some.injEq] at h
  subst h
  cases hv; cases hv'
  refine ⟨by simp [Program.plainKey, hu], ?_⟩
  simp only [zGs]
  rw [run_equalIn_string w' d t _ _ hu, zIK, zIK]
  congr 1
  rw [Bool.eq_iff_iff]; simp
 ·rename_i hu
  simp only [Option.some.injEq] at h
  subst h
  cases hv; cases hv'
  exact ⟨by simp [Program.plainKey, hu], run_equalIn_bool' w' d t _ _ hu⟩
 ·cases h
theorem zNj {w : World} {S : Nat → Prop} {σ : Nat → Option Blk} {L : List AV} {vs : Array Value} (hl : vs.size = L.length) (hv : ∀ i, i < L.length → VR w S σ (L.getD i .any) (vs.getD i undef)) {o : Nat} {x : AV} (h : L[o]? = some x) : ∃ v, vs[o]? = some v ∧ VR w S σ x v := by
 have _p := ‹Pins›
 have hlt : o < L.length := (List.getElem?_eq_some_iff.1 h).1
 have h3 := hv o hlt
 have e : L.getD o .any = x := by simp [List.getD, h]
 rw [e] at h3
 exact ⟨_, by simp [Array.getD, hl, hlt], h3⟩
theorem zJM {P : Program} {w w' : World} {S : Nat → Prop} {σ : Nat → Option Blk} {L M : List AV} {xs ys : Array Value} {d : Nat} (h1 : xs.size = L.length) (h2 : ∀ i, i < L.length → VR w S σ (L.getD i .any) (xs.getD i undef)) (h3 : ys.size = M.length) (h4 : ∀ i, i < M.length → VR w S σ (M.getD i .any) (ys.getD i undef)) :
 ∀ (fs : List Field) (b : Bool), (fs.all fun f => f.name != "_") = true → eqFs P L M fs = some b → (Op.eqFields (d + 1) xs ys fs).run P w' = .ok b w'
 | [], b, _, h => by simp [eqFs] at h; subst h; simp [Op.eqFields]
 | f :: fs, b, hn, h => by
  simp only [List.all_cons, Bool.and_eq_true] at hn
  have hne : f.name ≠ "_" := by simpa using hn.1
  simp only [eqFs] at h
  split at h
  ·rename_i r x y hr hL hM
   have ih := zJM (d := d) (w' := w') h1 h2 h3 h4 fs r hn.2 hr
   obtain ⟨v1, e1, r1⟩ := zNj h1 h2 hL
   obtain ⟨v2, e2, r2⟩ := zNj h3 h4 hM
   obtain ⟨q, hq, hb⟩ := Option.map_eq_some_iff.1 h
   obtain ⟨hp, hrun⟩ := zOa (w' := w') hq r1 r2 d
   simp only [Op.eqFields, hne, ne_eq, not_false_eq_true, if_true]
   simp only [Sem.run_bind, run_part_plain w' hp e1, Result.andThen_ok, run_part_plain w' hp e2, hrun]
   subst hb
   cases q with
   | false => simp
   | true => simpa using ih
  ·cases h
section
variable {P : Program} {fn : Func} {c : Ctx} {fr : Fr} {H : zP} {k : List It} {ind : Bool} {d : Option Nat} {ty : TypeId} {pos : String} {after : Array Edge} {g : Option (Nat × Bool)}
theorem zGn {x y : Operand} {t t' : TypeId} {fs : Array Field} {L M : List AV} {b : Bool} (hx : ev fr x = some (.agg L)) (hy : ev fr y = some (.agg M)) (ht : P.underlying t = some (.struct fs)) (hp : P.stoodInHeld t = false) (hg : P.eqGuardType P.depth t = false) (hn : (fs.toList.all fun f => f.name != "_") = true)
 (he : eqFs P L M fs.toList = some b) : QOp ind P fn c fr H ⟨d, .binOp .eql t x y t', ty, pos, after, g⟩ (.bool b) := by
 intro w a σ S hr
 have h1 := hr.evAt hx
 have h2 := hr.evAt hy
 generalize hz : a.eval x = z at h1
 generalize hzy : a.eval y = zy at h2
 have hfo : P.fieldsOf t = fs := by simp [Program.fieldsOf, ht]
 cases h1 with
 | agg _ _ xs a1 a2 a3 =>
  cases h2 with
  | agg _ _ ys b1 b2 b3 =>
   refine ⟨_, .bool _ _, fun w' _ => ?_⟩
   have hr := zJM (d := 9998) (w' := w') a1 a2 b1 b2 fs.toList b hn he
   simp only [execOp, hz, hzy, Sem.run_bind, run_eqGuard_agg w' _ _ _ _ _ _ hg, Result.andThen_ok, run_eql_struct, show (10000 : Nat) = 9999 + 1 from rfl, run_equalIn_agg w' 9999 t _ _ (by rw [hfo]; exact ht) hp, hfo, hr]
   rfl
theorem zMK {x y : Operand} {t t' : TypeId} {fs : Array Field} {L M : List AV} {b : Bool} (hx : ev fr x = some (.agg L)) (hy : ev fr y = some (.agg M)) (ht : P.underlying t = some (.struct fs)) (hp : P.stoodInHeld t = false) (hg : P.eqGuardType P.depth t = false) (hn : (fs.toList.all fun f => f.name != "_") = true)
 (he : eqFs P L M fs.toList = some b) : QOp ind P fn c fr H ⟨d, .binOp .neq t x y t', ty, pos, after, g⟩ (.bool (!b)) := by
 intro w a σ S hr
 have h1 := hr.evAt hx
 have h2 := hr.evAt hy
 generalize hz : a.eval x = z at h1
 generalize hzy : a.eval y = zy at h2
 have hfo : P.fieldsOf t = fs := by simp [Program.fieldsOf, ht]
 cases h1 with
 | agg _ _ xs a1 a2 a3 =>
  cases h2 with
  | agg _ _ ys b1 b2 b3 =>
   refine ⟨_, .bool _ _, fun w' _ => ?_⟩
   have hr := zJM (d := 9998) (w' := w') a1 a2 b1 b2 fs.toList b hn he
   simp only [execOp, hz, hzy, Sem.run_bind, run_eqGuard_agg w' _ _ _ _ _ _ hg, Result.andThen_ok, run_neq_struct, show (10000 : Nat) = 9999 + 1 from rfl, run_equalIn_agg w' 9999 t _ _ (by rw [hfo]; exact ht) hp, hfo, hr]
   rfl
end
end Go.Ax
namespace Go.Ax
variable [Pins]
open Go.RowKit
/-- A kind without sign holds the numbers below M. -/
def UK (k : IntKind) (M : Nat) : Prop := ∀ n : Int, k.wrap n = n % (M : Int)
theorem uk64 : UK .u64 18446744073709551616 := have _p := ‹Pins›; fun n => IntKind.wrap_u64 n
theorem uk8 : UK .u8 256 := have _p := ‹Pins›; fun n => IntKind.wrap_u8 n
theorem UK.in {k : IntKind} {M : Nat} (h : UK k M) {m : Nat} (hm : m < M) : k.wrap (m : Int) = (m : Int) := by have _p := ‹Pins›; rw [h]; exact Int.emod_eq_of_lt (by omega) (by omega)
theorem UK.low {k : IntKind} {M : Nat} (h : UK k M) (m : Nat) : k.wrap (m : Int) = ((m % M : Nat) : Int) := by have _p := ‹Pins›; rw [h]; simp
section
variable {P : Program} {fn : Func} {c : Ctx} {fr : Fr} {H : zP} {k : List It} {ind : Bool} {d : Option Nat} {ty : TypeId} {pos : String} {after : Array Edge} {g : Option (Nat × Bool)}
/-- What it yields, told otherwise. -/
theorem QOp.res {o : Oper} {v v' : AV} (h : QOp ind P fn c fr H o v) (e : v = v') : QOp ind P fn c fr H o v' := e ▸ h
theorem q_uconv {x : Operand} {src dst : TypeId} {kk k' : IntKind} {u : TypeDesc} {m M : Nat} (hs : P.underlying src = some u) (hd : P.underlying dst = some (.int k')) (hx : ev fr x = some (.int kk (m : Nat))) (hk : UK k' M) (hm : m < M) :
 QOp ind P fn c fr H ⟨d, .convert src dst x, ty, pos, after, g⟩ (.int k' (m : Nat)) := (zJD hs hd hx).res (congrArg (AV.int k') (hk.in hm))
end
end Go.Ax
namespace Go.Ax
variable [Pins]
open Go.RowKit
theorem zHN {P : Program} (w : World) (t u ty e : TypeId) (inf : TypeInfo) (ht : P.underlying t = some (.slice e)) (hu : P.underlying u = some .string) (hi : P.info? e = some inf) (hs1 : inf.size = 1) (g n cap : Nat) (cur : Array Value) {mk : Nat × Nat} (hg : w.heap[g]? = some (.cells cur e mk)) (hm : mk.2 ≤ mk.1 ∨ cur.size ≤ mk.1)
 (s : ByteArray) (hroom : n + s.size ≤ cap) (hfit : n + s.size ≤ cur.size) :
 (Builtin.append_ #[t, u] ty #[.slice (some ⟨g, 0, none⟩) n cap, .string s]).run P w =
  .ok (.slice (some ⟨g, 0, none⟩) (n + s.size) cap) (w.setRow g (cur.toList.take n ++ Lib.strCells s ++ cur.toList.drop (n + s.size)).toArray) := by
 have _p := ‹Pins›
 have hf := Lib.run_firstCells_string (P := P) w 1 s
 have hst := zBM P g n e mk (Lib.strCells s) 0 cur w hg hm (by simpa [Lib.strCells_length] using hfit) (Lib.strCells_oneCell s)
 simp only [Nat.add_zero, Lib.strCells_length] at hst
 simp [Builtin.append_, run_underlying ht, run_underlying hu, sizeOf, typeInfo, hi, hs1, Builtin.lenOf, hroom, hf, Addr.add_lit, hst]
section
variable {P : Program} {fn : Func} {c : Ctx} {fr : Fr} {H : zP} {k : List It}
/-- x = append(x, y...): x an object of one's own. -/
theorem zJi {all : Array Oper} {d : Nat} {t u e : TypeId} {x y : Operand} {ty : TypeId} {pos : String} {after : Array Edge} {rest : List Oper} {inf : TypeInfo} {z : Value} {h n : Nat} {o : AObj} {s : List UInt8} {c' : Cells}
 (ht : P.underlying t = some (.slice e)) (hi : P.info? e = some inf) (hz : inf.zero = some z) (hszz : inf.size = o.c.sz) (hzs : z.cells.size = o.c.sz) (hpos : Nat.blt 0 o.c.sz = true)
 (hx : ev fr x = some (.sl h 0 n)) (hh : H[h]? = some (some o)) (hoty : o.ty = e) (hn : o.c.len = n) (hy : ev fr y = some (.str s)) (hu : P.underlying u = some .string) (hsz1 : o.c.sz = 1) (p1 : c'.sz = o.c.sz) (p3 : c'.len = o.c.len + s.length) (p4 : ∀ i' j, i' < o.c.len → j < o.c.sz → c'.at i' j = o.c.at i' j) (p5 : ∀ d j, d < s.length → j < o.c.sz → c'.at (o.c.len + d) j = .int .u8 ((s.getD d 0).toNat : Nat))
 (hb : (n + s.length) * inf.bytes ≤ 140737488355328 ∧ n + s.length ≤ 9223372036854775807) (hnr : ∀ i j, i < c'.len → j < c'.sz → (c'.at i j).forget h = c'.at i j) (hfix : ¬ c.fix h)
 (hk : Ax P fn c (.ops false all rest k) ((d, .sl h 0 (n + s.length)) :: zBf h fr) ((zBm h H).set h (some ⟨e, c'⟩))) : Ax P fn c (.ops false all (⟨some d, .call { callee := .builtin .append, args := #[x, y], argTypes := #[t, u] }, ty, pos, after, none⟩ :: rest) k) fr H := by
 refine ax_w (fun w a σ S hr => ?_) hk
 subst hoty
 have hpos' : 0 < o.c.sz := Nat.le_of_ble_eq_true hpos
 have h1 := hr.evAt hx
 have h2 := hr.evAt hy
 have hexec : ∀ r w', (Builtin.append_ #[t, u] ty #[a.eval x, a.eval y]).run P w = .ok r w' → (execOp a.eval ⟨some d, .call { callee := .builtin .append, args := #[x, y], argTypes := #[t, u] }, ty, pos, after, none⟩).run P w = .ok (.value r) w' := by
  intro r w' h
  simp [execOp, resolve, invoke, builtin, h]
 generalize hzx : a.eval x = vx at h1 hexec
 generalize hzy : a.eval y = vy at h2 hexec
 cases h2
 obtain ⟨m, hm⟩ : ∃ m, s.length = m := ⟨_, rfl⟩
 have hsz : (⟨s.toArray⟩ : ByteArray).size = m := by rw [← hm]; simp [ByteArray.size]
 obtain ⟨news, hnews⟩ : ∃ news, Lib.strCells ⟨s.toArray⟩ = news := ⟨_, rfl⟩
 have q1 : news.length = m * o.c.sz := by rw [hsz1, ← hnews, Lib.strCells_length, hsz, Nat.mul_one]
 have q3 : ∀ u ∈ news, u.oneCell' = true := by rw [← hnews]; exact Lib.strCells_oneCell _
 have q4 : ∀ d j, d < m → j < o.c.sz → ∃ v, news[d * o.c.sz + j]? = some v ∧ VR w S σ (.int .u8 ((s.getD d 0).toNat : Nat)) v := by
  intro d j hd hj
  rw [hsz1] at hj ⊢
  obtain rfl : j = 0 := by omega
  refine ⟨.int .u8 ((s.getD d 0).toNat : Nat), ?_, .int _ _ _⟩
  rw [← hnews]
  simp [Lib.strCells, List.getD, show d < s.length by omega]
 rw [hm] at p3 p5 hb ⊢
 -- what the old cells and the new ones give
 cases h1 with
 | sl _ _ _ _ b s C cap hσ hlen hcap =>
  subst hn
  obtain ⟨hs', cur, g1, g2, g3, g4, g5, g6⟩ := hr.obj hh hσ
  subst hs'
  have hcapC : cap = C := by omega
  subst hcapC
  obtain ⟨mk, g1, hmk, g3⟩ := g1.cells (by omega)
  have holds : ∀ i' j, i' < o.c.len → j < o.c.sz → ∃ u, (cur.toList.take (o.c.len * o.c.sz))[i' * o.c.sz + j]? = some u ∧ VR w S σ (c'.at i' j) u ∧ u.oneCell' = true := by
   intro i' j hi' hj
   obtain ⟨u, e1, e2, e3⟩ := g6 i' j hi' hj
   have hlt : i' * o.c.sz + j < o.c.len * o.c.sz := by
    have : (i' + 1) * o.c.sz ≤ o.c.len * o.c.sz := Nat.mul_le_mul_right _ (by omega)
    rw [Nat.add_mul] at this; omega
   refine ⟨u, ?_, by rw [p4 i' j hi' hj]; exact e2, e3⟩
   rw [List.getElem?_take, if_pos hlt]
   simpa using e1
  have hnle : o.c.len * o.c.sz ≤ cur.size := by rw [g2]; exact Nat.mul_le_mul_right _ hlen
  ·by_cases hroom : o.c.len + m ≤ cap
   ·have hfit : o.c.len * o.c.sz + news.length ≤ cur.size := by rw [q1, g2, ← Nat.add_mul]; exact Nat.mul_le_mul_right _ hroom
    have hrun := zHN (P := P) w t u ty o.ty inf ht hu hi (by rw [hszz, hsz1]) b o.c.len cap cur g1 hmk ⟨s.toArray⟩ (by rw [hsz]; exact hroom) (by rw [hsz]; rw [q1, hsz1] at hfit; omega)
    rw [hsz, hnews, show cur.toList.take o.c.len = cur.toList.take (o.c.len * o.c.sz) by rw [hsz1, Nat.mul_one], show cur.toList.drop (o.c.len + m) = cur.toList.drop (o.c.len * o.c.sz + news.length) by rw [q1, hsz1, Nat.mul_one, Nat.mul_one]] at hrun
    have hL : (cur.toList.take (o.c.len * o.c.sz)).length = o.c.len * o.c.sz := by simp; omega
    refine ⟨_, _, _, S, hexec _ _ (by simpa [zGs] using hrun), hr.movedM (w' := w.setRow b (cur.toList.take (o.c.len * o.c.sz) ++ news ++ cur.toList.drop (o.c.len * o.c.sz + news.length)).toArray) (c' := c') (C := cap) hh U U U (by simp) p1 (fun b' _ hb' => setRow_other w b b' _ hb') (setRow_heap w b cur _ _ _ g1) ?_ g3 (by omega) (.inr hσ) (.inr hσ) (fun i' j hi' hj => ?_) hnr ?_, ?_⟩
    ·rw [p1, ← g2]; simp; omega
    ·rw [p3] at hi'
     rw [p1] at hj ⊢
     by_cases hlo : i' < o.c.len
     ·obtain ⟨u, e1, e2, e3⟩ := holds i' j hlo hj
      refine ⟨u, ?_, e2, e3⟩
      have hlt : i' * o.c.sz + j < o.c.len * o.c.sz := by
       have : (i' + 1) * o.c.sz ≤ o.c.len * o.c.sz := Nat.mul_le_mul_right _ (by omega)
       rw [Nat.add_mul] at this; omega
      simp only [List.getElem?_toArray, List.append_assoc]
      rw [List.getElem?_append_left (by omega)]
      exact e1
     ·obtain ⟨u, e1, e2⟩ := q4 (i' - o.c.len) j (by omega) hj
      refine ⟨u, ?_, ?_, q3 u (List.mem_of_getElem? e1)⟩
      ·have hidx : i' * o.c.sz + j = o.c.len * o.c.sz + ((i' - o.c.len) * o.c.sz + j) := by
        rw [← Nat.add_assoc, ← Nat.add_mul]; congr 2; omega
       have hlt : (i' - o.c.len) * o.c.sz + j < news.length := (List.getElem?_eq_some_iff.1 e1).1
       simp only [List.getElem?_toArray, List.append_assoc]
       rw [hidx, List.getElem?_append_right (by omega), hL, Nat.add_sub_cancel_left, List.getElem?_append_left hlt]
       exact e1
      ·have := p5 (i' - o.c.len) j (by omega) hj
       rw [show o.c.len + (i' - o.c.len) = i' by omega] at this
       rw [this]; exact e2
    ·have hsz : (cur.toList.take (o.c.len * o.c.sz) ++ news ++ cur.toList.drop (o.c.len * o.c.sz + news.length)).toArray.size = cur.size := by simp; omega
     rw [hsz]; exact hmk
    ·have := VR.sl (w := w.setRow b (cur.toList.take (o.c.len * o.c.sz) ++ news ++ cur.toList.drop (o.c.len * o.c.sz + news.length)).toArray) (S := S) (upσ σ h (.at b c'.sz cap)) h 0 (o.c.len + m) b c'.sz cap cap (by simp [upσ]) hroom (by omega)
     simpa using this
   ·have hxs : (cur.toList.take (o.c.len * o.c.sz)).length = o.c.len * inf.size := by rw [hszz]; simp; omega
    have hrun := Lib.run_append_grow_string (P := P) w t u ty o.ty inf z ht hu hi hz ⟨b, 0, none⟩ o.c.len cap (cur.toList.take (o.c.len * o.c.sz)) hxs (fun j u hu => ?_) ⟨s.toArray⟩ (by omega) (by omega) (by rw [hsz]; exact growslice_fits (by omega) hb.1)
    rotate_left
    ·rw [List.getElem?_take] at hu
     split at hu
     ·simp [World.cell?, Addr.add_lit, g1]; simpa using hu
     ·cases hu
    rw [hsz, hnews] at hrun
    have hge := grownCap_ge w (o.c.len + m) cap o.ty
    have hle := grownCap_le_maxLen w (o.c.len + m) cap o.ty (by unfold maxLen; omega)
    generalize grownCap w (o.c.len + m) cap o.ty = G at hrun hge hle
    generalize hxx : cur.toList.take (o.c.len * o.c.sz) = xs at hrun holds hxs
    rw [hszz] at hxs
    refine ⟨_, w.drew.alloc (.cells (xs.toArray ++ news.toArray ++ Builtin.zeroCells z.cells (G - (o.c.len + m))) o.ty), _, S, hexec _ _ (by rw [Nat.zero_mul]; exact hrun), Rep.moved (w := w) (c' := c') (C := G) (b := w.heap.size) (cur := xs.toArray ++ news.toArray ++ Builtin.zeroCells z.cells (G - (o.c.len + m))) hr hh U U U (by simp) p1 (fun b' hb' _ => Below.heap_alloc w.drew (.cells (xs.toArray ++ news.toArray ++ Builtin.zeroCells z.cells (G - (o.c.len + m))) o.ty) b' hb') (heap_alloc_new w.drew _) ?_ hle (by omega) (.inl (Nat.le_refl _)) (.inl hfix) (fun i' j hi' hj => ?_) hnr, ?_⟩
    ·simp only [Array.size_append, List.size_toArray, size_zeroCells, hxs, q1, hzs, p1, ← Nat.add_mul]
     congr 1; omega
    ·rw [p3] at hi'
     rw [p1] at hj ⊢
     by_cases hlo : i' < o.c.len
     ·obtain ⟨u, e1, e2, e3⟩ := holds i' j hlo hj
      refine ⟨u, ?_, e2, e3⟩
      have hlt := (List.getElem?_eq_some_iff.1 e1).1
      rw [Array.append_assoc, Array.getElem?_append_left (by simpa using hlt)]
      simpa using e1
     ·obtain ⟨u, e1, e2⟩ := q4 (i' - o.c.len) j (by omega) hj
      refine ⟨u, ?_, ?_, q3 u (List.mem_of_getElem? e1)⟩
      ·have hidx : i' * o.c.sz + j = o.c.len * o.c.sz + ((i' - o.c.len) * o.c.sz + j) := by
        rw [← Nat.add_assoc, ← Nat.add_mul]; congr 2; omega
       have hlt : (i' - o.c.len) * o.c.sz + j < news.length := (List.getElem?_eq_some_iff.1 e1).1
       rw [Array.append_assoc, hidx, Array.getElem?_append_right (by simp [hxs]), Array.getElem?_append_left (by simp [hxs]; exact hlt)]
       simp [hxs]
       exact e1
      ·have := p5 (i' - o.c.len) j (by omega) hj
       rw [show o.c.len + (i' - o.c.len) = i' by omega] at this
       rw [this]; exact e2
    ·have := VR.sl (w := w.drew.alloc (.cells (xs.toArray ++ news.toArray ++ Builtin.zeroCells z.cells (G - (o.c.len + m))) o.ty)) (S := S) (upσ σ h (.at w.heap.size c'.sz G)) h 0 (o.c.len + m) w.heap.size c'.sz G G (by simp [upσ]) hge (by omega)
     simpa using this
 | sl0 _ _ hσ =>
  have hl0 : o.c.len = 0 := hn
  ·by_cases hm0 : m = 0
   ·subst hm0
    have hrun : (Builtin.append_ #[t, u] ty #[.slice none 0 0, .string ⟨s.toArray⟩]).run P w = .ok (.slice none 0 0) w := by
     have hs0 : s = [] := List.length_eq_zero_iff.1 hm
     subst hs0
     simp [Builtin.append_, run_underlying ht, run_underlying hu, sizeOf, typeInfo, hi, Builtin.lenOf, Builtin.firstCells, ByteArray.size]
    refine ⟨_, w, σ, S, hexec _ _ hrun, hr.nowhere hh hσ p1 (by omega), ?_⟩
    exact .sl0 _ _ hσ
   ·have hrun := run_append_nil_string (P := P) w t u ty o.ty inf z ht hu hi hz ⟨s.toArray⟩ (by omega) (by omega) (by
     rw [hsz]
     have hb1 := hb.1
     rw [Nat.zero_add] at hb1
     omega)
    rw [hsz, show ((⟨s.toArray⟩ : ByteArray).data.map (fun b => Value.int .u8 b.toNat)) = news.toArray by rw [← hnews]; simp [Lib.strCells]] at hrun
    have hge := grownCap_ge w m 0 o.ty
    have hle := grownCap_le_maxLen w m 0 o.ty (by unfold maxLen; omega)
    generalize grownCap w m 0 o.ty = G at hrun hge hle
    refine ⟨_, w.drew.alloc (.cells (news.toArray ++ Builtin.zeroCells z.cells (G - m)) o.ty), _, S, hexec _ _ hrun, Rep.moved (w := w) (c' := c') (C := G) (b := w.heap.size) (cur := news.toArray ++ Builtin.zeroCells z.cells (G - m)) hr hh U U U (by simp) p1 (fun b' hb' _ => Below.heap_alloc w.drew (.cells (news.toArray ++ Builtin.zeroCells z.cells (G - m)) o.ty) b' hb') (heap_alloc_new w.drew _) ?_ hle (by omega) (.inl (Nat.le_refl _)) (.inl hfix) (fun i' j hi' hj => ?_) hnr, ?_⟩
    ·simp only [Array.size_append, List.size_toArray, size_zeroCells, q1, hzs, p1, ← Nat.add_mul]
     congr 1; omega
    ·rw [p3] at hi'
     rw [p1] at hj ⊢
     obtain ⟨u, e1, e2⟩ := q4 i' j (by omega) hj
     refine ⟨u, ?_, ?_, q3 u (List.mem_of_getElem? e1)⟩
     ·have hlt := (List.getElem?_eq_some_iff.1 e1).1
      rw [Array.getElem?_append_left (by simpa using hlt)]
      simpa using e1
     ·have := p5 i' j (by omega) hj
      rw [show o.c.len + i' = i' by omega] at this
      rw [this]; exact e2
    ·have := VR.sl (w := w.drew.alloc (.cells (news.toArray ++ Builtin.zeroCells z.cells (G - m)) o.ty)) (S := S) (upσ σ h (.at w.heap.size c'.sz G)) h 0 m w.heap.size c'.sz G G (by simp [upσ]) hge (by omega)
     simpa [hl0] using this
end
end Go.Ax
namespace Go.Ax
variable [Pins]
open Go.RowKit
section
variable {P : Program} {fn : Func} {c : Ctx} {fr : Fr} {H : zP} {k : List It}
/-- A call that may move one object. -/
theorem Rep.calledM {w w' : World} {a : Act} {σ σ' : Nat → Option Blk} {S S' : Nat → Prop} {n m : Nat} {H' : zP} {fix : Nat → Prop} {K : AV → zP → Prop} (hr : Rep c w a σ S n fr H) (hall : ∀ h, h < H.length → h ≠ m → fix h) (hcm : ¬ c.fix m) (hhr : HR w' S' σ' H') {hp : zC5 w S σ H} (hlen : H.length ≤ H'.length) (hkp : Kp (zBd w S σ H fix K hp) w' S' σ' H') :
 Rep c w' a σ' S' n (zBf m fr) H' := by
 have hne : ∀ h, h ≠ m → ∀ B, σ h = some B → σ' h = some B := by
  intro h hm B hB
  have hlt : h < H.length := by
   rcases Nat.lt_or_ge h H.length with hl | hl
   ·exact hl
   ·rw [hr.hr.dom h hl] at hB; cases hB
  rw [hkp.fixed h (hall h hlt hm)]; exact hB
 have hSO : ∀ b, S b → ¬ zDS σ H b := by
  rintro b hs ⟨h, o, s, C, h1, h2⟩
  exact (hr.obj h1 h2).2.choose_spec.2.2.2.2.1 hs
 have hS : ∀ b, S b → w'.heap[b]? = w.heap[b]? := fun b hs => hkp.block b (hr.hr.small b hs) (hSO b hs)
 refine ⟨hhr, ?_, hr.defers, hr.size, fun t v hl => ?_⟩
 ·refine ⟨hkp.os.trans hr.kp.os, hkp.output.trans hr.kp.output, hkp.tape.trans hr.kp.tape, Nat.le_trans hr.kp.size hkp.size, fun b hb ho => ?_, fun b hb => hkp.S1 b (hr.kp.S1 b hb), fun b hb => ?_, fun h hf => ?_, fun h hf => Nat.lt_of_lt_of_le (hr.kp.fixlt h hf) hlen, fun h o b s C h1 h2 => ?_⟩
  ·rw [← hr.kp.block b hb ho]
   have hs1 := hr.kp.size
   refine hkp.block b (by simp only [zBd]; omega) ?_
   rintro ⟨h, o, s, C, h1, h2⟩
   rcases hr.kp.own h o b s C h1 h2 with h3 | h3
   ·exact ho h3
   ·omega
  ·rcases hkp.S2 b hb with h1 | h1 | h1
   ·exact hr.kp.S2 b h1
   ·obtain ⟨h, o, s, C, g1, g2⟩ := h1
    rcases hr.kp.own h o b s C g1 g2 with g3 | g3
    ·exact .inr (.inl g3)
    ·exact .inr (.inr g3)
   ·right; right; have := hr.kp.size; simp only [zBd] at h1; omega
  ·have hm : h ≠ m := fun e => hcm (e ▸ hf)
   rw [hkp.fixed h (hall h (hr.kp.fixlt h hf) hm)]
   exact hr.kp.fixed h hf
  ·rcases hkp.own h o b s C h1 h2 with ⟨h', o', s', C', g1, g2⟩ | h3
   ·exact hr.kp.own h' o' b s' C' g1 g2
   ·right; have := hr.kp.size; simp only [zBd] at h3; omega
 ·rw [zDB] at hl
  cases hq : zAa t fr with
  | none => simp [hq] at hl
  | some v0 =>
   simp [hq] at hl
   subst hl
   obtain ⟨s1, s2⟩ := hr.slots t v0 hq
   refine ⟨s1, ?_⟩
   have s3 := s2.forget (h := m) (fun h => if h = m then σ' m else σ h) (fun h' hh => by simp [hh])
   exact s3.mono hkp.S1 hS _ (fun h B hB => by
    by_cases hh : h = m
    ·subst hh; simpa using hB
    ·simp only [hh, if_false] at hB; exact hne h hh B hB)
theorem zFe {all : Array Oper} {d : Option Nat} {g : Operand} {args : List Operand} {ats : Array TypeId} {ty : TypeId} {pos : String} {after : Array Edge} {rest : List Oper} {f : FuncId} {caps ags ags' : List AV} {fix : Nat → Prop} {K : AV → zP → Prop} (m : Nat)
 (hg : ev fr g = some (.fn f caps)) (ha : evs fr args = some ags) (has : ags ++ caps = ags') (hcall : zd P f ags' H fix K) (hall : ∀ h, h < H.length → h ≠ m → fix h) (hfl : ∀ h, fix h → h < H.length) (hcm : ¬ c.fix m)
 (hk : ∀ r H', K r H' → H.length ≤ H'.length ∧ Ax P fn c (.ops false all rest k) (match d with | some d => (d, r) :: zBf m fr | none => zBf m fr) H') : Ax P fn c (.ops false all (⟨d, .call { callee := .value g, args := args.toArray, argTypes := ats }, ty, pos, after, none⟩ :: rest) k) fr H := by
 intro hd w a σ S hr
 obtain ⟨hd1, hd2⟩ := zBV hd
 obtain ⟨⟨gfn, hgf, hgn, hgb⟩, hc⟩ := hcall
 subst has
 have h1 := hr.evAt hg
 obtain ⟨e1, e2⟩ := zFk hr args ags ha
 generalize hz : a.eval g = z at h1
 refine wpList_step (fun K' hK' => ?_)
 simp only [Region.wanted, if_true]
 unfold Oper.wp
 cases h1 with
 | fn _ _ _ vs hl hv =>
  have hrun : (execOp a.eval ⟨d, .call { callee := .value g, args := args.toArray, argTypes := ats }, ty, pos, after, none⟩).run P w = .ok (.enter f ((args.map a.eval).toArray ++ vs)) w := by
   simp only [execOp, resolve, hz, Deferred.ofValue, Sem.run_bind, Sem.run_pure, Result.andThen_ok, invoke, callFunc, List.map_toArray, Array.empty_append, program, Sem.run, hgf]
   simp [hgn, hgb]
  rw [hrun]
  have hargs : VRs w S σ (ags ++ caps) ((args.map a.eval).toArray ++ vs) := by
   refine ⟨by simp [e1, hl], fun i hi => ?_⟩
   simp only [List.length_append] at hi
   by_cases hlt : i < ags.length
   ·have := e2 i hlt
    have hlt' : i < args.length := by omega
    have ea : (ags ++ caps).getD i .any = ags.getD i .any := by simp [List.getD, List.getElem?_append, hlt]
    have eb : ((args.map a.eval).toArray ++ vs).getD i undef = (args.map a.eval).getD i undef := by simp [Array.getElem?_append, hlt', List.getD]
    rw [ea, eb]; exact this
   ·have := hv (i - ags.length) (by omega)
    have hnl : ¬ i < args.length := by omega
    have ea : (ags ++ caps).getD i .any = caps.getD (i - ags.length) .any := by simp [List.getD, List.getElem?_append, hlt]
    have eb : ((args.map a.eval).toArray ++ vs).getD i undef = vs.getD (i - ags.length) undef := by simp [Array.getElem?_append, e1, hlt]
    rw [ea, eb]; exact this
  refine Calls.mono (hc w σ S _ hr.pinUp hr.hr hfl hargs) ?_
  rintro e w' ⟨v, r, σ', S', H', rfl, g1, g2, g3, g4⟩
  obtain ⟨hlen, hk2⟩ := hk r H' g4
  have hrep := hr.calledM hall hcm g1 hlen g3
  refine hK' _ _ ?_
  cases d with
  | none => exact hk2 hd2 w' _ σ' S' hrep
  | some d => exact hk2 hd2 w' _ σ' S' (hrep.put g2 (hd1 d rfl))
end
end Go.Ax
namespace Go.Ax
variable [Pins]
open Go.RowKit
section
variable {ind : Bool} {P : Program} {fn : Func} {c : Ctx} {fr : Fr} {H : zP} {k : List It} {d : Option Nat} {ty : TypeId} {pos : String} {after : Array Edge} {g : Option (Nat × Bool)}
end
end Go.Ax
namespace Go.Ax
variable [Pins]
open Go.RowKit
section
variable {P : Program} {fn : Func} {c : Ctx} {fr : Fr} {H : zP} {k : List It}
theorem give_sub {h : Nat} {o : AObj} (hh : H[h]? = some (some o)) : subH (List.replicate h none ++ [some o]) H := by
 have _p := ‹Pins›
 intro h' o' ho
 rcases Nat.lt_trichotomy h' h with q | q | q
 ·rw [List.getElem?_append_left (by simpa using q)] at ho
  simp [List.getElem?_replicate, q] at ho
 ·subst q
  rw [List.getElem?_append_right (by simp)] at ho
  simp at ho; subst ho; exact hh
 ·rw [List.getElem?_eq_none (by simp; omega)] at ho; cases ho
theorem zN6 {h : Nat} {o : AObj} (hrl : zAG o.c) : ∀ (h' : Nat) (o' : AObj), (List.replicate h none ++ [some o] : zP)[h']? = some (some o') → zAG o'.c := by
 have _p := ‹Pins›
 intro h' o' ho
 have hm := List.mem_of_getElem? ho
 rcases List.mem_append.1 hm with q | q
 ·have := (List.mem_replicate.1 q).2; cases this
 ·simp at q; subst q; exact hrl
theorem zNY {h : Nat} {o : AObj} : (List.replicate h none ++ [some o] : zP)[h]? = some (some o) := by
 have _p := ‹Pins›
 rw [List.getElem?_append_right (by simp)]; simp
theorem Rep.give {w : World} {a : Act} {σ : Nat → Option Blk} {S : Nat → Prop} {N : Nat} (hr : Rep c w a σ S N fr H) (h t n : Nat) {o : AObj} (L : Fr) (hh : H[h]? = some (some o)) (hrl : zAG o.c) (hl : zAa t fr = some (.sl h 0 n)) (hn : n ≤ o.c.len) (hL : zA3 fr L) :
 ∃ S', Rep c w a σ S' N ((t, .ro o.c 0 n) :: L) (H.set h none) := by
 have hlt : h < H.length := (List.getElem?_eq_some_iff.1 hh).1
 refine hr.freeze (List.replicate h none ++ [some o]) (H.set h none) (give_sub hh) (zN6 hrl) (by simp) ?_ ⟨⟨_, hl, .inr (.inr ⟨?_, ?_⟩)⟩, zCM hL⟩
 ·intro h' o' ho
  have hne : h' ≠ h := by
   rintro rfl
   rw [List.getElem?_set_self hlt] at ho; cases ho
  rw [List.getElem?_set_ne (Ne.symm hne)] at ho
  refine ⟨fun o2 h2 => ?_, o', ho, U, U, U, fun i j _ _ => .inl U⟩
  rcases Nat.lt_or_ge h' h with q | q
  ·rw [List.getElem?_append_left (by simpa using q)] at h2
   simp [List.getElem?_replicate, q] at h2
  ·rw [List.getElem?_eq_none (by simp; omega)] at h2; cases h2
 ·simp only [AV.frz, zNY]
 ·intro o2 h2
  rw [zNY] at h2
  cases h2
  omega
theorem zDq {x : Code} (h t n : Nat) {o : AObj} (L : Fr) (hh : H[h]? = some (some o)) (hrl : zAG o.c) (hl : zAa t fr = some (.sl h 0 n)) (hn : n ≤ o.c.len) (hL : zA3 fr L)
 (hk : Ax P fn c (.code x k) ((t, .ro o.c 0 n) :: L) (H.set h none)) : Ax P fn c (.code x k) fr H := by
 intro w a σ S hr
 obtain ⟨S', hr'⟩ := hr.give h t n L hh hrl hl hn hL
 exact hk w a σ S' hr'
theorem zAT {q : Bool} {all : Array Oper} {rest : List Oper} (H' : zP) (he : H = H') (hk : Ax P fn c (.ops q all rest k) fr H') : Ax P fn c (.ops q all rest k) fr H := by
 subst he; exact hk
variable {ind : Bool} {d : Option Nat} {ty : TypeId} {pos : String} {after : Array Edge} {g : Option (Nat × Bool)}
theorem zHs {op : BinOp} {t : TypeId} {x y : Operand} {a b : Bool} {w : World} : (eqGuard op t x y (.bool a) (.bool b)).run P w = .ok () w := by
 have _p := ‹Pins›
 unfold eqGuard
 split <;> rfl
theorem zOS {x y : Operand} {t t' : TypeId} {a b : Bool} (ht : P.underlying t = some .bool) (hx : ev fr x = some (.bool a)) (hy : ev fr y = some (.bool b)) : QOp ind P fn c fr H ⟨d, .binOp .neq t x y t', ty, pos, after, g⟩ (.bool (!(a == b))) := by
 intro w ac σ S hr
 refine ⟨_, .bool _ _, fun w' _ => ?_⟩
 have h1 := hr.evBool hx
 have h2 := hr.evBool hy
 have h3 := run_neq_bool (P := P) w' t a b ht
 simp [execOp, h1, h2, zHs, h3]
 try (cases a <;> cases b <;> rfl)
end
end Go.Ax
namespace Go.Ax
variable [Pins]
open Go.RowKit
theorem zCl {fr : Fr} : ∀ {K : Fr}, (∀ p ∈ K, zAa p.1 fr = some p.2) → zA3 fr K
 | [], _ => have _p := ‹Pins›; trivial
 | (t, v) :: r, h => ⟨h (t, v) (by simp), zCl (fun p hp => h p (by simp [hp]))⟩
theorem zCm {fr : Fr} : ∀ {K : Fr}, zA3 fr K → ∀ p ∈ K, zAa p.1 fr = some p.2
 | [], _, p, hp => have _p := ‹Pins›; by simp at hp
 | (t, v) :: r, h, p, hp => by
  rcases List.mem_cons.1 hp with rfl | hp
  ·exact h.1
  ·exact zCm h.2 p hp
theorem zD9 {fr K : Fr} (h : zA3 fr K) {o : Operand} {v : AV} (he : ev K o = some v) : ev fr o = some v := by
 have _p := ‹Pins›
 cases o with
 | tmp t => exact zEE h he
 | const x => exact he
 | «global» g => cases he
 | func f => exact he
theorem zHi {fr K : Fr} (h : zA3 fr K) : ∀ {xs : List Operand} {l : List AV}, evs K xs = some l → evs fr xs = some l
 | [], l, he => have _p := ‹Pins›; he
 | x :: r, l, he => by
  simp only [evs] at he ⊢
  split at he
  ·rename_i v hv
   split at he
   ·rename_i q hq
    rw [zD9 h hv, zHi h hq]
    exact he
   ·cases he
  ·cases he
section
variable {P : Program} {fn : Func} {c : Ctx} {fr : Fr} {H : zP} {k : List It}
/-- An operation that yields v and leaves the memory as it is told. -/
def zDf (P : Program) (fn : Func) (c : Ctx) (H : zP) (all : Array Oper) (K : Fr) (o : Oper) (d : Nat) (v : AV) : Prop :=
 ∀ (k : List It) (fr : Fr), zA3 fr K → Ax P fn c (.ops false all [] k) ((d, v) :: fr) H → Ax P fn c (.ops false all [o] k) fr H
theorem zK6 {all : Array Oper} {K : Fr} {d : Nat} {op : Op} {ty : TypeId} {pos : String} {after : Array Edge} {v : AV} (h : QOp false P fn c K H ⟨some d, op, ty, pos, after, none⟩ v) : zDf P fn c H all K ⟨some d, op, ty, pos, after, none⟩ d v :=
 fun k fr hk h2 => zA (fun w a σ S hr => h w a σ S (hr.weaken hk)) h2
theorem zMy {all : Array Oper} {K : Fr} {d : Nat} {g : Operand} {args : List Operand} {ats : Array TypeId} {ty : TypeId} {pos : String} {after : Array Edge} {f : FuncId} {caps ags ags' : List AV} {r : AV} (hg : ev K g = some (.fn f caps)) (ha : evs K args = some ags) (has : ags ++ caps = ags') (hcall : zl P f ags' r) :
 zDf P fn c H all K ⟨some d, .call { callee := .value g, args := args.toArray, argTypes := ats }, ty, pos, after, none⟩ d r :=
 fun k fr hk h2 => zQ (zD9 hk hg) (zHi hk ha) has hcall h2
/-- A guard that holds. -/
theorem zKR {all : Array Oper} {K : Fr} {d : Nat} {op : Op} {ty : TypeId} {pos : String} {after : Array Edge} {v : AV} {j t : Nat} {p : Bool} (hy : zDp all j = some t) (hb : zAa t K = some (.bool p)) (h : zDf P fn c H all K ⟨some d, op, ty, pos, after, none⟩ d v) : zDf P fn c H all K ⟨some d, op, ty, pos, after, some (j, p)⟩ d v :=
 fun k fr hk h2 => zx hy (zEE hk hb) (h k fr hk h2)
/-- A guard that does not hold: nothing is left in the slot. -/
theorem pure_gno {all : Array Oper} {K : Fr} {d : Nat} {op : Op} {ty : TypeId} {pos : String} {after : Array Edge} {j t : Nat} {p b : Bool} (hy : zDp all j = some t) (hb : zAa t K = some (.bool b)) (hne : (b == p) = false) : zDf P fn c H all K ⟨some d, op, ty, pos, after, some (j, p)⟩ d (.tup []) :=
 fun k fr hk h2 => zAZ hy (zEE hk hb) hne h2
theorem zOQ {all : Array Oper} {K : Fr} {d : Nat} {op : Op} {ty : TypeId} {pos : String} {after : Array Edge} {j t : Nat} {p : Bool} (hy : zDp all j = some t) (hb : zAa t K = some (.tup [])) : zDf P fn c H all K ⟨some d, op, ty, pos, after, some (j, p)⟩ d (.tup []) :=
 fun k fr hk h2 => zAu hy (zEE hk hb) h2
abbrev Steps := List (Nat × Nat × AV)
def zFV (st : Steps) (K0 : Fr) (o : Oper) : Fr := ((st.filter (fun s => o.after.toList.any (fun e => Nat.beq e.on s.1 && Region.binds .any e))).map (fun s => s.2)) ++ K0
/-- One operation after the other, in the order that is given. -/
def zD3 (P : Program) (fn : Func) (c : Ctx) (H : zP) (all : Array Oper) (K0 : Fr) : List Nat → Steps → (Steps → Prop) → Prop
 | [], st, G => G st
 | i :: r, st, G => ∃ o d v, all[i]? = some o ∧ o.dst = some d ∧ zDf P fn c H all (zFV st K0 o) o d v ∧ zD3 P fn c H all K0 r ((i, d, v) :: st) G
theorem zIV {all : Array Oper} {K0 : Fr} {i : Nat} {r : List Nat} {st : Steps} {G : Steps → Prop} {d : Nat} {op : Op} {ty : TypeId} {pos : String} {after : Array Edge} {v : AV} (hi : all[i]? = some ⟨some d, op, ty, pos, after, none⟩)
 (hop : zDf P fn c H all (zFV st K0 ⟨some d, op, ty, pos, after, none⟩) ⟨some d, op, ty, pos, after, none⟩ d v) (h : zD3 P fn c H all K0 r ((i, d, v) :: st) G) : zD3 P fn c H all K0 (i :: r) st G :=
 ⟨_, _, _, hi, rfl, hop, h⟩
theorem zI {all : Array Oper} {K0 : Fr} {i : Nat} {r : List Nat} {st : Steps} {G : Steps → Prop} {d : Nat} {op : Op} {ty : TypeId} {pos : String} {after : Array Edge} {v : AV} {K : Fr} (hi : all[i]? = some ⟨some d, op, ty, pos, after, none⟩)
 (hK : zFV st K0 ⟨some d, op, ty, pos, after, none⟩ = K) (hop : QOp false P fn c K H ⟨some d, op, ty, pos, after, none⟩ v) (h : zD3 P fn c H all K0 r ((i, d, v) :: st) G) : zD3 P fn c H all K0 (i :: r) st G :=
 zIV hi (hK ▸ zK6 hop) h
theorem zBS {all : Array Oper} {K0 : Fr} {i : Nat} {r : List Nat} {st : Steps} {G : Steps → Prop} {d : Nat} {g : Operand} {args : List Operand} {ats : Array TypeId} {ty : TypeId} {pos : String} {after : Array Edge} {f : FuncId} {caps ags ags' : List AV} {v : AV} {K : Fr} (hi : all[i]? = some ⟨some d, .call { callee := .value g, args := args.toArray, argTypes := ats }, ty, pos, after, none⟩)
 (hK : zFV st K0 ⟨some d, .call { callee := .value g, args := args.toArray, argTypes := ats }, ty, pos, after, none⟩ = K) (hg : ev K g = some (.fn f caps)) (ha : evs K args = some ags) (has : ags ++ caps = ags') (hcall : zl P f ags' v)
 (h : zD3 P fn c H all K0 r ((i, d, v) :: st) G) : zD3 P fn c H all K0 (i :: r) st G :=
 zIV hi (hK ▸ zMy hg ha has hcall) h
theorem zt {all : Array Oper} {K0 : Fr} {i : Nat} {r : List Nat} {st : Steps} {G : Steps → Prop} {d : Nat} {op : Op} {ty : TypeId} {pos : String} {after : Array Edge} {v : AV} {K : Fr} {j t : Nat} {p : Bool} (hi : all[i]? = some ⟨some d, op, ty, pos, after, some (j, p)⟩)
 (hK : zFV st K0 ⟨some d, op, ty, pos, after, some (j, p)⟩ = K) (hy : zDp all j = some t) (hb : zAa t K = some (.bool p)) (hop : QOp false P fn c K H ⟨some d, op, ty, pos, after, none⟩ v) (h : zD3 P fn c H all K0 r ((i, d, v) :: st) G) : zD3 P fn c H all K0 (i :: r) st G :=
 ⟨_, _, _, hi, rfl, hK ▸ zKR hy hb (zK6 hop), h⟩
theorem zp {all : Array Oper} {K0 : Fr} {i : Nat} {r : List Nat} {st : Steps} {G : Steps → Prop} {d : Nat} {op : Op} {ty : TypeId} {pos : String} {after : Array Edge} {K : Fr} {j t : Nat} {p b : Bool} (hi : all[i]? = some ⟨some d, op, ty, pos, after, some (j, p)⟩)
 (hK : zFV st K0 ⟨some d, op, ty, pos, after, some (j, p)⟩ = K) (hy : zDp all j = some t) (hb : zAa t K = some (.bool b)) (hne : (b == p) = false) (h : zD3 P fn c H all K0 r ((i, d, .tup []) :: st) G) : zD3 P fn c H all K0 (i :: r) st G :=
 ⟨_, _, _, hi, rfl, hK ▸ pure_gno hy hb hne, h⟩
theorem zAy {all : Array Oper} {K0 : Fr} {i : Nat} {r : List Nat} {st : Steps} {G : Steps → Prop} {d : Nat} {op : Op} {ty : TypeId} {pos : String} {after : Array Edge} {K : Fr} {j t : Nat} {p : Bool} (hi : all[i]? = some ⟨some d, op, ty, pos, after, some (j, p)⟩)
 (hK : zFV st K0 ⟨some d, op, ty, pos, after, some (j, p)⟩ = K) (hy : zDp all j = some t) (hb : zAa t K = some (.tup [])) (h : zD3 P fn c H all K0 r ((i, d, .tup []) :: st) G) : zD3 P fn c H all K0 (i :: r) st G :=
 ⟨_, _, _, hi, rfl, hK ▸ zOQ hy hb, h⟩
theorem zw {all : Array Oper} {K0 : Fr} {st : Steps} {G : Steps → Prop} (h : G st) : zD3 P fn c H all K0 [] st G := h
/-- What the steps tell. -/
def zHa (P : Program) (fn : Func) (c : Ctx) (H : zP) (all : Array Oper) (K0 : Fr) (st : Steps) (s : Nat × Nat × AV) : Prop :=
 ∃ o K, all[s.1]? = some o ∧ o.dst = some s.2.1 ∧ zDf P fn c H all K o s.2.1 s.2.2 ∧ ∀ p ∈ K, p ∈ K0 ∨ ∃ s' ∈ st, (∃ e ∈ o.after, Region.binds .any e = true ∧ e.on = s'.1) ∧ s'.2 = p
theorem zHa.mono {all : Array Oper} {K0 : Fr} {st st' : Steps} {s : Nat × Nat × AV} (hs : ∀ x ∈ st, x ∈ st') (h : zHa P fn c H all K0 st s) : zHa P fn c H all K0 st' s := by
 obtain ⟨o, K, h1, h2, h3, h4⟩ := h
 refine ⟨o, K, h1, h2, h3, fun p hp => ?_⟩
 rcases h4 p hp with q | ⟨s', q1, q2⟩
 ·exact .inl q
 ·exact .inr ⟨s', hs _ q1, q2⟩
theorem zGj {all : Array Oper} {K0 : Fr} {G : Steps → Prop} : ∀ {idx : List Nat} {st : Steps}, zD3 P fn c H all K0 idx st G → (∀ s ∈ st, zHa P fn c H all K0 st s) → ∃ st', G st' ∧ st'.map (·.1) = idx.reverse ++ st.map (·.1) ∧ (∀ s ∈ st', zHa P fn c H all K0 st' s)
 | [], st, h, hs => ⟨st, h, by simp, hs⟩
 | i :: r, st, h, hs => by
  obtain ⟨o, d, v, h1, h2, h3, h4⟩ := h
  have hsub : ∀ x ∈ st, x ∈ (i, d, v) :: st := fun x hx => List.mem_cons_of_mem _ hx
  have hstep : zHa P fn c H all K0 ((i, d, v) :: st) (i, d, v) := by
   refine ⟨o, zFV st K0 o, h1, h2, h3, fun p hp => ?_⟩
   unfold zFV at hp
   rcases List.mem_append.1 hp with q | q
   ·obtain ⟨s, q1, q2⟩ := List.mem_map.1 q
    obtain ⟨q3, q4⟩ := List.mem_filter.1 q1
    obtain ⟨e, q5, q6⟩ := List.any_eq_true.1 q4
    rw [Bool.and_eq_true] at q6
    exact .inr ⟨s, hsub _ q3, ⟨e, Array.mem_toList_iff.1 q5, q6.2, Nat.eq_of_beq_eq_true q6.1⟩, q2⟩
   ·exact .inl q
  obtain ⟨st', g1, g2, g3⟩ := zGj h4 (fun s hs' => by
   rcases List.mem_cons.1 hs' with rfl | q
   ·exact hstep
   ·exact (hs s q).mono hsub)
  exact ⟨st', g1, by rw [g2]; simp, g3⟩
theorem zIQ {all : Array Oper} {fuel : Nat} {listed : Array Bool} : ∀ {is : List Nat}, (∀ i ∈ is, ∀ o, all[i]? = some o → Ax P fn c (.ops false all [o] (.any all fuel (listed.setIfInBounds i true) :: k)) fr H) → AllR P fn c all fuel listed k fr H is
 | [], _ => trivial
 | i :: r, h => ⟨h i (by simp), zIQ (fun j hj => h j (by simp [hj]))⟩
/-- May these operations run in any order, ahead of all others? -/
def okRun (all : Array Oper) (listed : Array Bool) (idx : List Nat) (k0 : List Nat) : Bool :=
 (idx.all fun i => !listed.getD i true && (match all[i]? with
  | some o => (match o.dst with | some d => !k0.contains d | none => false) && o.after.toList.all (fun e => !Region.binds .any e || (Nat.blt e.on i && (idx.contains e.on || listed.getD e.on false)))
  | none => false)) &&
 ((List.range all.size).all fun j => idx.contains j || listed.getD j true || (match all[j]? with
   | some o => idx.all (fun i => o.after.toList.any (fun e => Nat.beq e.on i && Region.binds .any e))
   | none => true)) &&
 (idx.all fun i => idx.all fun j => Nat.beq i j || !(match all[i]?, all[j]? with | some o, some o' => o.dst == o'.dst | _, _ => false))
def zFQ (listed : Array Bool) (idx : List Nat) : Array Bool := idx.foldl (fun a i => a.setIfInBounds i true) listed
theorem zEe : ∀ (idx : List Nat) (listed : Array Bool), (zFQ listed idx).size = listed.size
 | [], _ => have _p := ‹Pins›; rfl
 | i :: r, listed => by
  have := zEe r (listed.setIfInBounds i true)
  simpa [zFQ] using this
theorem zFR : ∀ (idx : List Nat) (listed : Array Bool) (j : Nat), j < listed.size → (zFQ listed idx)[j]? = if j ∈ idx then some true else listed[j]?
 | [], _, j, _ => have _p := ‹Pins›; by simp [zFQ]
 | i :: r, listed, j, hj => by
  have h := zFR r (listed.setIfInBounds i true) j (by simpa using hj)
  have e : zFQ listed (i :: r) = zFQ (listed.setIfInBounds i true) r := rfl
  rw [e, h]
  by_cases h1 : j ∈ r
  ·simp [h1]
  ·by_cases h2 : i = j
   ·subst h2; simp [h1, hj]
   ·have h3 : ¬ j = i := fun e => h2 e.symm
    simp [h1, h2, h3, Array.getElem?_setIfInBounds]
def unl (cur : Array Bool) (st : Steps) : Nat := (st.filter (fun s => !cur.getD s.1 true)).length
theorem zBW {all : Array Oper} {fuel : Nat} {listed listed' : Array Bool} (idx : List Nat) (K0 : Fr) (hK : zA3 fr K0) (hok : okRun all listed idx (K0.map (·.1)) = true) (hnd : idx.Nodup) (hd : zCv fn.ntmps all.toList = true) (hl : zFQ listed idx = listed')
 (h : zD3 P fn c H all K0 idx [] (fun st => Ax P fn c (.any all fuel listed' k) (st.map (·.2) ++ K0) H)) : Ax P fn c (.any all (fuel + idx.length) listed k) fr H := by
 obtain ⟨st, hG, hidx, hst⟩ := zGj h (fun s hs => by simp at hs)
 rw [List.map_nil, List.append_nil] at hidx
 clear h
 unfold okRun at hok
 simp only [Bool.and_eq_true] at hok
 obtain ⟨⟨ok1, ok2⟩, ok3⟩ := hok
 rw [List.all_eq_true] at ok1 ok2 ok3
 have hmem : ∀ i, i ∈ idx ↔ ∃ s ∈ st, s.1 = i := fun i => by
  have : i ∈ idx.reverse ↔ ∃ s ∈ st, s.1 = i := by rw [← hidx]; simp
  rw [← this, List.mem_reverse]
 have hlen : st.length = idx.length := by
  have := congrArg List.length hidx
  simpa using this
 have hnd' : (st.map (·.1)).Nodup := by rw [hidx]; exact (List.reverse_perm idx).nodup_iff.2 hnd
 have hlt : ∀ i ∈ idx, i < listed.size := fun i hi => by
  have := ok1 i hi
  simp only [Bool.and_eq_true, Bool.not_eq_true'] at this
  rcases Nat.lt_or_ge i listed.size with q | q
  ·exact q
  ·have h1 := this.1
   simp only [Array.getD, show ¬ i < listed.size by omega, dite_false] at h1
   cases h1
 -- the induction
 have key : ∀ (m : Nat) (cur : Array Bool) (fr : Fr), cur.size = listed.size → (∀ j, j ∉ idx → cur[j]? = listed[j]?) → unl cur st = m → (∀ s ∈ st, cur.getD s.1 true = true → zAa s.2.1 fr = some s.2.2) → zA3 fr K0 → Ax P fn c (.any all (fuel + m) cur k) fr H := by
  intro m
  induction m with
  | zero =>
   intro cur fr hcs hco hcm hck hk0
   have hall : ∀ s ∈ st, cur.getD s.1 true = true := fun s hs => by
    cases hq : cur.getD s.1 true with
    | true => rfl
    | false =>
     exfalso
     have h0 : st.filter (fun s => !cur.getD s.1 true) = [] := List.length_eq_zero_iff.1 hcm
     have : s ∈ st.filter (fun s => !cur.getD s.1 true) := List.mem_filter.2 ⟨hs, by rw [hq]; rfl⟩
     rw [h0] at this; simp at this
   have hcur : cur = listed' := by
    rw [← hl]
    apply Array.ext_getElem?
    intro j
    rcases Nat.lt_or_ge j listed.size with q | q
    ·rw [zFR idx listed j q]
     by_cases hj : j ∈ idx
     ·rw [if_pos hj]
      obtain ⟨s, hs1, hs2⟩ := (hmem j).1 hj
      have := hall s hs1
      rw [hs2] at this
      simp only [Array.getD, show j < cur.size by omega, dite_true] at this
      rw [Array.getElem?_eq_getElem (by omega)]
      exact congrArg some this
     ·rw [if_neg hj]; exact hco j hj
    ·rw [Array.getElem?_eq_none (by omega), Array.getElem?_eq_none (by rw [zEe]; omega)]
   subst hcur
   intro w a σ S hr
   refine hG w a σ S (hr.weaken (zCl fun p hp => ?_))
   rcases List.mem_append.1 hp with q | q
   ·obtain ⟨s, q1, q2⟩ := List.mem_map.1 q
    rw [← q2]; exact hck s q1 (hall s q1)
   ·exact zCm hk0 p q
  | succ m ih =>
   intro cur fr hcs hco hcm hck hk0
   -- some step is left
   obtain ⟨s0, hs0, hs0u⟩ : ∃ s ∈ st, cur.getD s.1 true = false := by
    rcases hq : st.filter (fun s => !cur.getD s.1 true) with _ | ⟨s, r⟩
    ·unfold unl at hcm; rw [hq] at hcm; simp at hcm
    ·have : s ∈ st.filter (fun s => !cur.getD s.1 true) := by rw [hq]; simp
     obtain ⟨h1, h2⟩ := List.mem_filter.1 this
     exact ⟨s, h1, by simpa using h2⟩
   have hsub : ∀ i ∈ Region.ready .any all cur, i ∈ idx ∧ cur.getD i true = false := by
    intro i hi
    obtain ⟨h1, o, ho, hdeps⟩ := mem_ready.1 hi
    refine ⟨?_, h1⟩
    apply Classical.byContradiction
    intro hni
    have hjs : i < all.size := (Array.getElem?_eq_some_iff.1 ho).1
    have := ok2 i (List.mem_range.2 hjs)
    simp only [Bool.or_eq_true, ho] at this
    rcases this with (q | q) | q
    ·exact hni (by simpa using q)
    ·have hco' := hco i hni
     have h2 : listed.getD i true = cur.getD i true := by
      simp only [Array.getD_eq_getD_getElem?, hco']
     rw [h2, h1] at q; cases q
    ·rw [List.all_eq_true] at q
     have := q s0.1 ((hmem s0.1).2 ⟨s0, hs0, rfl⟩)
     obtain ⟨e, he1, he2⟩ := List.any_eq_true.1 this
     rw [Bool.and_eq_true] at he2
     have h3 := hdeps e (Array.mem_toList_iff.1 he1) he2.2
     rw [Nat.eq_of_beq_eq_true he2.1] at h3
     have hsz := hlt s0.1 ((hmem s0.1).2 ⟨s0, hs0, rfl⟩)
     simp only [Array.getD, show s0.1 < cur.size by omega, dite_true] at h3 hs0u
     rw [h3] at hs0u; cases hs0u
   have hne : Region.ready .any all cur ≠ [] := by
    intro h0
    -- the least one that is left
    have hex : ∃ i, i ∈ idx ∧ cur.getD i true = false := ⟨s0.1, (hmem s0.1).2 ⟨s0, hs0, rfl⟩, hs0u⟩
    have least : ∀ n i, i ≤ n → i ∈ idx → cur.getD i true = false → False := by
     intro n
     induction n with
     | zero =>
      intro i hi him hiu
      have h1 := ok1 i him
      simp only [Bool.and_eq_true] at h1
      cases hoo : all[i]? with
      | none => rw [hoo] at h1; exact absurd h1.2 (by simp)
      | some o =>
       rw [hoo] at h1
       simp only [Bool.and_eq_true] at h1
       have h2 := List.all_eq_true.1 h1.2.2
       have : i ∈ Region.ready .any all cur := mem_ready.2 ⟨hiu, o, hoo, fun e he hb => by
        have := h2 e (Array.mem_toList_iff.2 he)
        rw [hb] at this
        simp only [Bool.not_true, Bool.false_or, Bool.and_eq_true] at this
        have := Nat.le_of_ble_eq_true this.1
        omega⟩
       rw [h0] at this; simp at this
     | succ n ihn =>
      intro i hi him hiu
      have h1 := ok1 i him
      simp only [Bool.and_eq_true] at h1
      cases hoo : all[i]? with
      | none => rw [hoo] at h1; exact absurd h1.2 (by simp)
      | some o =>
       rw [hoo] at h1
       simp only [Bool.and_eq_true] at h1
       have h2 := List.all_eq_true.1 h1.2.2
       have : i ∈ Region.ready .any all cur := mem_ready.2 ⟨hiu, o, hoo, fun e he hb => by
        have h3 := h2 e (Array.mem_toList_iff.2 he)
        rw [hb] at h3
        simp only [Bool.not_true, Bool.false_or, Bool.and_eq_true, Bool.or_eq_true] at h3
        have hlt' : e.on < i := Nat.le_of_ble_eq_true h3.1
        by_cases hei : e.on ∈ idx
        ·cases hq : cur.getD e.on true with
         | false => exact (ihn e.on (by omega) hei hq).elim
         | true =>
          have hsz := hlt e.on hei
          simp only [Array.getD, show e.on < cur.size by omega, dite_true] at hq ⊢
          exact hq
        ·rcases h3.2 with q | q
         ·exact absurd (by simpa using q) hei
         ·have h2 : cur.getD e.on false = listed.getD e.on false := by simp only [Array.getD_eq_getD_getElem?, hco e.on hei]
          rw [h2]; exact q⟩
       rw [h0] at this; simp at this
    obtain ⟨i, hi1, hi2⟩ := hex
    exact least i i (Nat.le_refl _) hi1 hi2
   refine zH U hne hd (zIQ (fun i hi o ho => ?_))
   obtain ⟨him, hiu⟩ := hsub i hi
   obtain ⟨s, hs1, hs2⟩ := (hmem i).1 him
   obtain ⟨o', K, g1, g2, g3, g4⟩ := hst s hs1
   rw [hs2, ho] at g1
   obtain rfl := Option.some.inj g1
   obtain ⟨_, o2, ho2, hdeps⟩ := mem_ready.1 hi
   rw [ho] at ho2
   obtain rfl := Option.some.inj ho2
   refine g3 _ fr (zCl fun p hp => ?_) (zC (zX ?_))
   ·rcases g4 p hp with q | ⟨s', q1, ⟨e, q2, q3, q4⟩, q5⟩
    ·exact zCm hk0 p q
    ·have h1 := hdeps e q2 q3
     rw [q4] at h1
     rw [← q5]
     refine hck s' q1 ?_
     have hsz := hlt s'.1 ((hmem s'.1).2 ⟨s', q1, rfl⟩)
     simp only [Array.getD, show s'.1 < cur.size by omega, dite_true] at h1 ⊢
     exact h1
   ·have hisz := hlt i him
    refine ih (cur.setIfInBounds i true) _ (by simpa using hcs) (fun j hj => ?_) ?_ (fun s' hs' hu => ?_) ?_
    ·rw [Array.getElem?_setIfInBounds_ne (show i ≠ j from fun e => hj (e ▸ him))]; exact hco j hj
    ·-- one less
     have hf : st.filter (fun s' => !(cur.setIfInBounds i true).getD s'.1 true) = (st.filter (fun s' => !cur.getD s'.1 true)).filter (fun s' => decide (s'.1 ≠ i)) := by
      rw [List.filter_filter]
      congr 1
      funext s'
      by_cases hq : s'.1 = i
      ·rw [hq]; simp [Array.getD, show i < cur.size by omega]
      ·have hq' : ¬ i = s'.1 := fun e => hq e.symm
       simp [Array.getD_eq_getD_getElem?, Array.getElem?_setIfInBounds, hq, hq']
     unfold unl at hcm ⊢
     rw [hf]
     have hmemf : s ∈ st.filter (fun s' => !cur.getD s'.1 true) := List.mem_filter.2 ⟨hs1, by rw [hs2, hiu]; rfl⟩
     have hndf : ((st.filter (fun s' => !cur.getD s'.1 true)).map (·.1)).Nodup := List.Nodup.sublist (List.Sublist.map _ List.filter_sublist) hnd'
     revert hcm hmemf hndf
     generalize st.filter (fun s' => !cur.getD s'.1 true) = L
     intro hcm hmemf hndf
     have gen : ∀ (L : Steps) (n : Nat), L.length = n + 1 → s ∈ L → (L.map (·.1)).Nodup → (L.filter (fun s' => decide (s'.1 ≠ i))).length = n := by
      intro L
      induction L with
      | nil => intro n h; simp at h
      | cons x r ihL =>
       intro n hn hm hnd
       simp only [List.map_cons, List.nodup_cons] at hnd
       rcases List.mem_cons.1 hm with rfl | hm
       ·have hno : ∀ y ∈ r, y.1 ≠ i := fun y hy e => hnd.1 (List.mem_map.2 ⟨y, hy, by rw [e, hs2]⟩)
        have : (r.filter (fun s' => decide (s'.1 ≠ i))) = r := List.filter_eq_self.2 (fun y hy => by simpa using hno y hy)
        rw [List.filter_cons_of_neg (by simp [hs2]), this]
        simpa using hn
       ·have hx : x.1 ≠ i := fun e => hnd.1 (List.mem_map.2 ⟨s, hm, by rw [hs2, e]⟩)
        have hr0 : 0 < r.length := List.length_pos_iff.2 (by rintro rfl; simp at hm)
        obtain ⟨n', rfl⟩ : ∃ n', n = n' + 1 := ⟨n - 1, by simp at hn; omega⟩
        rw [List.filter_cons_of_pos (by simpa using hx), List.length_cons, ihL n' (by simpa using hn) hm hnd.2]
     exact gen L m hcm hmemf hndf
    ·by_cases hq : s'.1 = i
     ·have : s' = s := by
       have h1 : s ∈ st := hs1
       have hinj : ∀ (L : Steps), (L.map (·.1)).Nodup → ∀ x ∈ L, ∀ y ∈ L, x.1 = y.1 → x = y := by
        intro L
        induction L with
        | nil => intro _ x hx; simp at hx
        | cons z r ihL =>
         intro hnd x hx y hy hxy
         simp only [List.map_cons, List.nodup_cons] at hnd
         rcases List.mem_cons.1 hx with hx | hx <;> rcases List.mem_cons.1 hy with hy | hy
         ·rw [hx, hy]
         ·exact absurd (List.mem_map.2 ⟨y, hy, by rw [← hxy, hx]⟩) hnd.1
         ·exact absurd (List.mem_map.2 ⟨x, hx, by rw [hxy, hy]⟩) hnd.1
         ·exact ihL hnd.2 x hx y hy hxy
       exact hinj st hnd' s' hs' s hs1 (by rw [hq, hs2])
      rw [this]
      exact zIT _ _ _
     ·have h1 : cur.getD s'.1 true = true := by
       have hq' : ¬ i = s'.1 := fun e => hq e.symm
       simpa [Array.getD_eq_getD_getElem?, Array.getElem?_setIfInBounds, hq'] using hu
      have h2 := hck s' hs' h1
      -- another slot
      have hne2 : s'.2.1 ≠ s.2.1 := by
       intro e
       obtain ⟨o3, _, f1, f2, _, _⟩ := hst s' hs'
       have h3 := List.all_eq_true.1 (ok3 s'.1 ((hmem s'.1).2 ⟨s', hs', rfl⟩)) i him
       rw [f1, ho] at h3
       simp only [Bool.or_eq_true, Bool.not_eq_true', f2, g2] at h3
       rcases h3 with h3 | h3
       ·exact hq (Nat.eq_of_beq_eq_true h3)
       ·rw [e] at h3; simp at h3
      show (bif Nat.beq s'.2.1 s.2.1 then some s.2.2 else zAa s'.2.1 fr) = _
      rw [zBX hne2]; exact h2
    ·refine zCl fun p hp => ?_
     have h1 := ok1 i him
     simp only [Bool.and_eq_true] at h1
     rw [ho] at h1
     simp only [g2, Bool.and_eq_true, Bool.not_eq_true'] at h1
     have hne3 : p.1 ≠ s.2.1 := by
      intro e
      have : (K0.map (·.1)).contains s.2.1 = true := by
       rw [List.contains_iff_mem]
       exact List.mem_map.2 ⟨p, hp, e⟩
      rw [h1.2.1] at this; cases this
     show (bif Nat.beq p.1 s.2.1 then some s.2.2 else zAa p.1 fr) = _
     rw [zBX hne3]; exact zCm hk0 p hp
 have hm0 : unl listed st = idx.length := by
  unfold unl
  rw [List.filter_eq_self.2 (fun s hs => ?_), hlen]
  have := ok1 s.1 ((hmem s.1).2 ⟨s, hs, rfl⟩)
  simp only [Bool.and_eq_true] at this
  exact this.1
 have := key idx.length listed fr rfl (fun _ _ => rfl) hm0 (fun s hs hu => by
  have h1 := ok1 s.1 ((hmem s.1).2 ⟨s, hs, rfl⟩)
  simp only [Bool.and_eq_true, Bool.not_eq_true'] at h1
  rw [h1.1] at hu; cases hu) hK
 exact this
variable {ind : Bool} {d : Option Nat} {ty : TypeId} {pos : String} {after : Array Edge} {g : Option (Nat × Bool)}
/-- Reading a part of a variable that is a struct. -/
theorem zEL {x : Operand} {t : TypeId} {u : TypeDesc} {h i j : Nat} {ob : AObj} {inf : TypeInfo} {L : List AV} (ht : P.underlying t = some u) (hu : zBO u = true) (hinf : P.info? t = some inf) (hsz : Nat.ble (j + inf.size) ob.c.sz = true) (hx : ev fr x = some (.ptr h i j)) (hh : H[h]? = some (some ob))
 (hL : (List.range inf.size).map (fun e => ob.c.at i (j + e)) = L) (hi : i < ob.c.len) : QOp false P fn c fr H ⟨d, .load t x, ty, pos, after, g⟩ (.agg L) := by
 intro w a σ S hr
 have h1 := hr.evAt hx
 subst hL
 have hsz' := Nat.le_of_ble_eq_true hsz
 generalize hz : a.eval x = z at h1
 cases h1 with
 | ptr _ _ _ _ b s C hσ =>
  obtain ⟨hs', cur, g1, g2, g3, g4, g5, g6⟩ := hr.obj hh hσ
  subst hs'
  have hcell : ∀ w' : World, w'.heap = w.heap → ∀ e, e < inf.size → ∃ y, w'.cell? ⟨b, i * ob.c.sz + j + e, none⟩ = some y ∧ VR w S σ (ob.c.at i (j + e)) y ∧ y.oneCell' = true := by
   intro w' hw e he
   obtain ⟨y, e1, e2, e3⟩ := g6 i (j + e) hi (by omega)
   obtain ⟨mk, g1, _, _⟩ := g1.cells (by omega)
   exact ⟨y, by simp [World.cell?, hw, g1, Nat.add_assoc, e1], e2, e3⟩
  let cs : List Value := (List.range inf.size).map (fun e => (w.cell? ⟨b, i * ob.c.sz + j + e, none⟩).getD undef)
  refine ⟨.agg cs.toArray, .agg _ _ _ (by simp [cs]) (fun e he => ?_) (fun e he => ?_), fun w' hw => ?_⟩
  ·have he' : e < inf.size := by simpa using he
   obtain ⟨y, e1, e2, _⟩ := hcell w rfl e he'
   simpa [cs, Array.getD, he', e1, List.getD] using e2
  ·have he' : e < inf.size := by simpa using he
   obtain ⟨y, e1, _, e3⟩ := hcell w rfl e he'
   simpa [cs, Array.getD, he', e1] using e3
  ·have hw := hw.resolve_left (by decide)
   have hl := run_loadCells_list (P := P) w' ⟨b, i * ob.c.sz + j, none⟩ cs (fun e v hv => by
    have he : e < inf.size := by simpa [cs] using (List.getElem?_eq_some_iff.1 hv).1
    obtain ⟨y, e1, _, _⟩ := hcell w rfl e he
    simp only [cs, List.getElem?_map, List.getElem?_range he, Option.map_some, Option.some.injEq] at hv
    subst hv
    rw [e1, Addr.add_lit]
    have := World.cell?_of_block (w := w) (w' := w') (a := ⟨b, i * ob.c.sz + j + e, none⟩) (by rw [hw])
    rw [this, e1]; rfl)
   have hcl : cs.length = inf.size := by simp [cs]
   rw [hcl] at hl
   have hz' : a.eval x = .pointer (some ⟨b, i * ob.c.sz + j, none⟩) := by rw [hz]
   simp [execOp, hz', Instr.loadAt, Instr.sureAddr, loadVar, zCY ht, hu, sizeOf, typeInfo, hinf, hl]
end
end Go.Ax
namespace Go.Ax
variable [Pins]
open Go.RowKit
section
variable {ind : Bool} {P : Program} {fn : Func} {c : Ctx} {fr : Fr} {H : zP} {k : List It}
variable {d : Option Nat} {ty : TypeId} {pos : String} {after : Array Edge} {g : Option (Nat × Bool)}
theorem zGy {all : Array Oper} {t : TypeId} {x y : Operand} {ty : TypeId} {pos : String} {after : Array Edge} {rest : List Oper} {h i j s : Nat} {ob : AObj} {L : List AV} {c' : Cells}
 (hx : ev fr x = some (.ptr h i j)) (hy : ev fr y = some (.agg L)) (hs : (P.info? t).map (·.size) = some s) (hh : H[h]? = some (some ob)) (hl : L.length = s) (hj : j + s ≤ ob.c.sz) (hi : i < ob.c.len)
 (h1 : c'.len = ob.c.len) (h2 : c'.sz = ob.c.sz) (h3 : ∀ i' j', i' < ob.c.len → j' < ob.c.sz → c'.at i' j' = if i' = i ∧ j ≤ j' ∧ j' < j + s then L.getD (j' - j) .any else ob.c.at i' j')
 (hk : Ax P fn c (.ops false all rest k) fr (H.set h (some ⟨ob.ty, c'⟩))) (hz0 : ob.c.sz ≠ 0 := by (intro hh; cases hh)) : Ax P fn c (.ops false all (⟨none, .store t x y, ty, pos, after, none⟩ :: rest) k) fr H := by
 refine ax_w0 (fun w a σ S hr => ?_) hk
 have e1 := hr.evAt hx
 have e2 := hr.evAt hy
 generalize hz : a.eval x = z at e1
 generalize hzy : a.eval y = u at e2
 cases e2 with
 | agg _ _ vs hvl hvv hv1 =>
  cases e1 with
  | ptr _ _ _ _ b s' C hσ =>
   obtain ⟨hs', cur, g1, g2, g3, g4, g5, g6⟩ := hr.obj hh hσ
   subst hs'
   obtain ⟨mk, g1, hmk, hrow⟩ := g1.cells hz0
   have hfit : i * ob.c.sz + ob.c.sz ≤ cur.size := by
    rw [g2]
    have : (i + 1) * ob.c.sz ≤ C * ob.c.sz := Nat.mul_le_mul_right _ (by omega)
    rw [Nat.add_mul] at this; omega
   have hvsz : vs.size = s := by rw [hvl, hl]
   have hst := zBM P b (i * ob.c.sz + j) ob.ty mk vs.toList 0 cur w g1 hmk (by simp [hvsz]; omega) (fun v hv => by
    obtain ⟨j, hj, rfl⟩ := List.getElem_of_mem hv
    have hj' : j < vs.size := by simpa using hj
    have := hv1 j (by rw [← hvl]; exact hj')
    simpa [Array.getD, hj'] using this)
   simp only [Nat.add_zero] at hst
   generalize hcur : (cur.toList.take (i * ob.c.sz + j) ++ vs.toList ++ cur.toList.drop (i * ob.c.sz + j + vs.toList.length)).toArray = cur' at hst
   have hlen' : cur'.size = cur.size := by rw [← hcur]; simp [hvsz]; omega
   have hat : ∀ p, p < cur.size → cur'[p]? = if i * ob.c.sz + j ≤ p ∧ p < i * ob.c.sz + j + s then vs[p - (i * ob.c.sz + j)]? else cur[p]? := by
    intro p hp
    rw [← hcur]
    simp only [List.getElem?_toArray, List.append_assoc]
    by_cases c1 : p < i * ob.c.sz + j
    ·rw [List.getElem?_append_left (by simp; omega), List.getElem?_take, if_pos c1, if_neg (by omega)]; simp
    ·rw [List.getElem?_append_right (by simp; omega)]
     have ht : (cur.toList.take (i * ob.c.sz + j)).length = i * ob.c.sz + j := by simp; omega
     rw [ht]
     by_cases c2 : p < i * ob.c.sz + j + s
     ·rw [List.getElem?_append_left (by simp [hvsz]; omega), if_pos ⟨by omega, c2⟩]; simp
     ·rw [List.getElem?_append_right (by simp [hvsz]; omega), if_neg (by omega)]
      simp only [Array.length_toList, hvsz, List.getElem?_drop, Array.getElem?_toList]
      congr 1; omega
   refine ⟨w.setRow b cur', σ, S, ?_, hr.setRow hh hσ hrow h2 (by omega) (by rw [hlen', g2]) (fun i' j' hi' hj' => ?_)⟩
   ·simp only [execOp, hz, hzy, Instr.storeAt, Instr.sureAddr, storeVar, Sem.run_bind, Sem.run_pure, Result.andThen_ok, zEg hs, Value.cells, hvsz]
    simp [hst]
   ·rw [h1] at hi'
    rw [h2] at hj' ⊢
    rw [h3 i' j' hi' hj']
    have hp : i' * ob.c.sz + j' < cur.size := by
     rw [g2]
     have : (i' + 1) * ob.c.sz ≤ C * ob.c.sz := Nat.mul_le_mul_right _ (by omega)
     rw [Nat.add_mul] at this; omega
    rw [hat _ hp]
    by_cases he : i' = i ∧ j ≤ j' ∧ j' < j + s
    ·obtain ⟨he, q1, q2⟩ := he
     subst he
     rw [if_pos (show i' * ob.c.sz + j ≤ i' * ob.c.sz + j' ∧ i' * ob.c.sz + j' < i' * ob.c.sz + j + s from ⟨by omega, by omega⟩), if_pos ⟨rfl, q1, q2⟩]
     have hjv : j' - j < vs.size := by omega
     have e3 : i' * ob.c.sz + j' - (i' * ob.c.sz + j) = j' - j := by omega
     rw [e3]
     refine ⟨vs.getD (j' - j) undef, by simp [Array.getD, hjv], hvv (j' - j) (by omega), hv1 (j' - j) (by omega)⟩
    ·rw [if_neg he]
     have hne : ¬ (i * ob.c.sz + j ≤ i' * ob.c.sz + j' ∧ i' * ob.c.sz + j' < i * ob.c.sz + j + s) := by
      rintro ⟨q1, q2⟩
      by_cases hii : i' = i
      ·subst hii; exact he ⟨rfl, by omega, by omega⟩
      rcases Nat.lt_or_gt_of_ne hii with hlt | hlt
      ·have : (i' + 1) * ob.c.sz ≤ i * ob.c.sz := Nat.mul_le_mul_right _ hlt
       rw [Nat.add_mul] at this; omega
      ·have : (i + 1) * ob.c.sz ≤ i' * ob.c.sz := Nat.mul_le_mul_right _ hlt
       rw [Nat.add_mul] at this; omega
     rw [if_neg hne]
     exact g6 i' j' hi' hj'
end
end Go.Ax
namespace Go.Ax
variable [Pins]
open Go.RowKit
mutual
/-- The objects stand behind N others. -/
def AV.shift (N : Nat) : AV → AV
 | .sl h i n => .sl (h + N) i n
 | .ptr h i j => .ptr (h + N) i j
 | .fn f l => .fn f (AV.shifts N l)
 | .agg l => .agg (AV.shifts N l)
 | .tup l => .tup (AV.shifts N l)
 | .mp h => .mp (h + N)
 | v => v
def AV.shifts (N : Nat) : List AV → List AV
 | [] => []
 | v :: r => v.shift N :: AV.shifts N r
end
theorem zAn (N : Nat) (l : List AV) : (AV.shifts N l).length = l.length := by
 have _p := ‹Pins›
 induction l with
 | nil => rfl
 | cons v r ih => simp [AV.shifts, ih]
theorem zCx (N : Nat) (l : List AV) (i : Nat) (hi : i < l.length) : (AV.shifts N l).getD i .any = (l.getD i .any).shift N := by
 have _p := ‹Pins›
 induction l generalizing i with
 | nil => simp at hi
 | cons v r ih => cases i with
  | zero => rfl
  | succ i => simpa [AV.shifts] using ih i (by simpa using hi)
theorem VR.shift {w : World} {S : Nat → Prop} {σ : Nat → Option Blk} {x : AV} {v : Value} {N : Nat} (hv : VR w S σ x v) : ∀ σ' : Nat → Option Blk, (∀ h B, σ h = some B → σ' (h + N) = some B) → VR w S σ' (x.shift N) v := by
 induction hv with
 | int => intros; constructor
 | bool => intros; constructor
 | str => intros; constructor
 | nil => intros; constructor
 | ro0 => intros; constructor
 | ro σ c i len b o cap val hSb hlen hc hv h1 ih => intro σ' _; exact .ro _ _ _ _ _ _ _ val hSb hlen hc hv h1
 | sl σ h' i len b s C cap hσ hlen hcap => intro σ' hs; exact .sl _ _ _ _ _ _ _ _ (hs _ _ hσ) hlen hcap
 | sl0 σ h' hσ => intro σ' hs; exact .sl0 _ _ (hs _ _ hσ)
 | rp σ c i j b o val hSb hc hv h1 ih => intro σ' _; exact .rp _ _ _ _ _ _ val hSb hc hv h1
 | ptr σ h' i j b s C hσ => intro σ' hs; exact .ptr _ _ _ _ _ _ _ (hs _ _ hσ)
 | nilp => intros; constructor
 | fn σ f cap vs hl hv ih => intro σ' hs; exact .fn _ _ _ _ (by rw [zAn]; exact hl) (fun i hi => by rw [zAn] at hi; rw [zCx N cap i hi]; exact ih i hi σ' hs)
 | nilfn => intros; constructor
 | iface => intros; constructor
 | nilif => intros; constructor
 | agg σ l vs hl hv h1 ih => intro σ' hs; exact .agg _ _ _ (by rw [zAn]; exact hl) (fun i hi => by rw [zAn] at hi; rw [zCx N l i hi]; exact ih i hi σ' hs) (fun i hi => h1 i (by rwa [zAn] at hi))
 | tup σ l vs hl hv ih => intro σ' hs; exact .tup _ _ _ (by rw [zAn]; exact hl) (fun i hi => by rw [zAn] at hi; rw [zCx N l i hi]; exact ih i hi σ' hs)
 | mp σ h' b hσ => intro σ' hs; exact .mp _ _ _ (hs _ _ hσ)
 | rom σ ks vs b es clock e hSb hb hn hl hd he hk hv => intro σ' hs; exact .rom _ _ _ b es clock e hSb hb hn hl hd he hk hv
 | any => intros; constructor
def Cells.shift (N : Nat) : Cells → Cells
 | .ints k l => .ints k l
 | .strs l => .strs l
 | .box l => .box (AV.shifts N l)
 | .mp ks vs => .mp (AV.shifts N ks) (AV.shifts N vs)
 | .fn n s f => .fn n s (fun i j => (f i j).shift N)
theorem Cells.shift_len (N : Nat) (c : Cells) : (c.shift N).len = c.len := by have _p := ‹Pins›; cases c <;> rfl
theorem Cells.shift_sz (N : Nat) (c : Cells) : (c.shift N).sz = c.sz := by
 cases c <;> first | rfl | exact zAn _ _
theorem Cells.shift_at (N : Nat) (c : Cells) (i j : Nat) (hj : j < c.sz) : (c.shift N).at i j = (c.at i j).shift N := by
 cases c with
 | box l => exact zCx N l j hj
 | _ => rfl
def zJP (N : Nat) : Option AObj → Option AObj
 | some o => some ⟨o.ty, o.c.shift N⟩
 | none => none
def zDh (N : Nat) : zP → zP
 | [] => []
 | o :: r => zJP N o :: zDh N r
theorem zJO (N : Nat) (H : zP) (i : Nat) : (zDh N H)[i]? = (H[i]?).map (zJP N) := by
 have _p := ‹Pins›
 induction H generalizing i with
 | nil => simp [zDh]
 | cons o r ih => cases i with
  | zero => simp [zDh]
  | succ i => simpa [zDh] using ih i
theorem zJr (N : Nat) (H : zP) : (zDh N H).length = H.length := by
 have _p := ‹Pins›
 induction H with
 | nil => rfl
 | cons o r ih => simp [zDh, ih]
theorem Lays.shift {w : World} {S : Nat → Prop} {σ σ' : Nat → Option Blk} {t : TypeId} {c : Cells} {b : Nat} {cur : Array Value} {C : Nat} {N : Nat} (hs : ∀ h B, σ h = some B → σ' (h + N) = some B)
 (hL : Lays w S σ ⟨t, c⟩ b cur C) : Lays w S σ' ⟨t, c.shift N⟩ b cur C := by
 have _p := ‹Pins›
 cases hL with
 | row mk h hm hC => exact .row mk h hm hC
 | map ks vs es clock hc hC h hn hl hd he =>
  simp only at hc
  subst hc
  exact .map _ _ es clock U hC h (by rw [zAn]; exact hn) (by rw [zAn, zAn]; exact hl) hd (fun i hi => by
   rw [zAn] at hi
   obtain ⟨e, e1, e2, e3⟩ := he i hi
   exact ⟨e, e1, by rw [zCx _ _ _ hi]; exact e2.shift σ' hs, by rw [zCx _ _ _ (by omega)]; exact e3.shift σ' hs⟩)
def zDj (N : Nat) (σ σ0 : Nat → Option Blk) (h : Nat) : Option Blk := if h < N then σ h else σ0 (h - N)
theorem zGg {N : Nat} {σ σ0 : Nat → Option Blk} : ∀ h B, σ0 h = some B → zDj N σ σ0 (h + N) = some B := by
 have _p := ‹Pins›
 intro h B hB
 unfold zDj
 rw [if_neg (by omega), Nat.add_sub_cancel]; exact hB
theorem HR.join {w : World} {S : Nat → Prop} {σ σ0 : Nat → Option Blk} {H H0 : zP} (h : HR w S σ H) (h0 : HR w S σ0 H0)
 (hd : ∀ h h' o o' b s C s' C', H[h]? = some (some o) → H0[h']? = some (some o') → σ h = some (.at b s C) → σ0 h' = some (.at b s' C') → False) :
 HR w S (zDj H.length σ σ0) (H ++ zDh H.length H0) := by
 have hfr : ∀ h B, σ h = some B → zDj H.length σ σ0 h = some B := by
  intro h' B hB
  unfold zDj
  split
  ·exact hB
  ·rename_i hl; rw [h.dom h' (by omega)] at hB; cases hB
 have hcase : ∀ h' o', (H ++ zDh H.length H0)[h']? = some (some o') → (h' < H.length ∧ H[h']? = some (some o')) ∨ (H.length ≤ h' ∧ ∃ o, H0[h' - H.length]? = some (some o) ∧ o' = ⟨o.ty, o.c.shift H.length⟩) := by
  intro h' o' ho
  by_cases he : h' < H.length
  ·rw [List.getElem?_append_left he] at ho; exact .inl ⟨he, ho⟩
  ·rw [List.getElem?_append_right (by omega), zJO] at ho
   cases e : H0[h' - H.length]? with
   | none => rw [e] at ho; cases ho
   | some x =>
    rw [e] at ho
    cases x with
    | none => simp [zJP] at ho
    | some o => simp [zJP] at ho; exact .inr ⟨by omega, o, rfl, ho.symm⟩
 refine ⟨fun h' o' ho => ?_, fun h1 h2 o1 o2 b s C s' C' q1 q2 e1 e2 => ?_, h.small, fun h' hl => ?_⟩
 ·rcases hcase h' o' ho with ⟨hl, ho'⟩ | ⟨hl, o, ho', rfl⟩
  ·rcases h.live h' o' ho' with ⟨h1, h2⟩ | ⟨b, C, cur, h1, h2, h3, h4, h5, h6, h7⟩
   ·exact .inl ⟨hfr _ _ h1, h2⟩
   ·refine .inr ⟨b, C, cur, hfr _ _ h1, h2.mono U (fun hv => hv.mono (fun _ h => h) (fun _ _ => rfl) _ hfr), h3, h4, h5, h6, fun i j hi hj => ?_⟩
    obtain ⟨v, e1, e2, e3⟩ := h7 i j hi hj
    exact ⟨v, e1, e2.mono (fun _ h => h) (fun _ _ => rfl) _ hfr, e3⟩
  ·have hj : zDj H.length σ σ0 h' = σ0 (h' - H.length) := by unfold zDj; rw [if_neg (by omega)]
   rw [hj]
   rcases h0.live _ o ho' with ⟨h1, h2⟩ | ⟨b, C, cur, h1, h2, h3, h4, h5, h6, h7⟩
   ·exact .inl ⟨h1, by rw [Cells.shift_len]; exact h2⟩
   ·refine .inr ⟨b, C, cur, by rw [Cells.shift_sz]; exact h1, Lays.shift zGg h2, by rw [Cells.shift_sz]; exact h3, h4, by rw [Cells.shift_len]; exact h5, h6, fun i j hi hj => ?_⟩
    rw [Cells.shift_len] at hi
    rw [Cells.shift_sz] at hj ⊢
    obtain ⟨v, e1, e2, e3⟩ := h7 i j hi hj
    exact ⟨v, e1, by rw [Cells.shift_at _ _ _ _ hj]; exact e2.shift _ zGg, e3⟩
 ·rcases hcase h1 o1 q1 with ⟨l1, r1⟩ | ⟨l1, x1, r1, rfl⟩ <;> rcases hcase h2 o2 q2 with ⟨l2, r2⟩ | ⟨l2, x2, r2, rfl⟩
  ·unfold zDj at e1 e2
   rw [if_pos l1] at e1
   rw [if_pos l2] at e2
   exact h.dist h1 h2 o1 o2 b s C s' C' r1 r2 e1 e2
  ·unfold zDj at e1 e2
   rw [if_pos l1] at e1
   rw [if_neg (by omega)] at e2
   exact (hd _ _ _ _ _ _ _ _ _ r1 r2 e1 e2).elim
  ·unfold zDj at e1 e2
   rw [if_neg (by omega)] at e1
   rw [if_pos l2] at e2
   exact (hd _ _ _ _ _ _ _ _ _ r2 r1 e2 e1).elim
  ·unfold zDj at e1 e2
   rw [if_neg (by omega)] at e1 e2
   have := h0.dist _ _ x1 x2 b s C s' C' r1 r2 e1 e2
   omega
 ·rw [List.length_append, zJr] at hl
  unfold zDj
  rw [if_neg (by omega)]
  exact h0.dom _ (by omega)
/-- All that a function makes belongs to its caller. -/
theorem zd.lift {P : Program} {f : FuncId} {args : List AV} {fix : Nat → Prop} {K K' : AV → zP → Prop} {H : zP} (hc : zd P f args [] fix K) (hfx : ∀ h, ¬ fix h) (hn : noRef.noRefs args = true)
 (hK : ∀ (r0 : AV) (H0 : zP), K r0 H0 → K' (r0.shift H.length) (H ++ zDh H.length H0)) : zd P f args H (fun h => h < H.length) K' := by
 refine ⟨hc.1, fun w σ S vals hp hr hf hv => ?_⟩
 have hp0 : zC5 w S (fun _ => none) [] := hp.less (fun _ h => h) (fun _ h => h.nil)
 refine (hc.2 w (fun _ => none) S vals hp0 hr.empty (fun h hh => absurd hh (hfx h)) (hv.closed hn _)).mono ?_
 rintro e w' ⟨v, r0, σ', S', H0, rfl, g1, g2, g3, g4⟩
 obtain ⟨a1, a2⟩ := HR.after hr g1 g3
 have a3 := a2 K' hp
 have hno : ∀ b, ¬ zDS (fun _ => none) [] b := by rintro b ⟨h, o, s, C, h1, _⟩; simp at h1
 have hlto : ∀ h o b s C, H[h]? = some (some o) → σ h = some (.at b s C) → b < w.heap.size := by
  intro h o b s C ho hb
  rcases hr.live h o ho with ⟨hn, _⟩ | ⟨b', C', cur, hσ', g, _⟩
  ·rw [hb] at hn; cases hn
  ·rw [hb] at hσ'
   simp only [Option.some.injEq, Blk.at.injEq] at hσ'
   rw [hσ'.1]
   exact g.lt
 have hnew : ∀ h o b s C, H0[h]? = some (some o) → σ' h = some (.at b s C) → w.heap.size ≤ b := by
  intro h o b s C ho hb
  rcases g3.own h o b s C ho hb with h3 | h3
  ·exact absurd h3 (hno b)
  ·exact h3
 have hj := a1.join g1 (fun h h' o o' b s C s' C' q1 q2 e1 e2 => by
  have := hlto h o b s C q1 e1
  have := hnew h' o' b s' C' q2 e2
  omega)
 refine ⟨v, _, _, S', _, U, hj, g2.shift _ zGg, ⟨a3.os, a3.output, a3.tape, a3.size, a3.block, a3.S1, a3.S2, fun h hl => ?_, fun h hl => ?_, fun h o b s C ho hb => ?_⟩, hK r0 H0 g4⟩
 ·have hl : h < H.length := hl
  show zDj H.length σ σ' h = σ h
  unfold zDj; rw [if_pos hl]
 ·have hl : h < H.length := hl
  rw [List.length_append]; omega
 ·by_cases he : h < H.length
  ·rw [List.getElem?_append_left he] at ho
   unfold zDj at hb
   rw [if_pos he] at hb
   exact .inl ⟨h, o, s, C, ho, hb⟩
  ·rw [List.getElem?_append_right (by omega), zJO] at ho
   unfold zDj at hb
   rw [if_neg he] at hb
   cases e : H0[h - H.length]? with
   | none => rw [e] at ho; cases ho
   | some x =>
    rw [e] at ho
    cases x with
    | none => simp [zJP] at ho
    | some o' => exact .inr (hnew _ o' b s C e hb)
/-- A contract on a function that makes several objects: they are the caller's. -/
def MCall (P : Program) (f : FuncId) (args : List AV) (r : AV) (H0 : zP) : Prop := ∀ H, zd P f args H (fun h => h < H.length) (fun r' H' => r' = r.shift H.length ∧ H' = H ++ zDh H.length H0)
theorem zd.many {P : Program} {f : FuncId} {args : List AV} {fix : Nat → Prop} {r : AV} {H0 : zP} (hc : zd P f args [] fix (fun r' H' => r' = r ∧ H' = H0)) (hfx : ∀ h, ¬ fix h) (hn : noRef.noRefs args = true) : MCall P f args r H0 := fun H =>
 hc.lift hfx hn (fun r0 H1 h => by obtain ⟨rfl, rfl⟩ := h; exact ⟨rfl, rfl⟩)
section
variable {P : Program} {fn : Func} {c : Ctx} {fr : Fr} {H : zP} {k : List It} {all : Array Oper} {d : Nat} {g : Operand} {args : List Operand} {ats : Array TypeId} {ty : TypeId} {pos : String} {after : Array Edge} {rest : List Oper} {f : FuncId}
/-- A call that makes several objects. -/
theorem zIZ {caps ags ags' : List AV} {r : AV} {H0 : zP} (r' : AV) (H' : zP) (hg : ev fr g = some (.fn f caps)) (ha : evs fr args = some ags) (has : ags ++ caps = ags') (hcall : MCall P f ags' r H0) (hr : r.shift H.length = r') (hH : H ++ zDh H.length H0 = H')
 (hk : Ax P fn c (.ops false all rest k) ((d, r') :: fr) H') : Ax P fn c (.ops false all (⟨some d, .call { callee := .value g, args := args.toArray, argTypes := ats }, ty, pos, after, none⟩ :: rest) k) fr H :=
 zGw hg ha has (hcall H) (fun _ h => h) (fun _ h => h) (fun r1 H1 h => by obtain ⟨rfl, rfl⟩ := h; subst hr; subst hH; exact hk)
end
mutual
theorem zL5 : ∀ (x : AV), noRef x = true → ∀ N, x.shift N = x
 | .int _ _, _, _ => rfl
 | .bool _, _, _ => rfl
 | .str _, _, _ => rfl
 | .nil, _, _ => rfl
 | .ro _ _ _, _, _ => rfl
 | .sl _ _ _, h, _ => by simp [noRef] at h
 | .rp _ _ _, _, _ => rfl
 | .ptr _ _ _, h, _ => by simp [noRef] at h
 | .nilp, _, _ => rfl
 | .fn f l, h, N => by
  have _p := ‹Pins›
  simp only [AV.shift]; rw [zDw l (by simpa [noRef] using h) N]
 | .nilfn, _, _ => rfl
 | .iface, _, _ => rfl
 | .nilif, _, _ => rfl
 | .agg l, h, N => by simp only [AV.shift]; rw [zDw l (by simpa [noRef] using h) N]
 | .tup l, h, N => by simp only [AV.shift]; rw [zDw l (by simpa [noRef] using h) N]
 | .mp _, h, _ => by simp [noRef] at h
 | .rom _ _, _, _ => rfl
 | .any, _, _ => rfl
theorem zDw : ∀ (l : List AV), noRef.noRefs l = true → ∀ N, AV.shifts N l = l
 | [], _, _ => rfl
 | v :: r, h, N => by
  have _p := ‹Pins›
  simp only [noRef.noRefs, Bool.and_eq_true] at h
  simp only [AV.shifts]
  rw [zL5 v h.1 N, zDw r h.2 N]
end
end Go.Ax
namespace Go.Ax
variable [Pins]
open Go.RowKit
section
variable {α : Type} {O : AObj} {t : TypeId} {f : α → Cells} {X : List α} {L : zP}
/-- The same heap, told by other cells of the outer row and of the objects behind. -/
theorem zAs.append {A A' B B' : zP} (h1 : zAs A A') (h2 : zAs B B') : zAs (A ++ B) (A' ++ B') := by
 have _p := ‹Pins›
 refine ⟨by rw [List.length_append, List.length_append, h1.1, h2.1], fun h o' ho => ?_⟩
 by_cases hl : h < A'.length
 ·rw [List.getElem?_append_left hl] at ho
  rw [List.getElem?_append_left (by rw [← h1.1]; exact hl)]
  exact h1.2 h o' ho
 ·rw [List.getElem?_append_right (by omega)] at ho
  rw [List.getElem?_append_right (by have := h1.1; omega), ← h1.1]
  exact h2.2 _ o' ho
end
section
variable {ind : Bool} {P : Program} {fn : Func} {c : Ctx} {fr : Fr} {H : zP} {k : List It}
variable {d : Option Nat} {ty : TypeId} {pos : String} {after : Array Edge} {g : Option (Nat × Bool)}
/-- Where the object stands is zEz by a fact. -/
theorem zEa {x i : Operand} {t e : TypeId} {h o len ix : Nat} {ob : AObj} {k : IntKind} {m : Int} (ht : P.underlying t = some (.slice e)) (hx : ev fr x = some (.sl h o len)) (hi : ev fr i = some (.int k m)) (hh : H[h]? = some (some ob)) (hs : (P.info? e).map (·.size) = some ob.c.sz) (hix : o + m.toNat = ix) (hb : 0 ≤ m ∧ m < len) :
 QOp ind P fn c fr H ⟨d, .indexAddr t x i, ty, pos, after, g⟩ (.ptr h ix 0) := zo ht hx hh hs hi hix hb
theorem zGT {x : Operand} {t : TypeId} {u : TypeDesc} {h i : Nat} {ob : AObj} {inf : TypeInfo} {L : List AV} (ht : P.underlying t = some u) (hu : zBO u = true) (hinf : P.info? t = some inf) (hx : ev fr x = some (.ptr h i 0)) (hh : H[h]? = some (some ob)) (hsz : inf.size = ob.c.sz)
 (hL : (List.range ob.c.sz).map (ob.c.at i) = L) (hi : i < ob.c.len) : QOp false P fn c fr H ⟨d, .load t x, ty, pos, after, g⟩ (.agg L) := zJn ht hu hinf hsz hx hh hL hi
theorem zBU {x : Operand} {t : TypeId} {u : TypeDesc} {h j : Nat} {oty : TypeId} {l : List AV} {v : AV} (ht : P.underlying t = some u) (hu : zBO u = false) (hx : ev fr x = some (.ptr h 0 j)) (hh : H[h]? = some (some ⟨oty, .box l⟩)) (hv : l[j]? = some v) :
 QOp false P fn c fr H ⟨d, .load t x, ty, pos, after, g⟩ v := zU ht hu hx hh hv
end
end Go.Ax
namespace Go.Ax
variable [Pins]
open Go.RowKit
/-- What keys a map has. -/
inductive KSort where
 | int (k : IntKind)
 | str
 | pair (k : IntKind)
inductive KV : KSort → Value → Prop
 | int (k n) : KV (.int k) (.int k n)
 | str (s) : KV .str (.string s)
 | pair (k a b) : KV (.pair k) (.agg #[.int k a, .int k b])
inductive KFit (P : Program) (kt : TypeId) : KSort → Prop
 | int {k} (h : P.underlying kt = some (.int k)) : KFit P kt (.int k)
 | str (h : P.underlying kt = some .string) : KFit P kt .str
 | pair {k e} (h : P.underlying kt = some (.array 2 e)) (he : P.underlying e = some (.int k)) (h1 : (P.info? e).map (·.size) = some 1) : KFit P kt (.pair k)
theorem KV.isKey {s : KSort} {v : Value} (hv : KV s v) : (∀ k, s = .int k → MapKept.IsKey (.int k) v) ∧ (s = .str → MapKept.IsKey .string v) := by
 have _p := ‹Pins›
 cases hv
 ·refine ⟨fun k h => ?_, fun h => ?_⟩
  ·cases h; trivial
  ·cases h
 ·refine ⟨fun k h => ?_, fun h => ?_⟩
  ·cases h
  ·trivial
 ·refine ⟨fun k h => ?_, fun h => ?_⟩
  ·cases h
  ·cases h
section
variable {P : Program} {kt : TypeId} {s : KSort}
theorem zEd {e : TypeId} {q : IntKind} (he : P.underlying e = some (.int q)) (w : World) (cs : Array Value) (o : Nat) {v : Value} (hv : cs[o]? = some v) : (part e cs o).run P w = .ok v w := by
 have _p := ‹Pins›
 simp [part, isAgg, Sem.run_bind, run_underlying he, hv]
theorem zJp {e : TypeId} {q : IntKind} (h : P.underlying kt = some (.array 2 e)) (he : P.underlying e = some (.int q)) (h1 : (P.info? e).map (·.size) = some 1) (w : World) (a b c d : Int) :
 (Op.equal kt (.agg #[.int q a, .int q b]) (.agg #[.int q c, .int q d])).run P w = .ok (decide (a = c ∧ b = d)) w := by
 have _p := ‹Pins›
 have p0 : ∀ x y : Int, (part e #[.int q x, .int q y] 0).run P w = .ok (.int q x) w := fun x y => zEd he w _ 0 rfl
 have p1 : ∀ x y : Int, (part e #[.int q x, .int q y] 1).run P w = .ok (.int q y) w := fun x y => zEd he w _ 1 rfl
 have z0 : (sizeOf e).run P w = .ok 1 w := zEg h1
 have e0 : ∀ x y : Int, (Op.equalIn 9999 e (.int q x) (.int q y)).run P w = .ok (x == y) w := fun x y => run_equalIn_int w 9998 e q q x y he
 unfold Op.equal Op.maxDepth
 rw [show (10000 : Nat) = 9999 + 1 from rfl, Op.equalIn]
 simp only [Sem.run_bind, run_underlying h, Result.andThen_ok, zEg h1]
 simp only [Std.Legacy.Range.forIn_eq_forIn_range', Std.Legacy.Range.size, Nat.sub_zero, Nat.add_sub_cancel, Nat.div_one, List.range'_succ, List.range'_zero, List.forIn_cons, List.forIn_nil]
 simp [Sem.run_bind, Result.andThen, p0, p1, z0, e0]
 by_cases g1 : a = c <;> by_cases g2 : b = d <;> simp [g1, g2, Sem.run_bind, Result.andThen, p0, p1, z0, e0]
theorem zEo (hf : KFit P kt s) {v : Value} (hv : KV s v) (w : World) (em : Bool) : (Instr.checkKey em 10000 kt v).run P w = .ok () w := by
 have _p := ‹Pins›
 cases hv with
 | int k n => cases hf with | int h => exact MapKept.run_checkKey h (by trivial) em 9999
 | str x => cases hf with | str h => exact MapKept.run_checkKey h (by trivial) em 9999
 | pair k a b =>
  cases hf with
  | pair h he h1 =>
   rename_i e
   have p0 : ∀ x y : Int, (part e #[.int k x, .int k y] 0).run P w = .ok (.int k x) w := fun x y => zEd he w _ 0 rfl
   have p1 : ∀ x y : Int, (part e #[.int k x, .int k y] 1).run P w = .ok (.int k y) w := fun x y => zEd he w _ 1 rfl
   have z0 : (sizeOf e).run P w = .ok 1 w := zEg h1
   have c0 : ∀ x : Int, (Instr.checkKey em 9999 e (.int k x)).run P w = .ok () w := fun x => MapKept.run_checkKey he (by trivial) em 9998
   rw [show (10000 : Nat) = 9999 + 1 from rfl, Instr.checkKey]
   simp only [Sem.run_bind, run_underlying h, Result.andThen_ok, zEg h1]
   simp only [Std.Legacy.Range.forIn_eq_forIn_range', Std.Legacy.Range.size, Nat.sub_zero, Nat.add_sub_cancel, Nat.div_one, List.range'_succ, List.range'_zero, List.forIn_cons, List.forIn_nil]
   simp [Sem.run_bind, Result.andThen, p0, p1, z0, c0]
theorem zFO (hf : KFit P kt s) {x : Value} (hx : KV s x) (w : World) (es : List MapEntry) (hes : ∀ e ∈ es, KV s e.key) :
 ((Instr.findKey kt x es).run P w = .ok none w ∧ ∀ e ∈ es, e.key ≠ x) ∨ ∃ j e, (Instr.findKey kt x es).run P w = .ok (some (j, e.val)) w ∧ es[j]? = some e ∧ e.key = x := by
 have _p := ‹Pins›
 have flat : ∀ d, P.underlying kt = some d → MapKept.IsKey d x → (∀ e ∈ es, MapKept.IsKey d e.key) → ((Instr.findKey kt x es).run P w = .ok none w ∧ ∀ e ∈ es, e.key ≠ x) ∨ ∃ j e, (Instr.findKey kt x es).run P w = .ok (some (j, e.val)) w ∧ es[j]? = some e ∧ e.key = x := by
  intro d hd hk hks
  rcases MapKept.findNow_spec hk es 0 hks with ⟨h1, h2⟩ | ⟨j, e, h1, h2, h3⟩
  ·exact .inl ⟨MapKept.run_findKey hd h1, h2⟩
  ·exact .inr ⟨j, e, by rw [Nat.zero_add] at h1; exact MapKept.run_findKey hd h1, h2, h3⟩
 cases hf with
 | int h => exact flat _ h (hx.isKey.1 _ rfl) (fun e he => (hes e he).isKey.1 _ rfl)
 | str h => exact flat _ h (hx.isKey.2 rfl) (fun e he => (hes e he).isKey.2 rfl)
 | pair h he h1 =>
  rename_i k e
  have hnow : ∀ (l : List MapEntry), Instr.findNow (.array 2 e) x l 0 = none ∨ l = [] := by
   intro l
   cases l with
   | nil => exact .inr rfl
   | cons a r => left; cases hx; simp [Instr.findNow, Instr.sameNow]
  have hask : ∀ (l : List MapEntry) (i : Nat), (∀ e ∈ l, KV (.pair k) e.key) → ((Instr.findAsking kt x l i).run P w = .ok none w ∧ ∀ e ∈ l, e.key ≠ x) ∨ ∃ j e, (Instr.findAsking kt x l i).run P w = .ok (some (i + j, e.val)) w ∧ l[j]? = some e ∧ e.key = x := by
   intro l
   induction l with
   | nil => intro i _; exact .inl ⟨rfl, fun e he => by cases he⟩
   | cons y r ih =>
    intro i hl
    obtain ⟨yk, yv, yb⟩ := y
    have hy : KV (.pair k) yk := hl _ (List.mem_cons_self ..)
    cases hx with
    | pair _ a b =>
     cases hy with
     | pair _ c d =>
      have heq := zJp (P := P) h he h1 w a b c d
      by_cases hac : a = c ∧ b = d
      ·obtain ⟨rfl, rfl⟩ := hac
       exact .inr ⟨0, _, by simp [Instr.findAsking, Sem.run_bind, heq, Result.andThen], U, U⟩
      ·have hne : (Value.agg #[.int k c, .int k d]) ≠ .agg #[.int k a, .int k b] := by
        intro q; simp at q; exact hac ⟨q.1.symm, q.2.symm⟩
       rcases ih (i + 1) (fun e he => hl e (List.mem_cons_of_mem _ he)) with ⟨g1, g2⟩ | ⟨j, e', g1, g2, g3⟩
       ·refine .inl ⟨by simp [Instr.findAsking, Sem.run_bind, heq, Result.andThen, hac, g1], fun e he => ?_⟩
        rcases List.mem_cons.1 he with rfl | he
        ·exact hne
        ·exact g2 e he
       ·exact .inr ⟨j + 1, e', by simp [Instr.findAsking, Sem.run_bind, heq, Result.andThen, hac, g1]; omega, by simpa using g2, g3⟩
  have hrun : (Instr.findKey kt x es).run P w = (Instr.findAsking kt x es 0).run P w := by
   rcases hnow es with hn | rfl
   ·simp [Instr.findKey, Sem.run_bind, run_underlying h, Result.andThen, hn]
   ·simp [Instr.findKey, Sem.run_bind, run_underlying h, Result.andThen, Instr.findNow, Instr.findAsking]
  rw [hrun]
  rcases hask es 0 hes with h2 | ⟨j, e', g1, g2, g3⟩
  ·exact .inl h2
  ·exact .inr ⟨j, e', by rw [Nat.zero_add] at g1; exact g1, g2, g3⟩
end
/-- Keys, told. -/
def zEU : KSort → AV → Bool
 | .int .i64, .int .i64 _ => true
 | .str, .str _ => true
 | .pair .i64, .agg [.int .i64 _, .int .i64 _] => true
 | _, _ => false
theorem zHC {s : KSort} {x : AV} (h : zEU s x = true) : ∃ u : Value, KV s u ∧ (∀ (w : World) (S : Nat → Prop) (σ : Nat → Option Blk) (v : Value), VR w S σ x v → v = u) ∧ (∀ y : AV, zEU s y = true → ∀ (w : World) (S : Nat → Prop) (σ : Nat → Option Blk), VR w S σ y u → y = x) := by
 have _p := ‹Pins›
 unfold zEU at h
 split at h
 ·rename_i n
  refine ⟨.int .i64 n, .int _ _, fun w S σ v hv => by cases hv; rfl, fun y hy w S σ hv => ?_⟩
  unfold zEU at hy
  split at hy <;> first | (cases hy; done) | (cases hv; rfl) | (rename_i q _; cases q; done) | (rename_i q; cases q; done) | skip
 ·rename_i n
  refine ⟨zGs n, .str _, fun w S σ v hv => by cases hv; rfl, fun y hy w S σ hv => ?_⟩
  unfold zEU at hy
  split at hy <;> first | (cases hy; done) | (rename_i q _; cases q; done) | (rename_i q; cases q; done) | skip
  rename_i m _
  generalize hz : zGs n = z at hv
  cases hv
  unfold zGs at hz
  simp at hz
  rw [hz]
 ·rename_i a b
  refine ⟨.agg #[.int .i64 a, .int .i64 b], .pair _ _ _, fun w S σ v hv => ?_, fun y hy w S σ hv => ?_⟩
  ·cases hv with
   | agg _ _ vs hl hv h1 =>
    obtain ⟨l⟩ := vs
    have hl' : l.length = 2 := by simpa using hl
    match l, hl' with
    | [x, y], _ =>
     have q0 := hv 0 (by simp)
     have q1 := hv 1 (by simp)
     simp at q0 q1
     cases q0; cases q1; rfl
  ·unfold zEU at hy
   split at hy <;> first | (cases hy; done) | (rename_i q _; cases q; done) | (rename_i q; cases q; done) | skip
   cases hv with
   | agg _ _ vs hl hv h1 =>
    have q0 := hv 0 (by simp)
    have q1 := hv 1 (by simp)
    simp at q0 q1
    cases q0; cases q1; rfl
 ·cases h
/-- What a map holds. -/
def zL2 (H : zP) : AV → Option (List AV × List AV)
 | .mp h => match H[h]? with
  | some (some o) => match o.c with
   | .mp ks vs => some (ks, vs)
   | _ => none
  | _ => none
 | .rom ks vs => some (ks, vs)
 | _ => none
theorem Rep.map {c : Ctx} {w : World} {a : Act} {σ : Nat → Option Blk} {S : Nat → Prop} {n : Nat} {fr : Fr} {H : zP} (hr : Rep c w a σ S n fr H) {x : AV} {v : Value} {ks vs : List AV} (hv : VR w S σ x v) (hm : zL2 H x = some (ks, vs)) :
 ∃ b es clock, v = .map (some b) ∧ w.heap[b]? = some (.map es clock) ∧ es.size = ks.length ∧ vs.length = ks.length ∧ es.toList.Pairwise (fun x y => x.key ≠ y.key) ∧ ∀ i, i < ks.length → ∃ e, es[i]? = some e ∧ VR w S σ (ks.getD i .any) e.key ∧ VR w S σ (vs.getD i .any) e.val := by
 cases hv <;> simp only [zL2] at hm <;> try (cases hm; done)
 case mp h b hσ =>
  cases hq : H[h]? with
  | none => simp [hq] at hm
  | some oo => cases oo with
   | none => simp [hq] at hm
   | some o =>
    simp only [hq] at hm
    rcases hr.hr.live h o hq with ⟨hn, _⟩ | ⟨b', C', cur, hσ', g1, g2, g3, g4, g5, g6⟩
    ·rw [hσ] at hn; cases hn
    ·rw [hσ] at hσ'
     simp only [Option.some.injEq, Blk.at.injEq] at hσ'
     obtain ⟨rfl, hsz, rfl⟩ := hσ'
     cases g1 with
     | row mk _ _ hC => omega
     | map ks' vs' es clock hc _ hb hn hl hd he =>
      rw [hc] at hm
      simp only [Option.some.injEq, Prod.mk.injEq] at hm
      obtain ⟨rfl, rfl⟩ := hm
      exact ⟨b, es, clock, U, hb, hn, hl, hd, he⟩
 case rom ks' vs' b es clock e hS hb hn hl hd he hk hv =>
  simp only [Option.some.injEq, Prod.mk.injEq] at hm
  obtain ⟨rfl, rfl⟩ := hm
  exact ⟨b, es, clock, rfl, hb, hn, hl, hd, fun i hi => ⟨e i, he i hi, (hk i hi).mono (fun _ h => h) (fun _ _ => rfl) _ (fun _ _ h => by cases h), (hv i hi).mono (fun _ h => h) (fun _ _ => rfl) _ (fun _ _ h => by cases h)⟩⟩
section
variable {ind : Bool} {P : Program} {fn : Func} {c : Ctx} {fr : Fr} {H : zP} {k : List It} {d : Option Nat} {ty : TypeId} {pos : String} {after : Array Edge} {g : Option (Nat × Bool)}
theorem zIx {w : World} {S : Nat → Prop} {σ : Nat → Option Blk} {s : KSort} {ks : List AV} {es : Array MapEntry} (hks : ∀ x ∈ ks, zEU s x = true) (hn : es.size = ks.length) (he : ∀ i, i < ks.length → ∃ e, es[i]? = some e ∧ VR w S σ (ks.getD i .any) e.key) : ∀ e ∈ es.toList, KV s e.key := by
 have _p := ‹Pins›
 intro e hm
 obtain ⟨i, hi, rfl⟩ := List.getElem_of_mem hm
 have hi' : i < ks.length := by simpa [hn] using hi
 obtain ⟨e', e1, e2⟩ := he i hi'
 have hmem : ks.getD i .any ∈ ks := by simp [List.getD, hi']
 obtain ⟨u, u1, u2, _⟩ := zHC (hks _ hmem)
 have : es.toList[i] = e' := by
  have h3 : es.toList[i]? = some e' := by simpa using e1
  rw [List.getElem?_eq_getElem hi] at h3
  exact Option.some.inj h3
 rw [this, u2 _ _ _ _ e2]
 exact u1
/-- m[key], where the key is there. -/
theorem zFL {t kt et : TypeId} {x ix : Operand} {ok : Bool} {m kk v : AV} {ks vs : List AV} {s : KSort} (ht : P.underlying t = some (.map kt et)) (hf : KFit P kt s) (hx : ev fr x = some m) (hm : zL2 H m = some (ks, vs)) (hi : ev fr ix = some kk) (hk : zEU s kk = true) (hks : ∀ x ∈ ks, zEU s x = true)
 (i : Nat) (h1 : ks[i]? = some kk) (h2 : vs[i]? = some v) : QOp false P fn c fr H ⟨d, .lookup t x ix ok, ty, pos, after, g⟩ (bif ok then .tup [v, .bool true] else v) := by
 intro w a σ S hr
 have e1 := hr.evAt hx
 have e2 := hr.evAt hi
 obtain ⟨b, es, clock, q1, q2, q3, q4, q5, q6⟩ := hr.map e1 hm
 obtain ⟨u, u1, u2, u3⟩ := zHC hk
 have q7 := u2 _ _ _ _ e2
 have hil : i < ks.length := (List.getElem?_eq_some_iff.1 h1).1
 obtain ⟨e0, p1, p2, p3⟩ := q6 i hil
 have g1 : ks.getD i .any = kk := by simp [List.getD, h1]
 have g2 : vs.getD i .any = v := by simp [List.getD, h2]
 rw [g1] at p2
 rw [g2] at p3
 have p4 := u2 _ _ _ _ p2
 have hkeys := zIx hks q3 (fun i hi => let ⟨e, a, b, _⟩ := q6 i hi; ⟨e, a, b⟩)
 have hval : ∀ w' : World, w'.heap = w.heap → (Instr.lookup t (a.eval x) (a.eval ix) ok).run P w' = .ok (if ok then .tuple #[e0.val, .bool true] else e0.val) w' := by
  intro w' hw
  have hb' : w'.heap[b]? = some (.map es clock) := by rw [hw]; exact q2
  rw [q1, q7]
  rcases zFO hf u1 w' es.toList hkeys with ⟨r1, r2⟩ | ⟨j, e', r1, r2, r3⟩
  ·exact absurd p4 (r2 e0 (by have := List.mem_of_getElem? (l := es.toList) (by simpa using p1); exact this))
  ·have : e' = e0 := by
    have hj := List.getElem?_eq_some_iff.1 r2
    have hi3 := List.getElem?_eq_some_iff.1 (show es.toList[i]? = some e0 by simpa using p1)
    obtain ⟨j1, j2⟩ := hj
    obtain ⟨i1, i2⟩ := hi3
    rcases Nat.lt_trichotomy i j with hlt | rfl | hlt
    ·exact absurd (by rw [i2, j2, p4, r3]) (List.pairwise_iff_getElem.1 q5 i j i1 j1 hlt)
    ·rw [← i2, ← j2]
    ·exact absurd (by rw [i2, j2, p4, r3]) (List.pairwise_iff_getElem.1 q5 j i j1 i1 hlt)
   subst this
   simp [Instr.lookup, Sem.run_bind, run_underlying ht, Result.andThen, MapKept.run_getObj_map hb', zEo hf u1, r1]
 refine ⟨if ok then .tuple #[e0.val, .bool true] else e0.val, ?_, fun w' hw => ?_⟩
 ·cases ok with
  | false => exact p3
  | true =>
   refine .tup _ _ _ U (fun j hj => ?_)
   match j, hj with
   | 0, _ => exact p3
   | 1, _ => exact .bool _ _
 ·have hw := hw.resolve_left (by decide)
  simp only [execOp, Sem.run_bind, hval w' hw]
  rfl
/-- .. where it is not. -/
theorem zEn {t kt et : TypeId} {x ix : Operand} {ok : Bool} {m kk zv : AV} {ks vs : List AV} {s : KSort} {inf : TypeInfo} {z : Value} (ht : P.underlying t = some (.map kt et)) (hf : KFit P kt s) (hinf : P.info? et = some inf) (hz : inf.zero = some z) (hzv : zav z = some [zv]) (hz1 : z.cells = #[z]) (hx : ev fr x = some m) (hm : zL2 H m = some (ks, vs)) (hi : ev fr ix = some kk) (hk : zEU s kk = true) (hks : ∀ x ∈ ks, zEU s x = true)
 (h1 : kk ∉ ks) : QOp false P fn c fr H ⟨d, .lookup t x ix ok, ty, pos, after, g⟩ (bif ok then .tup [zv, .bool false] else zv) := by
 intro w a σ S hr
 have e1 := hr.evAt hx
 have e2 := hr.evAt hi
 obtain ⟨b, es, clock, q1, q2, q3, q4, q5, q6⟩ := hr.map e1 hm
 obtain ⟨u, u1, u2, u3⟩ := zHC hk
 have q7 := u2 _ _ _ _ e2
 have hkeys := zIx hks q3 (fun i hi => let ⟨e, a, b, _⟩ := q6 i hi; ⟨e, a, b⟩)
 have hno : ∀ e ∈ es.toList, e.key ≠ u := by
  intro e hm' he
  obtain ⟨i, hi', rfl⟩ := List.getElem_of_mem hm'
  have hil : i < ks.length := by simpa [q3] using hi'
  obtain ⟨e', p1, p2, _⟩ := q6 i hil
  have : es.toList[i] = e' := by
   have h3 : es.toList[i]? = some e' := by simpa using p1
   rw [List.getElem?_eq_getElem hi'] at h3
   exact Option.some.inj h3
  rw [this] at he
  rw [he] at p2
  have hmem : ks.getD i .any ∈ ks := by simp [List.getD, hil]
  have := u3 _ (hks _ hmem) _ _ _ p2
  rw [this] at hmem
  exact h1 hmem
 have hval : ∀ w' : World, w'.heap = w.heap → (Instr.lookup t (a.eval x) (a.eval ix) ok).run P w' = .ok (if ok then .tuple #[z, .bool false] else z) w' := by
  intro w' hw
  have hb' : w'.heap[b]? = some (.map es clock) := by rw [hw]; exact q2
  have hzr : (zeroValue et).run P w' = .ok z w' := by simp [zeroValue, Sem.run_bind, typeInfo, hinf, hz]
  rw [q1, q7]
  rcases zFO hf u1 w' es.toList hkeys with ⟨r1, r2⟩ | ⟨j, e', r1, r2, r3⟩
  ·simp [Instr.lookup, Sem.run_bind, run_underlying ht, Result.andThen, MapKept.run_getObj_map hb', zEo hf u1, r1, hzr]
  ·exact absurd r3 (hno e' (List.mem_of_getElem? r2))
 have hzz : VR w S σ zv z := by
  have := (zFA (w := w) (S := S) (σ := σ) hzv).2 0 (by simp)
  rw [hz1] at this
  simpa using this.1
 refine ⟨if ok then .tuple #[z, .bool false] else z, ?_, fun w' hw => ?_⟩
 ·cases ok with
  | false => exact hzz
  | true =>
   refine .tup _ _ _ U (fun j hj => ?_)
   match j, hj with
   | 0, _ => exact hzz
   | 1, _ => exact .bool _ _
 ·have hw := hw.resolve_left (by decide)
  simp only [execOp, Sem.run_bind, hval w' hw]
  rfl
end
theorem Rep.allocL {c : Ctx} {w : World} {a : Act} {σ : Nat → Option Blk} {S : Nat → Prop} {n : Nat} {fr : Fr} {H : zP} (hr : Rep c w a σ S n fr H) {o : AObj} {C : Nat} {cur : Array Value} (ob : Obj) (hlen : o.c.len ≤ C) (hC : C ≤ maxLen + 1) (hcur : cur.size = C * o.c.sz) (hL : Lays (w.alloc ob) S (upσ σ H.length (.at w.heap.size o.c.sz C)) o w.heap.size cur C)
 (hc : ∀ i j, i < o.c.len → j < o.c.sz → ∃ v, cur[i * o.c.sz + j]? = some v ∧ VR w S σ (o.c.at i j) v ∧ v.oneCell' = true) :
 Rep c (w.alloc ob) a (upσ σ H.length (.at w.heap.size o.c.sz C)) S n fr (H ++ [some o]) := by
 have hold : ∀ b, b < w.heap.size → (w.alloc ob).heap[b]? = w.heap[b]? := fun b hb => Below.heap_alloc _ _ b hb
 have hext : ∀ h B, σ h = some B → upσ σ H.length (.at w.heap.size o.c.sz C) h = some B := by
  intro h B hB
  unfold upσ
  split
  ·rename_i he; rw [he, hr.hr.dom _ (Nat.le_refl _)] at hB; cases hB
  ·exact hB
 have hv : ∀ {x v}, VR w S σ x v → VR (w.alloc ob) S (upσ σ H.length (.at w.heap.size o.c.sz C)) x v :=
  fun h => h.mono (fun _ h => h) (fun b hb => hold b (hr.hr.small b hb)) _ hext
 have hset : ∀ h' o', (H ++ [some o])[h']? = some (some o') → (h' = H.length ∧ o' = o) ∨ (h' < H.length ∧ H[h']? = some (some o')) := by
  intro h' o' ho
  by_cases he : h' < H.length
  ·rw [List.getElem?_append_left he] at ho; exact .inr ⟨he, ho⟩
  ·by_cases he2 : h' = H.length
   ·subst he2; simp at ho; exact .inl ⟨rfl, ho.symm⟩
   ·have : (H ++ [some o]).length ≤ h' := by simp; omega
    rw [List.getElem?_eq_none this] at ho; cases ho
 have hσlt : ∀ h o' b s C', h < H.length → H[h]? = some (some o') → σ h = some (.at b s C') → b < w.heap.size := by
  intro h o' b s C' _ ho hb
  obtain ⟨_, cu, g, _⟩ := hr.obj ho hb
  exact g.lt
 refine ⟨⟨?_, ?_, fun b hb => by have := hr.hr.small b hb; simp; omega, fun h hl => ?_⟩, ?_, hr.defers, hr.size, fun t v hl => ⟨(hr.slots t v hl).1, hv (hr.slots t v hl).2⟩⟩
 ·intro h' o' ho
  rcases hset h' o' ho with ⟨rfl, rfl⟩ | ⟨hlt, ho'⟩
  ·right
   refine ⟨w.heap.size, C, cur, by simp [upσ], hL, hcur, hC, hlen, fun hs => Nat.lt_irrefl _ (hr.hr.small _ hs), fun i j hi hj => ?_⟩
   obtain ⟨v, e1, e2, e3⟩ := hc i j hi hj
   exact ⟨v, e1, hv e2, e3⟩
  ·rcases hr.hr.live h' o' ho' with ⟨hn, hl0⟩ | ⟨b', C', cu, g1, g2, g3, g4, g5, g6, g7⟩
   ·exact .inl ⟨hext _ _ hn, hl0⟩
   ·right
    refine ⟨b', C', cu, hext _ _ g1, g2.mono (hold b' g2.lt) hv, g3, g4, g5, g6, fun i j hi hj => ?_⟩
    obtain ⟨v, e1, e2, e3⟩ := g7 i j hi hj
    exact ⟨v, e1, hv e2, e3⟩
 ·intro h1 h2 o1 o2 b s1 C1 s2 C2 g1 g2 e1 e2
  rcases hset h1 o1 g1 with ⟨rfl, rfl⟩ | ⟨l1, g1'⟩ <;> rcases hset h2 o2 g2 with ⟨rfl, rfl⟩ | ⟨l2, g2'⟩
  ·rfl
  ·simp only [upσ, if_true, Option.some.injEq, Blk.at.injEq] at e1
   simp only [upσ, Nat.ne_of_lt l2, if_false] at e2
   have := hσlt h2 o2 b s2 C2 l2 g2' e2
   omega
  ·simp only [upσ, if_true, Option.some.injEq, Blk.at.injEq] at e2
   simp only [upσ, Nat.ne_of_lt l1, if_false] at e1
   have := hσlt h1 o1 b s1 C1 l1 g1' e1
   omega
  ·simp only [upσ, Nat.ne_of_lt l1, Nat.ne_of_lt l2, if_false] at e1 e2
   exact hr.hr.dist h1 h2 o1 o2 b s1 C1 s2 C2 g1' g2' e1 e2
 ·simp only [List.length_append, List.length_cons, List.length_nil] at hl
  have : ¬ h = H.length := by omega
  simp only [upσ, this, if_false]
  exact hr.hr.dom h (by omega)
 ·refine ⟨hr.kp.os, hr.kp.output, hr.kp.tape, by have := hr.kp.size; simp; omega, fun b hb ho => ?_, hr.kp.S1, hr.kp.S2, fun h hf => ?_, fun h hf => by have := hr.kp.fixlt h hf; simp; omega, ?_⟩
  ·rw [hold b (by have := hr.kp.size; omega)]; exact hr.kp.block b hb ho
  ·have := hr.kp.fixlt h hf
   have h2 : ¬ h = H.length := by omega
   simp only [upσ, h2, if_false]
   exact hr.kp.fixed h hf
  ·intro h' o' b s C' ho hb
   rcases hset h' o' ho with ⟨rfl, rfl⟩ | ⟨hlt, ho'⟩
   ·simp only [upσ, if_true, Option.some.injEq, Blk.at.injEq] at hb
    have := hr.kp.size
    omega
   ·simp only [upσ, Nat.ne_of_lt hlt, if_false] at hb
    exact hr.kp.own h' o' b s C' ho' hb
theorem Rep.reobj {c : Ctx} {w : World} {a : Act} {σ : Nat → Option Blk} {S : Nat → Prop} {n : Nat} {fr : Fr} {H : zP} (hr : Rep c w a σ S n fr H) {h b s C : Nat} {o : AObj} (hh : H[h]? = some (some o)) (hσ : σ h = some (.at b s C))
 {c' : Cells} {cur' : Array Value} (w' : World) (hos : w'.os = w.os) (hout : w'.output = w.output) (htape : w'.tape = w.tape) (hsize : w'.heap.size = w.heap.size) (hoth : ∀ b', b' ≠ b → w'.heap[b']? = w.heap[b']?) (hsz : c'.sz = o.c.sz) (hlen : c'.len ≤ C) (hcur : cur'.size = C * o.c.sz)
 (hc : ∀ i j, i < c'.len → j < c'.sz → ∃ v, cur'[i * c'.sz + j]? = some v ∧ VR w S σ (c'.at i j) v ∧ v.oneCell' = true) (hL : Lays w' S σ ⟨o.ty, c'⟩ b cur' C) :
 Rep c w' a σ S n fr (H.set h (some ⟨o.ty, c'⟩)) := by
 obtain ⟨hs, cur, h1, h2, h3, h4, h5, h6⟩ := hr.obj hh hσ
 have hlt : h < H.length := (List.getElem?_eq_some_iff.1 hh).1
 have hS : ∀ b', S b' → w'.heap[b']? = w.heap[b']? := fun b' hb => hoth b' (fun e => h5 (e ▸ hb))
 have hv : ∀ {σ' : Nat → Option Blk} {x v}, VR w S σ' x v → VR w' S σ' x v := fun h => h.mono (fun _ h => h) hS _ (fun _ _ h => h)
 have hset : ∀ h' o', (H.set h (some ⟨o.ty, c'⟩))[h']? = some (some o') → (h' = h ∧ o' = ⟨o.ty, c'⟩) ∨ (h' ≠ h ∧ H[h']? = some (some o')) := by
  intro h' o' ho
  by_cases he : h' = h
  ·subst he
   simp only [List.getElem?_set_self hlt, Option.some.injEq] at ho
   exact .inl ⟨U, ho.symm⟩
  ·rw [List.getElem?_set_ne (Ne.symm he)] at ho
   exact .inr ⟨he, ho⟩
 have hown := hr.kp.own h o b s C hh hσ
 refine ⟨⟨?_, ?_, fun b' hb => by rw [hsize]; exact hr.hr.small b' hb, fun h' hl => hr.hr.dom h' (by simpa using hl)⟩, ?_, hr.defers, hr.size, fun t v hl => ⟨(hr.slots t v hl).1, hv (hr.slots t v hl).2⟩⟩
 ·intro h' o' ho
  rcases hset h' o' ho with ⟨rfl, rfl⟩ | ⟨hne, ho'⟩
  ·right
   refine ⟨b, C, cur', ?_, hL, by simpa [hsz] using hcur, h3, hlen, h5, fun i j hi hj => ?_⟩
   ·rw [hσ, hs, hsz]
   ·obtain ⟨v, e1, e2, e3⟩ := hc i j hi hj
    exact ⟨v, e1, hv e2, e3⟩
  ·rcases hr.hr.live h' o' ho' with hn | ⟨b', C', cu, g1, g2, g3, g4, g5, g6, g7⟩
   ·exact .inl hn
   ·right
    have hbb : b' ≠ b := fun e => hne (hr.hr.dist h' h o' o b' o'.c.sz C' s C ho' hh g1 (by rw [hσ, e]))
    refine ⟨b', C', cu, g1, g2.mono (hoth b' hbb) hv, g3, g4, g5, g6, fun i j hi hj => ?_⟩
    obtain ⟨v, e1, e2, e3⟩ := g7 i j hi hj
    exact ⟨v, e1, hv e2, e3⟩
 ·intro h1' h2' o1 o2 b' s1 C1 s2 C2 g1 g2 e1 e2
  have t1 : ∃ o, H[h1']? = some (some o) := by
   rcases hset h1' o1 g1 with ⟨rfl, _⟩ | ⟨_, g⟩
   ·exact ⟨_, hh⟩
   ·exact ⟨_, g⟩
  have t2 : ∃ o, H[h2']? = some (some o) := by
   rcases hset h2' o2 g2 with ⟨rfl, _⟩ | ⟨_, g⟩
   ·exact ⟨_, hh⟩
   ·exact ⟨_, g⟩
  obtain ⟨_, t1⟩ := t1
  obtain ⟨_, t2⟩ := t2
  exact hr.hr.dist h1' h2' _ _ b' s1 C1 s2 C2 t1 t2 e1 e2
 ·refine ⟨hos.trans hr.kp.os, hout.trans hr.kp.output, htape.trans hr.kp.tape, by rw [hsize]; exact hr.kp.size, fun b' hb ho => ?_, hr.kp.S1, hr.kp.S2, hr.kp.fixed, fun h' hf => by simpa using hr.kp.fixlt h' hf, ?_⟩
  ·have hbb : b' ≠ b := by
    rintro rfl
    rcases hown with h | h
    ·exact ho h
    ·omega
   rw [hoth b' hbb]
   exact hr.kp.block b' hb ho
  ·intro h' o' b' s' C' ho hb
   rcases hset h' o' ho with ⟨rfl, _⟩ | ⟨_, g⟩
   ·exact hr.kp.own _ _ b' s' C' hh hb
   ·exact hr.kp.own h' o' b' s' C' g hb
section
variable {ind : Bool} {P : Program} {fn : Func} {c : Ctx} {fr : Fr} {H : zP} {k : List It} {d : Option Nat} {ty : TypeId} {pos : String} {after : Array Edge} {g : Option (Nat × Bool)}
/-- A new map. -/
theorem zMY {all : Array Oper} {d : Nat} {t : TypeId} {rest : List Oper} (hk : Ax P fn c (.ops false all rest k) ((d, .mp H.length) :: fr) (H ++ [some ⟨t, .mp [] []⟩])) : Ax P fn c (.ops false all (⟨some d, .makeMap t none, ty, pos, after, none⟩ :: rest) k) fr H := by
 refine ax_w (fun w a σ S hr => ?_) hk
 have hrun : (execOp a.eval ⟨some d, .makeMap t none, ty, pos, after, none⟩).run P w = .ok (.value (.map (some w.heap.size))) (w.alloc (.map #[] 0)) := by
  simp [execOp, Instr.makeMap, Sem.run_bind, newObj, Sem.run, Result.andThen]
 refine ⟨_, _, _, S, hrun, hr.allocL (o := ⟨t, .mp [] []⟩) (C := maxLen + 1) (cur := #[]) (.map #[] 0) (Nat.zero_le _) (Nat.le_refl _) U (.map [] [] #[] 0 U U (MapKept.heap_alloc w _).1 U U (by simp) (fun i hi => absurd hi (Nat.not_lt_zero _))) (fun i j hi => absurd hi (Nat.not_lt_zero _)), ?_⟩
 exact .mp _ _ _ (by simp [upσ, Cells.sz])
theorem Rep.own_map {w : World} {a : Act} {σ : Nat → Option Blk} {S : Nat → Prop} {n : Nat} (hr : Rep c w a σ S n fr H) {h : Nat} {x : Value} {t : TypeId} {ks vs : List AV} (hv : VR w S σ (.mp h) x) (hh : H[h]? = some (some ⟨t, .mp ks vs⟩)) :
 ∃ b es clock, x = .map (some b) ∧ σ h = some (.at b 0 (maxLen + 1)) ∧ w.heap[b]? = some (.map es clock) ∧ es.size = ks.length ∧ vs.length = ks.length ∧ es.toList.Pairwise (fun x y => x.key ≠ y.key) ∧ ∀ i, i < ks.length → ∃ e, es[i]? = some e ∧ VR w S σ (ks.getD i .any) e.key ∧ VR w S σ (vs.getD i .any) e.val := by
 have hσ : ∃ b, x = .map (some b) ∧ σ h = some (.at b 0 (maxLen + 1)) := by cases hv with | mp _ _ b hσ => exact ⟨b, rfl, hσ⟩
 obtain ⟨b, rfl, hσ⟩ := hσ
 obtain ⟨b2, es, clock, q1, q2⟩ := hr.map (ks := ks) (vs := vs) hv (by simp only [zL2, hh])
 simp at q1
 subst q1
 exact ⟨_, es, clock, U, hσ, q2⟩
/-- .. where it is not. -/
theorem zFf {all : Array Oper} {t kt et t' : TypeId} {x ix y : Operand} {rest : List Oper} {h : Nat} {kk v : AV} {ks vs : List AV} {s : KSort} (ht : P.underlying t = some (.map kt et)) (hf : KFit P kt s) (hx : ev fr x = some (.mp h)) (hh : H[h]? = some (some ⟨t', .mp ks vs⟩)) (hi : ev fr ix = some kk) (hy : ev fr y = some v) (hk : zEU s kk = true) (hks : ∀ x ∈ ks, zEU s x = true)
 (h1 : kk ∉ ks) (hk' : Ax P fn c (.ops false all rest k) fr (H.set h (some ⟨t', .mp (ks ++ [kk]) (vs ++ [v])⟩))) : Ax P fn c (.ops false all (⟨none, .mapUpdate t x ix y, ty, pos, after, none⟩ :: rest) k) fr H := by
 refine ax_w0 (fun w a σ S hr => ?_) hk'
 have e1 := hr.evAt hx
 have e2 := hr.evAt hi
 have e3 := hr.evAt hy
 obtain ⟨b, es, clock, q1, hσ, q2, q3, q4, q5, q6⟩ := hr.own_map e1 hh
 obtain ⟨u, u1, u2, u3⟩ := zHC hk
 have q7 := u2 _ _ _ _ e2
 have hkeys := zIx hks q3 (fun i hi => let ⟨e, a, b, _⟩ := q6 i hi; ⟨e, a, b⟩)
 have hno : ∀ e ∈ es.toList, e.key ≠ u := by
  intro e hm' he
  obtain ⟨i, hi', rfl⟩ := List.getElem_of_mem hm'
  have hil : i < ks.length := by simpa [q3] using hi'
  obtain ⟨e', p1, p2, _⟩ := q6 i hil
  have : es.toList[i] = e' := by
   have h3 : es.toList[i]? = some e' := by simpa using p1
   rw [List.getElem?_eq_getElem hi'] at h3
   exact Option.some.inj h3
  rw [this] at he
  rw [he] at p2
  have hmem : ks.getD i .any ∈ ks := by simp [List.getD, hil]
  have := u3 _ (hks _ hmem) _ _ _ p2
  rw [this] at hmem
  exact h1 hmem
 have hrun : (Instr.mapUpdate t (a.eval x) (a.eval ix) (a.eval y)).run P w = .ok () { w with heap := w.heap.setIfInBounds b (.map (es.push { key := u, val := a.eval y, born := clock }) (clock + 1)) } := by
  rw [q1, q7]
  rcases zFO hf u1 w es.toList hkeys with ⟨r1, r2⟩ | ⟨j, e', r1, r2, r3⟩
  ·simp only [Instr.mapUpdate, Sem.run_bind, run_underlying ht, Result.andThen_ok, MapKept.run_getObj_map q2, zEo hf u1, r1, MapKept.run_setObj_map _ q2]
  ·exact absurd r3 (hno e' (List.mem_of_getElem? r2))
 have hset := MapKept.heap_set (o' := .map (es.push { key := u, val := a.eval y, born := clock }) (clock + 1)) q2
 generalize hw' : ({ w with heap := w.heap.setIfInBounds b (.map (es.push { key := u, val := a.eval y, born := clock }) (clock + 1)) } : World) = w' at hrun
 have hwh : w'.heap = w.heap.setIfInBounds b (.map (es.push { key := u, val := a.eval y, born := clock }) (clock + 1)) := by rw [← hw']
 have hnS : ¬ S b := (hr.obj hh hσ).2.choose_spec.2.2.2.2.1
 have hoth : ∀ b', b' ≠ b → w'.heap[b']? = w.heap[b']? := fun b' hb => by rw [hwh]; exact hset.2 b' hb
 have hv : ∀ {x v}, VR w S σ x v → VR w' S σ x v := fun hv => hv.mono (fun _ h => h) (fun b' hb => hoth b' (fun e => hnS (e ▸ hb))) _ (fun _ _ h => h)
 refine ⟨w', σ, S, by simp only [execOp, Sem.run_bind, hrun]; rfl, hr.reobj (o := ⟨t', .mp ks vs⟩) hh hσ (c' := .mp (ks ++ [kk]) (vs ++ [v])) (cur' := #[]) w' (by rw [← hw']) (by rw [← hw']) (by rw [← hw']) (by rw [hwh]; simp) hoth U (Nat.zero_le _) U (fun i j hi => absurd hi (Nat.not_lt_zero _))
  (.map _ _ _ (clock + 1) rfl rfl (by rw [hwh]; exact hset.1) (by simp [q3]) (by simp [q4]) ?_ (fun j hj => ?_))⟩
 ·rw [Array.toList_push, List.pairwise_append]
  exact ⟨q5, by simp, fun x hx y hy => by simp at hy; subst hy; exact hno x hx⟩
 ·simp only [List.length_append, List.length_cons, List.length_nil] at hj
  by_cases hl : j < ks.length
  ·obtain ⟨e, r1, r2, r3⟩ := q6 j hl
   refine ⟨e, by rw [Array.getElem?_push, if_neg (by omega)]; exact r1, ?_, ?_⟩
   ·have : (ks ++ [kk]).getD j .any = ks.getD j .any := by simp [List.getD, List.getElem?_append_left hl]
    rw [this]; exact hv r2
   ·have : (vs ++ [v]).getD j .any = vs.getD j .any := by simp [List.getD, List.getElem?_append_left (show j < vs.length by omega)]
    rw [this]; exact hv r3
  ·have hje : j = es.size := by omega
   refine ⟨{ key := u, val := a.eval y, born := clock }, by rw [Array.getElem?_push, if_pos hje], ?_, ?_⟩
   ·have : (ks ++ [kk]).getD j .any = kk := by simp [List.getD, hje, q3]
    rw [this]
    have := hv e2
    rw [q7] at this
    exact this
   ·have : (vs ++ [v]).getD j .any = v := by simp [List.getD, hje, q3, ← q4]
    rw [this]; exact hv e3
end
end Go.Ax
namespace Go.Ax
variable [Pins]
open Go.RowKit
def zAB (s : List UInt8) : List Int := s.map (fun b => (b.toNat : Int))
theorem zD7 (s : List UInt8) (i : Nat) : (zAB s).getD i 0 = ((s.getD i 0).toNat : Nat) := by
 have _p := ‹Pins›
 unfold zAB
 by_cases h : i < s.length
 ·simp [List.getD, h]
 ·simp [List.getD, h]
section
variable {ind : Bool} {P : Program} {fn : Func} {c : Ctx} {fr : Fr} {H : zP} {k : List It}
variable {d : Option Nat} {ty : TypeId} {pos : String} {after : Array Edge} {g : Option (Nat × Bool)}
/-- string(b) -/
theorem q_strof {x : Operand} {src dst e : TypeId} {v : AV} {cx : Cells} {i m : Nat} (s : List UInt8) (hs : P.underlying src = some (.slice e)) (he : P.underlying e = some (.int .u8)) (hd : P.underlying dst = some .string) (hx : ev fr x = some v) (hsrc : zMN H v = some (cx, i, m)) (hin : i + m ≤ cx.len) (hsz : cx.sz = 1) (hl : s.length = m)
 (hc : ∀ j, j < m → cx.at (i + j) 0 = .int .u8 ((s.getD j 0).toNat : Nat)) : QOp false P fn c fr H ⟨d, .convert src dst x, ty, pos, after, g⟩ (.str s) := by
 intro w a σ S hr
 have h1 := hr.evAt hx
 have h2 := hr.src h1 hsrc (fun _ _ => hin)
 generalize hz : a.eval x = z at h1 h2
 refine ⟨zGs s, .str _ s, fun w' hw => ?_⟩
 have hw := hw.resolve_left (by decide)
 unfold Src at h2
 rcases h2 with ⟨rfl, ad, cap, rfl⟩ | ⟨ad, cap, news, rfl, q1, q2, q3, q4⟩
 ·obtain rfl : s = [] := List.length_eq_zero_iff.1 hl
  cases ad with
  | none =>
   simp only [execOp, hz, Sem.run_bind, convert, run_underlying hs, run_underlying he, run_underlying hd, Result.andThen_ok]
   simp [Conv.bytesToString, loadCells, loadCellsFrom, zGs, Sem.run_bind, Result.andThen]
   rfl
  | some ad =>
   have := run_convert_bytes_back (P := P) w' src dst e ad cap [] hs he hd (fun j hj => by simp at hj)
   simp only [execOp, hz, Sem.run_bind]
   rw [show (0 : Nat) = ([] : List UInt8).length from rfl, this]
   rfl
 ·have hcell : ∀ j (hj : j < s.length), w'.cell? (ad.add j) = some (.int .u8 (s[j].toNat : Int)) := by
   intro j hj
   obtain ⟨u, e1, e2⟩ := q4 j 0 (by omega) (by omega)
   rw [hc j (by omega)] at e2
   rw [hsz, Nat.mul_one, Nat.add_zero] at e1
   cases e2
   have h5 := q2 j _ e1
   have h6 : s.getD j 0 = s[j] := by simp [List.getD, hj]
   rw [h6] at h5
   have h7 : w'.cell? (ad.add j) = w.cell? (ad.add j) := by
    have := World.cell?_of_block (w := w) (w' := w') (a := ad.add j) (by rw [hw])
    exact this
   rw [h7]; exact h5
  subst hl
  have := run_convert_bytes_back (P := P) w' src dst e ad cap s hs he hd hcell
  simp only [execOp, hz, Sem.run_bind, this]
  rfl
end
end Go.Ax
namespace Go.Ax
variable [Pins]
open Go.RowKit
abbrev iN (n : Nat) : AV := .int .i64 (n : Int)
section
variable {P : Program} {fn : Func} {c : Ctx} {fr : Fr} {H : zP} {k : List It}
variable {ind : Bool} {d : Option Nat} {ty : TypeId} {pos : String} {after : Array Edge} {g : Option (Nat × Bool)}
theorem qis {x i : Operand} {t e : TypeId} {h o len ix : Nat} {ob : AObj} {k : IntKind} {m : Int} (ht : P.underlying t = some (.slice e)) (hx : ev fr x = some (.sl h o len)) (hi : ev fr i = some (.int k m)) (hh : H[h]? = some (some ob) := by assumption) (hs : (P.info? e).map (·.size) = some ob.c.sz := by rfl)
 (hix : o + m.toNat = ix := by first | (simp only [Nat.zero_add, Int.toNat_natCast, Int.toNat_zero]; exact rfl) | exact rfl) (hb : 0 ≤ m ∧ m < len := by omega) :
 QOp ind P fn c fr H ⟨d, .indexAddr t x i, ty, pos, after, g⟩ (.ptr h ix 0) := zEa ht hx hi hh hs hix hb
theorem qpp {x : Operand} {t : TypeId} {u : TypeDesc} {h i j : Nat} {ob : AObj} {inf : TypeInfo} {L : List AV} (ht : P.underlying t = some u) (hu : zBO u = true) (hinf : P.info? t = some inf) (hsz : Nat.ble (j + inf.size) ob.c.sz = true) (hx : ev fr x = some (.ptr h i j)) (hh : H[h]? = some (some ob))
 (hL : (List.range inf.size).map (fun e => ob.c.at i (j + e)) = L) (hi : i < ob.c.len := by first | exact Nat.zero_lt_one | assumption | omega) : QOp false P fn c fr H ⟨d, .load t x, ty, pos, after, g⟩ (.agg L) := zEL ht hu hinf hsz hx hh hL hi
end
end Go.Ax
namespace Go.Ax
open Go.RowKit
structure Hold (p : Prop) : Prop where
 out : p
theorem rn0 {G G' : Prop} (k : G') (h : Hold G' → G := by intro k; (repeat (first | refine zA (zG rfl) ?_ | refine zA (zM rfl) ?_ | refine zC ?_ | refine zB ?_ | refine zY ?_ | refine zJ rfl ?_ | refine z6 ?_)); exact k.out) : G := h ⟨k⟩
theorem rn1 {G G' : Prop} (k : G') (h : Hold G' → G := by intro k; (repeat (first | refine zA (zG rfl) ?_ | refine zA (zM rfl) ?_ | refine zC ?_ | refine zB ?_ | refine zY ?_ | refine zJ rfl ?_ | refine zX ?_ | refine zAX ?_ | refine zAP ?_ | refine z6 ?_)); exact k.out) : G := h ⟨k⟩
theorem rn2 {G G' : Prop} (k : G') (h : Hold G' → G := by intro k; (repeat (first | refine zA (zG rfl) ?_ | refine zA (zM rfl) ?_ | refine zC ?_ | refine zB ?_ | refine zY ?_ | refine zJ rfl ?_ | refine zx rfl rfl ?_ | refine zX ?_ | refine zAX ?_ | refine zAP ?_ | refine z6 ?_ | refine zA9 ?_ | refine zA (zi rfl rfl) ?_ | refine zA (zAC rfl rfl) ?_)); exact k.out) : G := h ⟨k⟩
theorem rn3 {G G' : Prop} (k : G') (h : Hold G' → G := by intro k; (repeat (first | refine zA (zG rfl) ?_ | refine zA (zM rfl) ?_ | refine zC ?_ | refine zB ?_ | refine zY ?_ | refine zJ rfl ?_ | refine zx rfl rfl ?_ | refine zX ?_ | refine zAX ?_ | refine zAP ?_ | refine z6 ?_ | refine zA9 ?_ | refine zA (zBh rfl rfl) ?_ | refine zA (zi rfl rfl) ?_ | refine zA (zAC rfl rfl) ?_ | refine zA (zBK rfl rfl rfl) ?_ | refine zA (zA4 rfl rfl (by omega)) ?_ | refine zAN rfl rfl rfl rfl rfl rfl rfl rfl rfl rfl rfl ?_)); exact k.out) : G := h ⟨k⟩
theorem rn4 {G G' : Prop} (k : G') (h : Hold G' → G := by intro k; (repeat (first | refine zA (zG rfl) ?_ | refine zA (zM rfl) ?_ | refine zC ?_ | refine zB ?_ | refine zY ?_ | refine zJ rfl ?_ | refine zx rfl rfl ?_ | refine zAV rfl ?_ | refine zX ?_ | refine zAX ?_ | refine zAP ?_ | refine z6 ?_ | refine zA9 ?_ | refine zA (zU rfl rfl rfl rfl rfl) ?_ | refine zA (zCR rfl rfl) ?_ | refine zA (zBp rfl rfl) ?_ | refine zA (zBh rfl rfl) ?_ | refine zA (zi rfl rfl) ?_ | refine zA (zAC rfl rfl) ?_ | refine zA (zBK rfl rfl rfl) ?_ | refine zA (zA4 rfl rfl (by omega)) ?_ | refine zA (zn rfl rfl rfl rfl (by first | (simp only [Nat.zero_add, Int.toNat_natCast, Int.toNat_zero]; exact rfl) | exact rfl) (by omega)) ?_ | refine zAN rfl rfl rfl rfl rfl rfl rfl rfl rfl rfl rfl ?_ | refine zAI rfl rfl rfl ?_)); exact k.out) : G := h ⟨k⟩
theorem rn5 {G G' : Prop} (k : G') (h : Hold G' → G := by intro k; (repeat (first | refine zA (zG rfl) ?_ | refine zA (zM rfl) ?_ | refine zC ?_ | refine zB ?_ | refine zY ?_ | refine zJ rfl ?_ | refine zx rfl rfl ?_ | refine zAi rfl ?_ | refine zAV rfl ?_ | refine zAY ?_ | refine zX ?_ | refine zAX ?_ | refine zAP ?_ | refine zCU ?_ | refine zAr ?_ | refine zAq ?_ | refine zAw ?_ | refine z6 ?_ | refine zA9 ?_ | refine zA (zU rfl rfl rfl rfl rfl) ?_ | refine zA (zCR rfl rfl) ?_ | refine zA (zBp rfl rfl) ?_ | refine zA (zBh rfl rfl) ?_ | refine zA (zDl rfl) ?_ | refine zA (zi rfl rfl) ?_ | refine zA (zAC rfl rfl) ?_ | refine zA (zBK rfl rfl rfl) ?_ | refine zA (zA4 rfl rfl (by omega)) ?_ | refine zA (zn rfl rfl rfl rfl (by first | (simp only [Nat.zero_add, Int.toNat_natCast, Int.toNat_zero]; exact rfl) | exact rfl) (by omega)) ?_ | refine zA (zO rfl rfl rfl rfl rfl rfl) ?_ | refine zAN rfl rfl rfl rfl rfl rfl rfl rfl rfl rfl rfl ?_ | refine zAI rfl rfl rfl ?_)); exact k.out) : G := h ⟨k⟩
theorem rn6 {G G' : Prop} (k : G') (h : Hold G' → G := by intro k; (repeat (first | refine zA (zG rfl) ?_ | refine zA (zM rfl) ?_ | refine zA (zBs rfl rfl rfl) ?_ | refine zC ?_ | refine zB ?_ | refine zY ?_ | refine zJ rfl ?_ | refine zx rfl rfl ?_ | refine zAZ rfl rfl rfl ?_ | refine zAi rfl ?_ | refine zAV rfl ?_ | refine zAY ?_ | refine zX ?_ | refine zAX ?_ | refine zAP ?_ | refine zCU ?_ | refine zAr ?_ | refine zAq ?_ | refine zAw ?_ | refine z6 ?_ | refine zA9 ?_ | refine zD5 ?_ | refine zFD ?_ | refine zA (zBF rfl rfl rfl rfl) ?_ | refine zA (zU rfl rfl rfl rfl rfl) ?_ | refine zA (zCR rfl rfl) ?_ | refine zA (zBp rfl rfl) ?_ | refine zA (zBh rfl rfl) ?_ | refine zA (zCa rfl rfl) ?_ | refine zA (zDl rfl) ?_ | refine zA (zi rfl rfl) ?_ | refine zA (zAC rfl rfl) ?_ | refine zA (zBK rfl rfl rfl) ?_ | refine zA (zE5 rfl rfl) ?_ | refine zA (zA4 rfl rfl (by omega)) ?_ | refine zA (zn rfl rfl rfl rfl (by first | (simp only [Nat.zero_add, Int.toNat_natCast, Int.toNat_zero]; exact rfl) | exact rfl) (by omega)) ?_ | refine zA (zo rfl rfl rfl rfl rfl (by first | (simp only [Nat.zero_add, Int.toNat_natCast, Int.toNat_zero]; exact rfl) | exact rfl) (by omega)) ?_ | refine zA (zHJ rfl rfl) ?_ | refine zA (zO rfl rfl rfl rfl rfl rfl) ?_ | refine zA (zm rfl rfl rfl rfl rfl rfl) ?_ | refine zA (zEL rfl rfl rfl rfl rfl rfl rfl (by first | exact Nat.zero_lt_one | assumption | omega)) ?_ | refine zAN rfl rfl rfl rfl rfl rfl rfl rfl rfl rfl rfl ?_ | refine zAO rfl rfl ?_ | refine zAI rfl rfl rfl ?_)); exact k.out) : G := h ⟨k⟩
theorem rn7 {G G' : Prop} (k : G') (h : Hold G' → G := by intro k; (repeat (first | refine zA (zG rfl) ?_ | refine zA (zM rfl) ?_ | refine zC ?_ | refine zB ?_ | refine zY ?_ | refine zJ rfl ?_ | refine zAY ?_ | refine zX ?_ | refine zAX ?_ | refine zAP ?_ | refine zA (zCR rfl rfl) ?_ | refine zA (zEZ rfl rfl) ?_ | refine zA (zBK rfl rfl rfl) ?_ | refine zA (zA4 rfl rfl (by omega)) ?_ | refine zA (zA1 rfl rfl (by omega)) ?_ | refine zA (zo rfl rfl rfl rfl rfl (by first | (simp only [Nat.zero_add, Int.toNat_natCast, Int.toNat_zero]; exact rfl) | exact rfl) (by omega)) ?_ | refine zA (zBA rfl rfl rfl rfl (by first | assumption | omega)) ?_ | refine zA (zV rfl) ?_ | refine zA (zO rfl rfl rfl rfl rfl rfl) ?_ | refine zA (zEa rfl rfl rfl (by assumption) (by rfl) (by first | (simp only [Nat.zero_add, Int.toNat_natCast, Int.toNat_zero]; exact rfl) | exact rfl) (by omega)) ?_ | refine zA (zGT rfl rfl rfl rfl (by assumption) (by rfl) (by rfl) (by first | exact Nat.zero_lt_one | assumption | omega)) ?_ | refine zA (zBU rfl rfl rfl (by assumption) (by rfl)) ?_ | refine zA (q_loadi_sym rfl rfl rfl (by assumption) (by first | assumption | omega)) ?_ | refine zA (zDb rfl rfl rfl (by assumption) rfl (by first | assumption | omega)) ?_ | refine zAJ rfl rfl rfl rfl rfl rfl rfl (by first | assumption | (show _ < List.length _; first | assumption | omega)) ?_ | refine zAI rfl rfl rfl ?_)); exact k.out) : G := h ⟨k⟩
theorem rn8 {G G' : Prop} (k : G') (h : Hold G' → G := by intro k; (repeat (first | refine zA (zG rfl) ?_ | refine zA (zM rfl) ?_ | refine zC ?_ | refine zB ?_ | refine zY ?_ | refine zJ rfl ?_ | refine zx rfl rfl ?_ | refine zAV rfl ?_ | refine zAP ?_ | refine z6 ?_ | refine zA (zU rfl rfl rfl rfl rfl) ?_ | refine zA (zBp rfl rfl) ?_ | refine zA (q_leq rfl rfl) ?_ | refine zA (zEZ rfl rfl) ?_ | refine zA (zi rfl rfl) ?_ | refine zA (zBK rfl rfl rfl) ?_ | refine zA (zE5 rfl rfl) ?_ | refine zA (zA1 rfl rfl (by omega)) ?_ | refine zA (zDE rfl rfl rfl rfl rfl rfl) ?_ | refine zA (zHK rfl rfl) ?_ | refine zA (zD rfl rfl rfl rfl) ?_ | refine zA (zV rfl) ?_ | refine zA (zO rfl rfl rfl rfl rfl rfl) ?_ | refine zAJ rfl rfl rfl rfl rfl rfl rfl Nat.zero_lt_one ?_ | refine zAN rfl rfl rfl rfl rfl rfl rfl rfl rfl rfl rfl ?_ | refine zAI rfl rfl rfl ?_)); exact k.out) : G := h ⟨k⟩
theorem rn9 {G G' : Prop} (k : G') (h : Hold G' → G := by intro k; (repeat (first | refine zA (zG rfl) ?_ | refine zA (zM rfl) ?_ | refine zC ?_ | refine zB ?_ | refine zY ?_ | refine zJ rfl ?_ | refine zAi rfl ?_ | refine zAV rfl ?_ | refine zAY ?_ | refine zX ?_ | refine zAX ?_ | refine zAP ?_ | refine zA (zJE rfl rfl rfl) ?_ | refine zA (zU rfl rfl rfl rfl rfl) ?_ | refine zA (zBp rfl rfl) ?_ | refine zA (zDl rfl) ?_ | refine zA (zAC rfl rfl) ?_ | refine zA (zBK rfl rfl rfl) ?_ | refine zA (zA4 rfl rfl (by omega)) ?_ | refine zA (zn rfl rfl rfl rfl (by first | (simp only [Nat.zero_add, Int.toNat_natCast, Int.toNat_zero]; exact rfl) | exact rfl) (by omega)) ?_ | refine zA (zDE rfl rfl rfl rfl rfl rfl) ?_ | refine zA (zHJ rfl rfl) ?_ | refine zA (zO rfl rfl rfl rfl rfl rfl) ?_ | refine zA (zEL rfl rfl rfl rfl rfl rfl rfl (by first | exact Nat.zero_lt_one | assumption | omega)) ?_ | refine zAJ rfl rfl rfl rfl rfl rfl rfl Nat.zero_lt_one ?_ | refine zAI rfl rfl rfl ?_)); exact k.out) : G := h ⟨k⟩
theorem rn10 {G G' : Prop} (k : G') (h : Hold G' → G := by intro k; (repeat (first | refine zA (zG rfl) ?_ | refine zA (zM rfl) ?_ | refine zC ?_ | refine zY ?_ | refine zJ rfl ?_ | refine zx rfl rfl ?_ | refine zAV rfl ?_ | refine zAY ?_ | refine zX ?_ | refine zAP ?_ | refine zCU ?_ | refine zAr ?_ | refine zAq ?_ | refine zAw ?_ | refine zA (zU rfl rfl rfl rfl rfl) ?_ | refine zA (zDl rfl) ?_ | refine zA (zA4 rfl rfl (by omega)) ?_ | refine zA (zo rfl rfl rfl rfl rfl (by first | (simp only [Nat.zero_add, Int.toNat_natCast, Int.toNat_zero]; exact rfl) | exact rfl) (by omega)) ?_ | refine zA (zBA rfl rfl rfl rfl (by first | assumption | omega)) ?_ | refine zA (zMH rfl rfl rfl rfl (by first | assumption | omega)) ?_ | refine zA (zDa rfl rfl rfl rfl rfl (by first | assumption | omega)) ?_ | refine zA (zCn rfl) ?_ | refine zA (zAk rfl rfl rfl rfl (by first | (simp only [Nat.zero_add, Int.toNat_natCast]; exact rfl) | exact rfl) (by omega)) ?_ | refine zA (zEa rfl rfl rfl (by assumption) (by rfl) (by first | (simp only [Nat.zero_add, Int.toNat_natCast, Int.toNat_zero]; exact rfl) | exact rfl) (by omega)) ?_ | refine zA (zGT rfl rfl rfl rfl (by assumption) (by rfl) (by rfl) (by first | exact Nat.zero_lt_one | assumption | omega)) ?_ | refine zAJ rfl rfl rfl rfl rfl rfl rfl (by first | assumption | (show _ < List.length _; first | assumption | omega)) ?_)); exact k.out) : G := h ⟨k⟩
theorem zBG {G G' : Prop} (k : G') (h : Hold G' → G := by intro k; (repeat (first | refine zA (zG rfl) ?_ | refine zA (zM rfl) ?_ | refine zA (zBs rfl rfl rfl) ?_ | refine zC ?_ | refine zB ?_ | refine zY ?_ | refine zx rfl rfl ?_ | refine zAZ rfl rfl rfl ?_ | refine zCU ?_ | refine zAr ?_ | refine zAq ?_ | refine zAw ?_ | refine z6 ?_ | refine zA (zBF rfl rfl rfl rfl) ?_ | refine zA (zBp rfl rfl) ?_ | refine zA (zCa rfl rfl) ?_ | refine zA (zi rfl rfl) ?_ | refine zA (zAC rfl rfl) ?_ | refine zA (zBK rfl rfl rfl) ?_ | refine zA (zE5 rfl rfl) ?_ | refine zA (zA1 rfl rfl (by omega)) ?_ | refine zA (zn rfl rfl rfl rfl (by first | (simp only [Nat.zero_add, Int.toNat_natCast, Int.toNat_zero]; exact rfl) | exact rfl) (by omega)) ?_ | refine zA (zHJ rfl rfl) ?_ | refine zA (zD rfl rfl rfl rfl) ?_ | refine zA (zGm rfl rfl rfl rfl rfl rfl (by omega)) ?_ | refine zA (zK rfl rfl rfl rfl rfl rfl) ?_)); exact k.out) : G := h ⟨k⟩
theorem zBz {G G' : Prop} (k : G') (h : Hold G' → G := by intro k; (repeat (first | refine zA (zG rfl) ?_ | refine zA (zM rfl) ?_ | refine zC ?_ | refine zB ?_ | refine zY ?_ | refine zJ rfl ?_ | refine zAi rfl ?_ | refine zAV rfl ?_ | refine zAY ?_ | refine zAX ?_ | refine zAP ?_ | refine zA (zBF rfl rfl rfl rfl) ?_ | refine zA (zBp rfl rfl) ?_ | refine zA (zBh rfl rfl) ?_ | refine zA (q_leq rfl rfl) ?_ | refine zA (zEZ rfl rfl) ?_ | refine zA (zBK rfl rfl rfl) ?_ | refine zA (zE5 rfl rfl) ?_ | refine zA (zA4 rfl rfl (by omega)) ?_ | refine zA (zn rfl rfl rfl rfl (by first | (simp only [Nat.zero_add, Int.toNat_natCast, Int.toNat_zero]; exact rfl) | exact rfl) (by omega)) ?_ | refine zA (zD rfl rfl rfl rfl) ?_ | refine zA (zKT rfl rfl) ?_ | refine zA (zCn rfl) ?_ | refine zA (zEM rfl rfl rfl (by first | assumption | omega | simp)) ?_ | refine zA (zGm rfl rfl rfl rfl rfl rfl (by omega)) ?_ | refine zA (zK rfl rfl rfl rfl rfl rfl) ?_)); exact k.out) : G := h ⟨k⟩
theorem zE6 {G G' : Prop} (k : G') (h : Hold G' → G := by intro k; (repeat (first | refine zA (zG rfl) ?_ | refine zA (zM rfl) ?_ | refine zC ?_ | refine zB ?_ | refine zx rfl rfl ?_ | refine zAZ rfl rfl rfl ?_ | refine zAV rfl ?_ | refine zAY ?_ | refine zAP ?_ | refine zCU ?_ | refine zAr ?_ | refine zAq ?_ | refine zAw ?_ | refine zFC rfl ?_ | refine zA (zU rfl rfl rfl rfl rfl) ?_ | refine zA (zCR rfl rfl) ?_ | refine zA (zCa rfl rfl) ?_ | refine zA (zEZ rfl rfl) ?_ | refine zA (zDl rfl) ?_ | refine zA (zi rfl rfl) ?_ | refine zA (zAC rfl rfl) ?_ | refine zA (zA4 rfl rfl (by omega)) ?_ | refine zA (zA1 rfl rfl (by omega)) ?_ | refine zA (zHJ rfl rfl) ?_ | refine zA (zV rfl) ?_ | refine zA (zO rfl rfl rfl rfl rfl rfl) ?_)); exact k.out) : G := h ⟨k⟩
theorem rn14 {G G' : Prop} (k : G') (h : Hold G' → G := by intro k; (repeat (first | refine zA (zG rfl) ?_ | refine zA (zM rfl) ?_ | refine zC ?_ | refine zB ?_ | refine zY ?_ | refine zJ rfl ?_ | refine zx rfl rfl ?_ | refine zAu rfl rfl ?_ | refine zAZ rfl rfl rfl ?_ | refine zAV rfl ?_ | refine zAY ?_ | refine zAP ?_ | refine zCU ?_ | refine zAr ?_ | refine zAq ?_ | refine zAw ?_ | refine zFC rfl ?_ | refine z6 ?_ | refine zA (zCa rfl rfl) ?_ | refine zA (zi rfl rfl) ?_ | refine zA (zBK rfl rfl rfl) ?_ | refine zA (zA4 rfl rfl (by omega)) ?_ | refine zA (zFM rfl rfl rfl rfl rfl rfl rfl (by omega)) ?_ | refine zA (zDE rfl rfl rfl rfl rfl rfl) ?_ | refine zAO rfl rfl ?_ | refine zAI rfl rfl rfl ?_)); exact k.out) : G := h ⟨k⟩
theorem rn15 {G G' : Prop} (k : G') (h : Hold G' → G := by intro k; (repeat (first | refine zA (zG rfl) ?_ | refine zA (zM rfl) ?_ | refine zC ?_ | refine zB ?_ | refine zY ?_ | refine zJ rfl ?_ | refine zAX ?_ | refine zCU ?_ | refine zAr ?_ | refine zAq ?_ | refine zAw ?_ | refine zA (zU rfl rfl rfl rfl rfl) ?_ | refine zA (zBp rfl rfl) ?_ | refine zA (zCa rfl rfl) ?_ | refine zA (zBK rfl rfl rfl) ?_ | refine zA (zA4 rfl rfl (by omega)) ?_ | refine zA (zIB rfl rfl (by omega)) ?_ | refine zA (zDE rfl rfl rfl rfl rfl rfl) ?_ | refine zA (zD rfl rfl rfl rfl) ?_ | refine zA (q_max rfl rfl) ?_ | refine zA (zV rfl) ?_ | refine zA (zAH rfl) ?_ | refine zA (zO rfl rfl rfl rfl rfl rfl) ?_ | refine zA (zBU rfl rfl rfl (by assumption) (by rfl)) ?_ | refine zAN rfl rfl rfl rfl rfl rfl rfl rfl rfl rfl rfl ?_ | refine zAO rfl rfl ?_)); exact k.out) : G := h ⟨k⟩
theorem rn16 {G G' : Prop} (k : G') (h : Hold G' → G := by intro k; (repeat (first | refine zA (zG rfl) ?_ | refine zA (zM rfl) ?_ | refine zC ?_ | refine zB ?_ | refine zY ?_ | refine zJ rfl ?_ | refine zx rfl rfl ?_ | refine zAu rfl rfl ?_ | refine zAZ rfl rfl rfl ?_ | refine zAi rfl ?_ | refine zAV rfl ?_ | refine zAP ?_ | refine z6 ?_ | refine zA9 ?_ | refine zA (zDl rfl) ?_ | refine zA (zi rfl rfl) ?_ | refine zA (zBK rfl rfl rfl) ?_ | refine zA (zE5 rfl rfl) ?_ | refine zA (zA4 rfl rfl (by omega)) ?_ | refine zA (zA1 rfl rfl (by omega)) ?_ | refine zA (zo rfl rfl rfl rfl rfl (by first | (simp only [Nat.zero_add, Int.toNat_natCast, Int.toNat_zero]; exact rfl) | exact rfl) (by omega)) ?_ | refine zA (zHK rfl rfl) ?_ | refine zA (zD rfl rfl rfl rfl) ?_ | refine zA (zGm rfl rfl rfl rfl rfl rfl (by omega)) ?_ | refine zA (zK rfl rfl rfl rfl rfl rfl) ?_ | refine zAJ rfl rfl rfl rfl rfl rfl rfl (by first | assumption | (show _ < List.length _; first | assumption | omega)) ?_)); exact k.out) : G := h ⟨k⟩
theorem rn17 {G G' : Prop} (k : G') (h : Hold G' → G := by intro k; (repeat (first | refine zA (zG rfl) ?_ | refine zA (zM rfl) ?_ | refine zA (zBs rfl rfl rfl) ?_ | refine zC ?_ | refine zB ?_ | refine zY ?_ | refine zJ rfl ?_ | refine zAY ?_ | refine zAX ?_ | refine zAP ?_ | refine zCU ?_ | refine zAr ?_ | refine zAq ?_ | refine zAw ?_ | refine z6 ?_ | refine zA (zU rfl rfl rfl rfl rfl) ?_ | refine zA (zBp rfl rfl) ?_ | refine zA (zA4 rfl rfl (by omega)) ?_ | refine zA (zn rfl rfl rfl rfl (by first | (simp only [Nat.zero_add, Int.toNat_natCast, Int.toNat_zero]; exact rfl) | exact rfl) (by omega)) ?_ | refine zA (zo rfl rfl rfl rfl rfl (by first | (simp only [Nat.zero_add, Int.toNat_natCast, Int.toNat_zero]; exact rfl) | exact rfl) (by omega)) ?_ | refine zA (zBA rfl rfl rfl rfl (by first | assumption | omega)) ?_ | refine zA (zDa rfl rfl rfl rfl rfl (by first | assumption | omega)) ?_ | refine zA (zGl rfl rfl rfl rfl rfl rfl rfl rfl (by omega)) ?_ | refine zA (zO rfl rfl rfl rfl rfl rfl) ?_ | refine zAJ rfl rfl rfl rfl rfl rfl rfl (by first | assumption | (show _ < List.length _; first | assumption | omega)) ?_)); exact k.out) : G := h ⟨k⟩
theorem rn18 {G G' : Prop} (k : G') (h : Hold G' → G := by intro k; (repeat (first | refine zA (zG rfl) ?_ | refine zA (zM rfl) ?_ | refine zC ?_ | refine zB ?_ | refine zY ?_ | refine zJ rfl ?_ | refine zAZ rfl rfl rfl ?_ | refine zAi rfl ?_ | refine zAX ?_ | refine zAP ?_ | refine zA (zJE rfl rfl rfl) ?_ | refine zA (zBF rfl rfl rfl rfl) ?_ | refine zA (zBp rfl rfl) ?_ | refine zA (zBh rfl rfl) ?_ | refine zA (zDl rfl) ?_ | refine zA (zi rfl rfl) ?_ | refine zA (zAC rfl rfl) ?_ | refine zA (zn rfl rfl rfl rfl (by first | (simp only [Nat.zero_add, Int.toNat_natCast, Int.toNat_zero]; exact rfl) | exact rfl) (by omega)) ?_ | refine zA (zDE rfl rfl rfl rfl rfl rfl) ?_ | refine zA (zHK rfl rfl) ?_ | refine zA (zCn rfl) ?_ | refine zA (zEa rfl rfl rfl (by assumption) (by rfl) (by first | (simp only [Nat.zero_add, Int.toNat_natCast, Int.toNat_zero]; exact rfl) | exact rfl) (by omega)) ?_ | refine zA (zDb rfl rfl rfl (by assumption) rfl (by first | assumption | omega)) ?_ | refine zAJ rfl rfl rfl rfl rfl rfl rfl Nat.zero_lt_one ?_ | refine zAN rfl rfl rfl rfl rfl rfl rfl rfl rfl rfl rfl ?_ | refine zAI rfl rfl rfl ?_)); exact k.out) : G := h ⟨k⟩
theorem zGo {G G' : Prop} (k : G') (h : Hold G' → G := by intro k; (repeat (first | refine zA (zG rfl) ?_ | refine zA (zM rfl) ?_ | refine zC ?_ | refine zB ?_ | refine zY ?_ | refine zJ rfl ?_ | refine zx rfl rfl ?_ | refine zAY ?_ | refine zAX ?_ | refine zAP ?_ | refine zA (zBF rfl rfl rfl rfl) ?_ | refine zA (zBh rfl rfl) ?_ | refine zA (zBK rfl rfl rfl) ?_ | refine zA (zE5 rfl rfl) ?_ | refine zA (zA1 rfl rfl (by omega)) ?_ | refine zA (zn rfl rfl rfl rfl (by first | (simp only [Nat.zero_add, Int.toNat_natCast, Int.toNat_zero]; exact rfl) | exact rfl) (by omega)) ?_ | refine zA (zFM rfl rfl rfl rfl rfl rfl rfl (by omega)) ?_ | refine zA (zEM rfl rfl rfl (by first | assumption | omega | simp)) ?_ | refine zA (zm rfl rfl rfl rfl rfl rfl) ?_)); exact k.out) : G := h ⟨k⟩
theorem rn20 {G G' : Prop} (k : G') (h : Hold G' → G := by intro k; (repeat (first | refine zC ?_ | refine zB ?_ | refine zY ?_ | refine zAX ?_ | refine zAP ?_ | refine zA (zCn rfl) ?_ | refine zAJ rfl rfl rfl rfl rfl rfl rfl Nat.zero_lt_one ?_ | refine zAI rfl rfl rfl ?_)); exact k.out) : G := h ⟨k⟩
end Go.Ax
namespace Go.Ax.Bg
abbrev B : Nat := 4294967296
def Lim (l : List Int) : Prop := ∀ x ∈ l, 0 ≤ x ∧ x < 4294967296
theorem Lim.cons {x : Int} {r : List Int} : Lim (x :: r) ↔ (0 ≤ x ∧ x < 4294967296) ∧ Lim r := by simp [Lim]
theorem Lim.take {l : List Int} (h : Lim l) (k : Nat) : Lim (l.take k) := fun x hx => h x (List.mem_of_mem_take hx)
theorem Lim.drop {l : List Int} (h : Lim l) (k : Nat) : Lim (l.drop k) := fun x hx => h x (List.mem_of_mem_drop hx)
theorem Lim.set {l : List Int} (h : Lim l) {i : Nat} {x : Int} (hx : 0 ≤ x ∧ x < 4294967296) : Lim (l.set i x) := fun y hy => by
 rcases List.mem_or_eq_of_mem_set hy with h1 | h1
 ·exact h y h1
 ·subst h1; exact hx
theorem Lim.zeros (k : Nat) : Lim (List.replicate k 0) := fun x hx => by rw [(List.mem_replicate.1 hx).2]; omega
end Go.Ax.Bg
namespace Go.Ax.Tb
/-- strings.Cut at one byte. -/
def zGQ (b : UInt8) : List UInt8 → List UInt8 × List UInt8 × Bool
 | [] => ([], [], false)
 | c :: r => if c = b then ([], r, true) else (c :: (zGQ b r).1, (zGQ b r).2.1, (zGQ b r).2.2)
theorem cutF_no {b : UInt8} {s : List UInt8} (h : b ∉ s) : zGQ b s = (s, [], false) := by
 induction s with
 | nil => rfl
 | cons c r ih =>
  simp only [List.mem_cons, not_or] at h
  rw [zGQ, if_neg (fun e => h.1 e.symm), ih h.2]
theorem cutF_at {b : UInt8} {l r : List UInt8} (h : b ∉ l) : zGQ b (l ++ b :: r) = (l, r, true) := by
 induction l with
 | nil => rw [List.nil_append, zGQ, if_pos rfl]
 | cons c q ih =>
  simp only [List.mem_cons, not_or] at h
  rw [List.cons_append, zGQ, if_neg (fun e => h.1 e.symm), ih h.2]
def zCk (c : UInt8) : Prop := 48 ≤ c.toNat ∧ c.toNat ≤ 57
theorem zDU {d : Nat} (h : d < 10) : zCk (UInt8.ofNat (48 + d)) ∧ (UInt8.ofNat (48 + d)).toNat = 48 + d := by
 have e : (UInt8.ofNat (48 + d)).toNat = 48 + d := by simp; omega
 exact ⟨⟨by omega, by omega⟩, e⟩
theorem zC8 (u : Nat) : ∀ c ∈ Lib.decDigits u, zCk c := by
 induction u using Nat.strongRecOn with
 | _ u ih =>
  intro c hc
  rw [Lib.decDigits] at hc
  split at hc
  ·rename_i h
   simp only [List.mem_singleton] at hc
   subst hc; exact (zDU h).1
  ·rw [List.mem_append] at hc
   rcases hc with hc | hc
   ·exact ih _ (by omega) c hc
   ·simp only [List.mem_singleton] at hc
    subst hc; exact (zDU (Nat.mod_lt _ (by decide))).1
theorem zDN (u : Nat) : Lib.decDigits u ≠ [] := by
 rw [Lib.decDigits]
 split <;> simp
theorem zMu (l : List UInt8) (c : UInt8) : ∀ (acc m : Nat), Lib.parseUint10 acc l = .ok m → Lib.parseUint10 acc (l ++ [c]) = Lib.parseUint10 m [c] := by
 induction l with
 | nil => intro acc m h; simp only [Lib.parseUint10, Lib.NumEnd.ok.injEq] at h; subst h; rfl
 | cons x r ih =>
  intro acc m h
  rw [List.cons_append]
  simp only [Lib.parseUint10] at h ⊢
  split at h
  ·split at h
   ·cases h
   ·split at h
    ·cases h
    ·rename_i h1 h2 h3
     rw [if_pos h1, if_neg h2, if_neg h3]
     exact ih _ m h
  ·cases h
theorem zK2 (u : Nat) (h : u < 18446744073709551616) : Lib.parseUint10 0 (Lib.decDigits u) = .ok u := by
 induction u using Nat.strongRecOn with
 | _ u ih =>
  rw [Lib.decDigits]
  split
  ·rename_i h1
   have := (zDU h1).2
   simp only [Lib.parseUint10, this]
   rw [if_pos (by omega), if_neg (by omega), if_neg (by omega)]
   simp
  ·have := (zDU (Nat.mod_lt u (show 0 < 10 by decide))).2
   rw [zMu _ _ 0 (u / 10) (ih _ (by omega) (by omega))]
   simp only [Lib.parseUint10, this]
   rw [if_pos (by omega), if_neg (by omega), if_neg (by omega)]
   simp only [Lib.NumEnd.ok.injEq]
   omega
theorem zLS (u : Nat) (h : u < 9223372036854775808) : Lib.atoiAll (Lib.decDigits u) = .ok (u : Int) := by
 have hd := zC8 u
 have hp := zK2 u (by omega)
 have hn := zDN u
 generalize Lib.decDigits u = l at *
 cases l with
 | nil => exact absurd rfl hn
 | cons c r =>
  have hc := hd c (by simp)
  unfold zCk at hc
  unfold Lib.atoiAll
  simp only
  rw [if_neg (by omega)]
  unfold Lib.parseMag
  rw [if_neg (by simp), hp]
  simp only
  rw [if_neg (by omega), if_neg (by omega), if_neg (by omega)]
theorem itoa_nat (u : Nat) : Lib.itoa (u : Int) = Lib.decDigits u := by
 unfold Lib.itoa
 rw [if_neg (by omega)]; simp
def same (v : Int) : List Int → Nat
 | [] => 0
 | x :: r => if x = v then same v r + 1 else 0
theorem digit_ne {c : UInt8} (h : zCk c) (b : UInt8) (hb : b.toNat < 48 ∨ 57 < b.toNat) : b ≠ c := fun e => by
 subst e; unfold zCk at h; omega
theorem zFJ (u : Nat) (b : UInt8) (hb : b.toNat < 48 ∨ 57 < b.toNat) : b ∉ Lib.decDigits u := fun h => digit_ne (zC8 u b h) b hb rfl
end Go.Ax.Tb
namespace Go.Ax.Bg
open Go.Ax.Tb (zCk zDU zC8 zDN)
/-- What digits spell. -/
def decS (a : Nat) (c : UInt8) : Nat := a * 10 + (c.toNat - 48)
def zCB (acc : Nat) (l : List UInt8) : Nat := l.foldl decS acc
theorem zEr (acc : Nat) : zCB acc [] = acc := rfl
theorem zDy (acc : Nat) (c : UInt8) (r : List UInt8) : zCB acc (c :: r) = zCB (acc * 10 + (c.toNat - 48)) r := by
 unfold zCB; rw [List.foldl_cons, decS]
theorem zLj (l m : List UInt8) (acc : Nat) : zCB acc (l ++ m) = zCB (zCB acc l) m := by
 unfold zCB; rw [List.foldl_append]
theorem zLi (l : List UInt8) (acc : Nat) : zCB acc l = acc * 10 ^ l.length + zCB 0 l := by
 induction l generalizing acc with
 | nil => rw [zEr, zEr]; simp
 | cons c r ih =>
  rw [zDy, zDy, ih, ih (0 * 10 + _), List.length_cons, Nat.pow_succ]
  generalize c.toNat - 48 = d
  generalize 10 ^ r.length = e
  generalize zCB 0 r = v
  rw [Nat.add_mul, Nat.zero_mul, Nat.zero_add, Nat.mul_assoc, Nat.mul_comm 10 e]
  omega
theorem zJ6 (l : List UInt8) (c : UInt8) (acc : Nat) : zCB acc (l ++ [c]) = zCB acc l * 10 + (c.toNat - 48) := by rw [zLj, zDy, zEr]
theorem zLk (u : Nat) : zCB 0 (Lib.decDigits u) = u := by
 induction u using Nat.strongRecOn with
 | _ u ih =>
  rw [Lib.decDigits]
  split
  ·rename_i h
   have := (zDU h).2
   rw [zDy, zEr, this]; omega
  ·have := (zDU (Nat.mod_lt u (show 0 < 10 by decide))).2
   rw [zJ6, ih _ (by omega), this]
   omega
theorem decV_lt {l : List UInt8} (h : ∀ c ∈ l, zCk c) : zCB 0 l < 10 ^ l.length := by
 induction l with
 | nil => rw [zEr]; simp
 | cons c r ih =>
  have hc := h c (by simp)
  have i := ih (fun x hx => h x (by simp [hx]))
  unfold zCk at hc
  rw [zDy, zLi, List.length_cons, Nat.pow_succ]
  have : (c.toNat - 48) * 10 ^ r.length ≤ 9 * 10 ^ r.length := Nat.mul_le_mul_right _ (by omega)
  rw [Nat.zero_mul, Nat.zero_add]
  generalize 10 ^ r.length = e at *
  generalize (c.toNat - 48) * e = q at *
  omega
theorem zNT {c : UInt8} {r : List UInt8} (h : zCk c) (h0 : c ≠ 48) : 10 ^ r.length ≤ zCB 0 (c :: r) := by
 unfold zCk at h
 have hc : c.toNat ≠ 48 := fun e => h0 (UInt8.toNat_inj.1 e)
 rw [zDy, zLi]
 have : 1 * 10 ^ r.length ≤ (0 * 10 + (c.toNat - 48)) * 10 ^ r.length := Nat.mul_le_mul_right _ (by omega)
 generalize (0 * 10 + (c.toNat - 48)) * 10 ^ r.length = q at *
 omega
theorem snocInd {α : Type} {p : List α → Prop} (h0 : p []) (h1 : ∀ l x, p l → p (l ++ [x])) : ∀ l, p l := by
 intro l
 have key : ∀ (n : Nat) (l : List α), l.length = n → p l := by
  intro n
  induction n with
  | zero => intro l hl; rw [List.length_eq_zero_iff.1 hl]; exact h0
  | succ n ih =>
   intro l hl
   have hne : l ≠ [] := by intro e; subst e; simp at hl
   rw [← List.dropLast_concat_getLast hne]
   exact h1 _ _ (ih _ (by simp [hl]))
 exact key _ l U
/-- A number's text: digits, not empty, and no 0 ahead of others. -/
def zGu (s : List UInt8) : Prop := s ≠ [] ∧ (∀ c ∈ s, zCk c) ∧ (s.getD 0 0 ≠ 48 ∨ s.length = 1)
theorem zKi (u : Nat) : zGu (Lib.decDigits u) := by
 refine ⟨zDN u, zC8 u, ?_⟩
 induction u using Nat.strongRecOn with
 | _ u ih =>
  rw [Lib.decDigits]
  split
  ·exact .inr U
  ·left
   rename_i h
   have hne := zDN (u / 10)
   rcases ih (u / 10) (by omega) with h1 | h1
   ·cases hq : Lib.decDigits (u / 10) with
    | nil => exact absurd hq hne
    | cons c r => rw [hq] at h1; simpa using h1
   ·have hlt : u / 10 < 10 := by
     have hl := Lib.decDigits_length (u / 10)
     rw [h1] at hl
     have := Lib.lt_pow_nDigits (u / 10)
     rw [← hl] at this
     simpa using this
    rw [Lib.decDigits_one hlt]
    simp only [List.cons_append, List.getD_cons_zero]
    intro e
    have := congrArg UInt8.toNat e
    rw [(zDU hlt).2] at this
    have : (48 : UInt8).toNat = 48 := rfl
    omega
theorem zGz {s : List UInt8} (h : zGu s) : Lib.decDigits (zCB 0 s) = s := by
 obtain ⟨h1, h2, h3⟩ := h
 revert h1 h2 h3
 refine snocInd (p := fun s => s ≠ [] → (∀ c ∈ s, zCk c) → (s.getD 0 0 ≠ 48 ∨ s.length = 1) → Lib.decDigits (zCB 0 s) = s) ?_ ?_ s
 ·intro h; exact absurd rfl h
 ·intro l c ih _ hd h3
  have hc := hd c (by simp)
  have hcv : UInt8.ofNat (48 + (c.toNat - 48)) = c := by
   unfold zCk at hc
   rw [show 48 + (c.toNat - 48) = c.toNat by omega]
   simp
  rw [zJ6]
  cases l with
  | nil =>
   rw [zEr, List.nil_append, Nat.zero_mul, Nat.zero_add]
   rw [Lib.decDigits, dif_pos (by unfold zCk at hc; omega), hcv]
  | cons x r =>
   have hx : x ≠ 48 := by
    rcases h3 with h3 | h3
    ·simpa using h3
    ·simp at h3
   have hxd := hd x (by simp)
   have hge := zNT (r := r) hxd hx
   have hpos : 1 ≤ 10 ^ r.length := Nat.one_le_pow _ _ (by decide)
   have i := ih (by simp) (fun c hc => hd c (by simp at hc ⊢; rcases hc with rfl | hc; exact .inl rfl; exact .inr (.inl hc))) (.inl (by simpa using hx))
   generalize zCB 0 (x :: r) = v at *
   unfold zCk at hc
   rw [Lib.decDigits, dif_neg (by omega)]
   rw [show (v * 10 + (c.toNat - 48)) / 10 = v by omega, show (v * 10 + (c.toNat - 48)) % 10 = c.toNat - 48 by omega, i, hcv]
/-- How long a text is. -/
theorem zJk {n k : Nat} (hk : 1 ≤ k) (h : n < 10 ^ k) : (Lib.decDigits n).length ≤ k := by
 have hl := Lib.decDigits_length n
 rcases Nat.lt_or_ge k (Lib.decDigits n).length with hlt | hge
 ·exfalso
  have hc := zKi n
  have hv := zLk n
  cases hq : Lib.decDigits n with
  | nil => exact zDN n hq
  | cons c r =>
   rw [hq] at hc hv hlt
   simp only [List.length_cons] at hlt
   have hne : c ≠ 48 := by
    rcases hc.2.2 with h | h
    ·simpa using h
    ·simp at h; subst h; simp at hlt; omega
   have := zNT (r := r) (hc.2.1 c (by simp)) hne
   rw [hv] at this
   have : 10 ^ k ≤ 10 ^ r.length := Nat.pow_le_pow_right (by decide) (by omega)
   omega
 ·exact hge
end Go.Ax.Bg
namespace Go.Ax.Bg
end Go.Ax.Bg
namespace Go.Ax.Bg
open Go.Ax.Tb (zCk)
def dg (c : UInt8) : Bool := decide (48 ≤ c.toNat ∧ c.toNat < 58)
theorem dg_iff {c : UInt8} : dg c = true ↔ zCk c := by
 unfold dg zCk
 simp only [decide_eq_true_eq]
 constructor <;> intro h <;> exact ⟨by omega, by omega⟩
def zIf (s : List UInt8) : Bool := decide (s ≠ []) && s.all dg && (decide (s.getD 0 0 ≠ 48) || decide (s.length = 1))
theorem zGa {s : List UInt8} : zIf s = true ↔ zGu s := by
 unfold zIf zGu
 simp only [Bool.and_eq_true, Bool.or_eq_true, decide_eq_true_eq, List.all_eq_true, dg_iff]
 constructor
 ·rintro ⟨⟨h1, h2⟩, h3⟩; exact ⟨h1, h2, h3⟩
 ·rintro ⟨h1, h2, h3⟩; exact ⟨⟨h1, h2⟩, h3⟩
def natE (s : List UInt8) : Int := if zIf s = false then 5 else if 2000 < s.length then 2 else 0
theorem zNa {s : List UInt8} (h : natE s = 0) : zGu s ∧ s.length ≤ 2000 := by
 unfold natE at h
 split at h
 ·omega
 ·split at h
  ·omega
  ·rename_i h1 h2
   exact ⟨zGa.1 (by simpa using h1), by omega⟩
def twoE (a b : List UInt8) : Int := if natE a ≠ 0 then natE a else natE b
def gcdF (a b : List UInt8) : List UInt8 × Int := if twoE a b ≠ 0 then ([], twoE a b) else (Lib.decDigits (Nat.gcd (zCB 0 a) (zCB 0 b)), 0)
/-- A text that spells n. -/
def IsN (s : List UInt8) (n : Nat) : Prop := natE s = 0 ∧ zCB 0 s = n
theorem IsN.dig {s : List UInt8} {n : Nat} (h : IsN s n) : s = Lib.decDigits n := by
 rw [← h.2, zGz (zNa h.1).1]
theorem IsN.two {a b : List UInt8} {m n : Nat} (ha : IsN a m) (hb : IsN b n) : twoE a b = 0 := by
 unfold twoE; rw [if_neg (by simp [ha.1])]; exact hb.1
theorem IsN.lt {a : List UInt8} {m k : Nat} (ha : IsN a m) (h : a.length ≤ k) : m < 10 ^ k := by
 rw [← ha.2]
 exact Nat.lt_of_lt_of_le (decV_lt (zNa ha.1).1.2.1) (Nat.pow_le_pow_right (by decide) h)
theorem IsN.gcd {a b : List UInt8} {m n : Nat} (ha : IsN a m) (hb : IsN b n) : gcdF a b = (Lib.decDigits (Nat.gcd m n), 0) := by
 unfold gcdF; rw [if_neg (by simp [ha.two hb]), ha.2, hb.2]
theorem IsN.inj {a b : List UInt8} {n : Nat} (ha : IsN a n) (hb : IsN b n) : a = b := by rw [ha.dig, hb.dig]
end Go.Ax.Bg
namespace Go.Ax.Rt
open Go.Ax.Bg
/-- The quotient of integers, its parts. -/
theorem frac_nat (n : Int) (d : Nat) (hd : d ≠ 0) : (Rat.divInt n d).num.natAbs = n.natAbs / Nat.gcd n.natAbs d ∧ (Rat.divInt n d).den = d / Nat.gcd n.natAbs d ∧ ((Rat.divInt n d).num < 0 ↔ n < 0) := by
 have e : Rat.divInt n d = Rat.normalize n d hd := by rw [Rat.divInt_ofNat, ← Rat.normalize_eq_mkRat]
 have hg : 0 < Nat.gcd n.natAbs d := Nat.gcd_pos_of_pos_right _ (by omega)
 have hdv : (Nat.gcd n.natAbs d : Int) ∣ n := by
  rw [Int.ofNat_dvd_left]; exact Nat.gcd_dvd_left _ _
 rw [e, Rat.num_normalize, Rat.den_normalize]
 obtain ⟨q, hq⟩ := hdv
 generalize Nat.gcd n.natAbs d = g at *
 refine ⟨?_, U, ?_⟩
 ·rw [hq, Int.mul_ediv_cancel_left _ (by omega), Int.natAbs_mul, Int.natAbs_natCast, Nat.mul_div_cancel_left _ hg]
 ·rw [hq, Int.mul_ediv_cancel_left _ (by omega)]
  constructor
  ·intro h; exact Int.mul_neg_of_pos_of_neg (by omega) h
  ·intro h
   rcases Int.lt_or_le q 0 with z | z
   ·exact z
   ·exact absurd h (Int.not_lt.2 (Int.mul_nonneg (by omega) z))
def sgnI (b : Bool) (n : Nat) : Int := if b then -(n : Int) else n
theorem zHO (b : Bool) (n : Nat) : (sgnI b n).natAbs = n := by unfold sgnI; split <;> omega
theorem sgnI_neg (b : Bool) (n : Nat) : decide (sgnI b n < 0) = (b && decide (n ≠ 0)) := by
 unfold sgnI
 cases b
 ·simp <;> try omega
 ·simp only [if_true, Bool.true_and]
  rw [decide_eq_decide]; omega
end Go.Ax.Rt
namespace Go.Ax.Rt
open Go.Ax.Bg
open Go.Ax.Tb (zCk zC8 zDN zGQ cutF_no cutF_at zFJ)
def zI7 : List UInt8 → Bool
 | c :: _ => decide (c = 45)
 | [] => false
def zJ2 (s : List UInt8) : List UInt8 := if zI7 s then s.drop 1 else s
def zHD (s : List UInt8) : List UInt8 := (zGQ 47 (zJ2 s)).1
def zGb (s : List UInt8) : List UInt8 := (zGQ 47 (zJ2 s)).2.1
def zIu (s : List UInt8) : Bool := (zGQ 47 (zJ2 s)).2.2
/-- rat.Check -/
def ratE (s : List UInt8) : Int :=
 if zIf (zHD s) = false ∨ (zIu s = true ∧ zIf (zGb s) = false) ∨ (zI7 s = true ∧ zHD s = [48]) then 5
 else if 2000 < (zHD s).length ∨ 2000 < (zGb s).length then 2
 else if zIu s = true ∧ (zGb s = [48] ∨ zGb s = [49] ∨ Nat.gcd (zCB 0 (zHD s)) (zCB 0 (zGb s)) ≠ 1) then 3 else 0
def denV (s : List UInt8) : Nat := if zIu s then zCB 0 (zGb s) else 1
def ratV (s : List UInt8) : Rat := Rat.divInt (sgnI (zI7 s) (zCB 0 (zHD s))) (denV s : Nat)
def zJZ (q : Rat) : List UInt8 := (if q.num < 0 then [45] else []) ++ (Lib.decDigits q.num.natAbs ++ (if q.den = 1 then [] else 47 :: Lib.decDigits q.den))
def fitB (q : Rat) : Bool := decide ((Lib.decDigits q.num.natAbs).length ≤ 2000) && decide ((Lib.decDigits q.den).length ≤ 2000)
def outF (q : Rat) : List UInt8 × Int := if fitB q then (zJZ q, 0) else ([], 2)
theorem zJ5 (b : UInt8) : ∀ l : List UInt8, l = (zGQ b l).1 ++ (if (zGQ b l).2.2 then b :: (zGQ b l).2.1 else [])
 | [] => rfl
 | c :: r => by
  rw [zGQ]
  split
  ·rename_i h; subst h; simp
  ·have := zJ5 b r
   simp only [List.cons_append, List.cons.injEq, true_and]
   exact this
structure Parts (s : List UInt8) (q : Rat) : Prop where
 num : q.num = sgnI (zI7 s) (zCB 0 (zHD s))
 den : q.den = denV s
 cn : zGu (zHD s)
 cd : zIu s = true → zGu (zGb s) ∧ zCB 0 (zGb s) ≠ 0 ∧ zCB 0 (zGb s) ≠ 1
 ln : (zHD s).length ≤ 2000
 ld : (zGb s).length ≤ 2000
 ng : zI7 s = true → zCB 0 (zHD s) ≠ 0
theorem zK1 {s : List UInt8} {n : Nat} (hc : zGu s) (hn : n < 10) (h : zCB 0 s = n) : s = [UInt8.ofNat (48 + n)] := by
 rw [← zGz hc, h, Lib.decDigits_one hn]
theorem zKl {s : List UInt8} (h : zIu s = false) : denV s = 1 := by unfold denV; rw [h]; rfl
theorem zIo {s : List UInt8} (h : zIu s = true) : denV s = zCB 0 (zGb s) := by unfold denV; rw [h]; rfl
theorem zKU {s : List UInt8} (h : ratE s = 0) : Parts s (ratV s) := by
 unfold ratE at h
 split at h
 ·omega
 split at h
 ·omega
 split at h
 ·omega
 rename_i h1 h2 h3
 simp only [not_or, not_and, Bool.not_eq_false] at h1 h2 h3
 obtain ⟨a1, a2, a3⟩ := h1
 have cn := zGa.1 a1
 have cd : zIu s = true → zGu (zGb s) ∧ zCB 0 (zGb s) ≠ 0 ∧ zCB 0 (zGb s) ≠ 1 := fun hd => by
  have c := zGa.1 (a2 hd)
  exact ⟨c, fun e => (h3 hd).1 (zK1 c (by decide) e), fun e => (h3 hd).2.1 (zK1 c (by decide) e)⟩
 have hd0 : denV s ≠ 0 := by
  cases e : zIu s
  ·rw [zKl e]; decide
  ·rw [zIo e]; exact (cd e).2.1
 have hg : Nat.gcd (zCB 0 (zHD s)) (denV s) = 1 := by
  cases e : zIu s
  ·rw [zKl e]; exact Nat.gcd_one_right _
  ·rw [zIo e]; exact Classical.not_not.1 (h3 e).2.2
 obtain ⟨e1, e2, e3⟩ := frac_nat (sgnI (zI7 s) (zCB 0 (zHD s))) (denV s) hd0
 rw [zHO, hg, Nat.div_one] at e1
 rw [zHO, hg, Nat.div_one] at e2
 refine ⟨?_, e2, cn, cd, by omega, by omega, fun hn e => a3 hn (zK1 cn (by decide) e)⟩
 show (Rat.divInt _ _).num = _
 have := zHO (zI7 s) (zCB 0 (zHD s))
 omega
theorem neg_body {s : List UInt8} : s = (if zI7 s then [45] else []) ++ zJ2 s := by
 unfold zJ2
 cases s with
 | nil => rfl
 | cons c r =>
  unfold zI7
  by_cases h : c = 45
  ·subst h; rfl
  ·simp [h]
theorem Parts.text {s : List UInt8} {q : Rat} (h : Parts s q) : zJZ q = s := by
 conv => rhs; rw [neg_body (s := s), zJ5 47 (zJ2 s)]
 change zJZ q = _ ++ (zHD s ++ if zIu s then 47 :: zGb s else [])
 unfold zJZ
 rw [h.num, h.den, zHO, zGz h.cn]
 congr 1
 ·have := sgnI_neg (zI7 s) (zCB 0 (zHD s))
  cases e : zI7 s
  ·rw [e] at this; simp at this
   rw [if_neg (by simpa [e] using this)]; rfl
  ·rw [e] at this
   have hn := h.ng e
   simp [hn] at this
   rw [if_pos this]; rfl
 ·congr 1
  cases e : zIu s
  ·rw [zKl e]; rfl
  ·obtain ⟨c, c0, c1⟩ := h.cd e
   rw [zIo e, if_neg c1, zGz c]; rfl
/-- rat.CheckAll -/
def allE : List (List UInt8) → Int
 | [] => 0
 | s :: r => if ratE s = 0 then allE r else ratE s
theorem Parts.zero {s : List UInt8} (h : ratE s = 0) : ratV s = 0 ↔ s = [48] := by
 constructor
 ·intro e
  have := (zKU h).text
  rw [e] at this
  rw [← this]
  unfold zJZ
  rw [if_neg (by decide), if_pos (show (0 : Rat).den = 1 from rfl)]
  show [] ++ (Lib.decDigits 0 ++ []) = _
  rw [Lib.decDigits_one (by decide)]; rfl
 ·intro e
  subst e
  decide
end Go.Ax.Rt
namespace Go.Ax.Rt
open Go.Ax.Bg
/-- A text that spells q. -/
def IsQ (s : List UInt8) (q : Rat) : Prop := ratE s = 0 ∧ ratV s = q
instance (s : List UInt8) (q : Rat) : Decidable (IsQ s q) := inferInstanceAs (Decidable (_ ∧ _))
theorem IsQ.text {s : List UInt8} {q : Rat} (h : IsQ s q) : zJZ q = s := by
 have := (zKU h.1).text
 rwa [h.2] at this
theorem IsQ.inj {a b : List UInt8} {q : Rat} (ha : IsQ a q) (hb : IsQ b q) : a = b := by rw [← ha.text, hb.text]
theorem IsQ.zero {a : List UInt8} {x : Rat} (ha : IsQ a x) : x = 0 ↔ a = [48] := by rw [← ha.2]; exact Parts.zero ha.1
/-- Numbers of at most so many digits. -/
def D (k : Nat) (q : Rat) : Prop := q.num.natAbs < 10 ^ k ∧ q.den < 10 ^ k
theorem D.mono {j k : Nat} {q : Rat} (h : D j q) (hk : j ≤ k) : D k q :=
 ⟨Nat.lt_of_lt_of_le h.1 (Nat.pow_le_pow_right (by decide) hk), Nat.lt_of_lt_of_le h.2 (Nat.pow_le_pow_right (by decide) hk)⟩
theorem D.neg {q : Rat} {k : Nat} (h : D k q) : D k (-q) := by
 refine ⟨?_, h.2⟩
 show (-q.num).natAbs < _
 rw [Int.natAbs_neg]; exact h.1
def sumN (f : Nat → Rat) : Nat → Rat
 | 0 => 0
 | n + 1 => sumN f n + f n
/-- The sum of the products. -/
def dotQ (a b : List Rat) : Rat := sumN (fun i => a.getD i 0 * b.getD i 0) a.length
def colQ (m : List (List Rat)) (k : Nat) : List Rat := m.map (fun row => row.getD k 0)
def colsQ (m : List (List Rat)) (w : Nat) : List (List Rat) := (List.range w).map (colQ m)
def mulQ (a b : List (List Rat)) (w : Nat) : List (List Rat) := a.map (fun row => (colsQ b w).map (dotQ row))
abbrev zCc := List UInt8
def vecE (v : List zCc) : Int := if 40 < v.length then 2 else allE v
def rowsE (w : Nat) : List (List zCc) → Int
 | [] => 0
 | r :: rs => if r.length = w then (if vecE r = 0 then rowsE w rs else vecE r) else 3
def widM (m : List (List zCc)) : Nat := (m.getD 0 []).length
/-- matrix.Check -/
def matE (m : List (List zCc)) : Int := if 40 < m.length then 2 else rowsE (widM m) m
def inM (m : List (List zCc)) : List (List Rat) := m.map (fun r => r.map ratV)
def outM (q : List (List Rat)) : List (List zCc) × Int := if q.all (fun r => r.all fitB) then (q.map (fun r => r.map zJZ), 0) else ([], 2)
def mulR (a b : List (List zCc)) : List (List zCc) × Int := if matE a ≠ 0 then ([], matE a) else if matE b ≠ 0 then ([], matE b) else if widM a = b.length then outM (mulQ (inM a) (inM b) (widM b)) else ([], 3)
/-- A valid matrix of so many rows and columns. -/
structure IsM (m : List (List zCc)) (p q : Nat) : Prop where
 rows : m.length = p
 cols : ∀ r ∈ m, r.length = q
 sp : p ≤ 40
 sq : m ≠ [] → q ≤ 40
 ok : ∀ r ∈ m, ∀ s ∈ r, ratE s = 0
end Go.Ax.Rt
namespace Go.Ax.Gm
abbrev zCc := List UInt8
structure Way where
 dx : Int
 dy : Int
 most : Int
 take : Int
 deriving DecidableEq
structure Pc where
 letter : Int
 hand : Int
 promote : Int
 ways : List Way
 deriving DecidableEq
structure En where
 kind : Int
 piece : Int
 count : Int
 loses : Bool
 deriving DecidableEq
structure Rules where
 name : zCc
 w : Int
 h : Int
 pcs : List Pc
 start : List Int
 falls : Bool
 keeps : Bool
 ends : List En
 blocked : Int
 quiet : Int
 rep : Int
 deriving DecidableEq
structure Pos where
 cells : List Int
 h0 : List Int
 h1 : List Int
 turn : Int
 quiet : Int
 deriving DecidableEq
structure Mv where
 fr : Int
 to : Int
 pc : Int
 deriving DecidableEq
def way0 : Way := ⟨0, 0, 0, 0⟩
def pc0 : Pc := ⟨0, 0, 0, []⟩
def en0 : En := ⟨0, 0, 0, false⟩
def zq : Pos := ⟨[], [], [], 0, 0⟩
def mv0 : Mv := ⟨0, 0, 0⟩
def within (n a b : Int) : Bool := decide (a ≤ n) && decide (n ≤ b)
theorem within_iff {n a b : Int} : within n a b = true ↔ a ≤ n ∧ n ≤ b := by unfold within; rw [Bool.and_eq_true, decide_eq_true_eq, decide_eq_true_eq]
/-- the first error of f 0, f 1, .. f (n - 1) -/
def upE (f : Nat → Int) : Nat → Int
 | 0 => 0
 | n + 1 => if upE f n ≠ 0 then upE f n else f n
theorem zJb {f : Nat → Int} {i : Nat} (h0 : upE f i = 0) (h : f i ≠ 0) : ∀ {n}, i < n → upE f n = f i
 | 0, hn => absurd hn (Nat.not_lt_zero _)
 | n + 1, hn => by
  rw [upE]
  rcases Nat.lt_or_ge i n with hi | hi
  ·rw [zJb h0 h hi, if_pos h]
  ·obtain rfl : i = n := by omega
   rw [if_neg (fun c => c h0)]
theorem zMT {f : Nat → Int} {i : Nat} (h0 : upE f i = 0) (h : f i = 0) : upE f (i + 1) = 0 := by
 rw [upE, if_neg (fun c => c h0)]; exact h
theorem zJc {f : Nat → Int} : ∀ {n}, upE f n = 0 → ∀ i, i < n → f i = 0
 | 0, _, i, hi => absurd hi (Nat.not_lt_zero _)
 | n + 1, h, i, hi => by
  rw [upE] at h
  split at h
  ·rename_i h1; exact absurd h h1
  ·rename_i h1
   rcases Nat.lt_or_ge i n with q | q
   ·exact zJc (Classical.not_not.1 h1) i q
   ·obtain rfl : i = n := by omega
    exact h
def isCap (b : UInt8) : Bool := decide (65 ≤ b.toNat) && decide (b.toNat ≤ 90)
def isNum (b : UInt8) : Bool := decide (48 ≤ b.toNat) && decide (b.toNat ≤ 57)
def zGR (s : zCc) (i : Nat) : Bool := isCap (s.getD i 0) || (decide (i ≠ 0) && isNum (s.getD i 0))
def zKM (s : zCc) : Bool := (List.range s.length).all (zGR s) && (decide (s ≠ []) && decide (s.length ≤ 8))
def zEQ (w : Way) : Bool := within w.dx (-7) 7 && (within w.dy (-7) 7 && (!(decide (w.dx = 0) && decide (w.dy = 0)) && (within w.most 1 7 && within w.take 0 2)))
def zDD (l : List Pc) (i : Nat) : Int :=
 if (l.getD i pc0).letter < 65 ∨ 90 < (l.getD i pc0).letter then 6
 else if (l.take i).any (fun q => decide (q.letter = (l.getD i pc0).letter)) = true then 7
 else if ¬ (within (l.getD i pc0).hand 0 64 = true ∧ within (l.getD i pc0).promote 0 l.length = true) then 4
 else if 16 < (l.getD i pc0).ways.length then 2
 else if (l.getD i pc0).ways.all zEQ = false then 4 else 0
def zCr (l : List Pc) : Int := if l.length = 0 then 8 else if 6 < l.length then 2 else upE (zDD l) l.length
def zD8 (n : Nat) (x : En) : Int :=
 if x.kind = 0 then (if within x.count 1 64 = true ∧ x.piece = 0 then 0 else 4)
 else if x.kind = 1 then (if x.count = 0 ∧ within x.piece 0 ((n : Int) - 1) = true then 0 else 4)
 else if x.kind = 2 then (if within x.count 1 64 = true ∧ within x.piece 0 ((n : Int) - 1) = true then 0 else 4)
 else 1
def zH4 (n : Nat) (l : List En) : Int := if 6 < l.length then 2 else upE (fun i => zD8 n (l.getD i en0)) l.length
def zFT (n : Nat) (c : Int) : Bool := within c 0 (2 * (n : Int))
def zAl (r : Rules) : Int :=
 if zKM r.name = false then 6
 else if ¬ (within r.w 1 8 = true ∧ within r.h 1 8 = true) then 4
 else if zCr r.pcs ≠ 0 then zCr r.pcs
 else if (r.start.length : Int) ≠ r.w * r.h then 3
 else if r.start.all (zFT r.pcs.length) = false then 4
 else if zH4 r.pcs.length r.ends ≠ 0 then zH4 r.pcs.length r.ends
 else if ¬ (within r.blocked 0 2 = true ∧ within r.quiet 0 200 = true ∧ (r.rep = 0 ∨ within r.rep 2 5 = true)) then 4 else 0
structure ValidR (r : Rules) : Prop where
 w1 : 1 ≤ r.w
 w8 : r.w ≤ 8
 h1 : 1 ≤ r.h
 h8 : r.h ≤ 8
 n1 : 0 < r.pcs.length
 n6 : r.pcs.length ≤ 6
 pc : ∀ i, i < r.pcs.length → zDD r.pcs i = 0
 st : (r.start.length : Int) = r.w * r.h
 sc : ∀ c ∈ r.start, 0 ≤ c ∧ c ≤ 2 * (r.pcs.length : Int)
 e6 : r.ends.length ≤ 6
 en : ∀ x ∈ r.ends, zD8 r.pcs.length x = 0
 b0 : 0 ≤ r.blocked ∧ r.blocked ≤ 2
 q0 : 0 ≤ r.quiet ∧ r.quiet ≤ 200
theorem zAm {r : Rules} (h : zAl r = 0) : ValidR r := by
 unfold zAl at h
 split at h
 ·cases h
 split at h
 ·cases h
 rename_i _ h2
 rw [Classical.not_not, within_iff, within_iff] at h2
 split at h
 ·rename_i h3; exact absurd h h3
 rename_i h3
 have h3 := Classical.not_not.1 h3
 split at h
 ·cases h
 rename_i h4
 split at h
 ·cases h
 rename_i h5
 split at h
 ·rename_i h6; exact absurd h h6
 rename_i h6
 have h6 := Classical.not_not.1 h6
 split at h
 ·cases h
 rename_i h7
 rw [Classical.not_not, within_iff, within_iff] at h7
 unfold zCr at h3
 split at h3
 ·cases h3
 rename_i p1
 split at h3
 ·cases h3
 rename_i p2
 unfold zH4 at h6
 split at h6
 ·cases h6
 rename_i e1
 refine ⟨h2.1.1, h2.1.2, h2.2.1, h2.2.2, by omega, by omega, zJc h3, Classical.not_not.1 h4, fun c hc => ?_, by omega, fun x hx => ?_, h7.1, h7.2.1⟩
 ·rw [Bool.not_eq_false, List.all_eq_true] at h5
  exact within_iff.1 (h5 c hc)
 ·obtain ⟨i, hi, rfl⟩ := List.mem_iff_getElem.1 hx
  have := zJc h6 i hi
  rwa [show r.ends.getD i en0 = r.ends[i] by simp [List.getD, hi]] at this
def zDi (r : Rules) (p : Pos) : Int :=
 if (p.cells.length : Int) ≠ r.w * r.h ∨ p.h0.length ≠ r.pcs.length ∨ p.h1.length ≠ r.pcs.length then 3
 else if p.cells.all (zFT r.pcs.length) = false ∨ (p.h0 ++ p.h1).all (fun n => within n 0 1000) = false ∨ (p.turn ≠ 0 ∧ p.turn ≠ 1) ∨ p.quiet < 0 ∨ 200 < p.quiet then 4 else 0
structure Sound (r : Rules) (p : Pos) : Prop where
 cl : (p.cells.length : Int) = r.w * r.h
 l0 : p.h0.length = r.pcs.length
 l1 : p.h1.length = r.pcs.length
 cs : ∀ c ∈ p.cells, 0 ≤ c ∧ c ≤ 2 * (r.pcs.length : Int)
 c0 : ∀ n ∈ p.h0, 0 ≤ n ∧ n ≤ 1000
 c1 : ∀ n ∈ p.h1, 0 ≤ n ∧ n ≤ 1000
 tn : p.turn = 0 ∨ p.turn = 1
 qt : 0 ≤ p.quiet ∧ p.quiet ≤ 200
theorem zF2 {r : Rules} {p : Pos} : zDi r p = 0 ↔ Sound r p := by
 constructor
 ·intro h
  unfold zDi at h
  split at h
  ·cases h
  rename_i h1
  split at h
  ·cases h
  rename_i h2
  simp only [not_or, Bool.not_eq_false, List.all_eq_true] at h1 h2
  obtain ⟨a1, a2, a3⟩ := h1
  obtain ⟨b1, b2, b3, b4, b5⟩ := h2
  refine ⟨Classical.not_not.1 a1, Classical.not_not.1 a2, Classical.not_not.1 a3, fun c hc => within_iff.1 (b1 c hc), fun n hn => within_iff.1 (b2 n (List.mem_append_left _ hn)), fun n hn => within_iff.1 (b2 n (List.mem_append_right _ hn)), by omega, by omega, by omega⟩
 ·intro h
  unfold zDi
  have e1 : p.cells.all (zFT r.pcs.length) = true := List.all_eq_true.2 (fun c hc => within_iff.2 (h.cs c hc))
  have e2 : (p.h0 ++ p.h1).all (fun n => within n 0 1000) = true := List.all_eq_true.2 (fun n hn => by
   rcases List.mem_append.1 hn with q | q
   ·exact within_iff.2 (h.c0 n q)
   ·exact within_iff.2 (h.c1 n q))
  rw [if_neg, if_neg]
  ·rw [e1, e2]
   rintro (q | q | q | q | q)
   ·cases q
   ·cases q
   ·have := h.tn; omega
   ·have := h.qt; omega
   ·have := h.qt; omega
  ·rintro (q | q | q)
   ·exact q h.cl
   ·exact q h.l0
   ·exact q h.l1
def zBC (r : Rules) (p : Pos) : Int := if zAl r ≠ 0 then zAl r else zDi r p
def zBj (r : Rules) : List Int := r.pcs.map Pc.hand
def z7 (r : Rules) : Pos := ⟨r.start, zBj r, zBj r, 0, 0⟩
theorem zEJ {l : List Pc} {i : Nat} (h : zDD l i = 0) : 0 ≤ (l.getD i pc0).hand ∧ (l.getD i pc0).hand ≤ 64 ∧ 0 ≤ (l.getD i pc0).promote ∧ (l.getD i pc0).promote ≤ l.length ∧ (l.getD i pc0).ways.length ≤ 16 ∧ ∀ w ∈ (l.getD i pc0).ways, zEQ w = true := by
 unfold zDD at h
 split at h
 ·cases h
 split at h
 ·cases h
 split at h
 ·cases h
 rename_i h3
 split at h
 ·cases h
 rename_i h4
 split at h
 ·cases h
 rename_i h5
 rw [Classical.not_not, within_iff, within_iff] at h3
 rw [Bool.not_eq_false, List.all_eq_true] at h5
 exact ⟨h3.1.1, h3.1.2, h3.2.1, h3.2.2, by omega, h5⟩
theorem zER {r : Rules} (h : ValidR r) : Sound r (z7 r) := by
 have hh : ∀ n ∈ zBj r, 0 ≤ n ∧ n ≤ 1000 := fun n hn => by
  obtain ⟨p, hp, rfl⟩ := List.mem_map.1 hn
  obtain ⟨i, hi, rfl⟩ := List.mem_iff_getElem.1 hp
  have := zEJ (h.pc i hi)
  rw [show r.pcs.getD i pc0 = r.pcs[i] by simp [List.getD, hi]] at this
  omega
 exact ⟨h.st, List.length_map .., List.length_map .., h.sc, hh, hh, .inl U, ⟨Int.le_refl _, by show (0 : Int) ≤ 200; decide⟩⟩
def zA7 (p : Pos) : Pos := ⟨p.cells, p.h0, p.h1, p.turn, 0⟩
def zBx (p : Pos) (t : Int) : List Int := if t = 0 then p.h0 else p.h1
def zAM (p : Pos) (s : Nat) : Int := p.cells.getD s 0
/-- are the squares under s occupied? -/
def zG6 (w s : Nat) (p : Pos) : Bool := (List.range (s / w)).all (fun k => decide (zAM p (s - (k + 1) * w) ≠ 0))
def zFx (r : Rules) (p : Pos) (s : Nat) : Bool := decide (zAM p s = 0) && !(r.falls && (decide (r.w.toNat ≤ s) && !(zG6 r.w.toNat s p)))
def zJC (l : List Int) (s : Nat) : List Mv := ((List.range l.length).filter (fun k : Nat => decide (0 < l.getD k 0))).map (fun k : Nat => ⟨-1, (s : Int), (k : Int)⟩)
def zFy (r : Rules) (p : Pos) : List Mv := (List.range p.cells.length).flatMap (fun s => if zFx r p s = true then zJC (zBx p p.turn) s else [])
def zFu (r : Rules) (x y : Int) : Bool := decide (x < 0) || (decide (r.w ≤ x) || (decide (y < 0) || decide (r.h ≤ y)))
/-- may a piece go to a square with c? -/
def hitB (take turn c : Int) : Bool :=
 (decide (take = 0) && decide (c = 0)) || ((decide (take = 1) && (decide (c = 0) || (decide (0 < c) && decide ((c - 1).tmod 2 ≠ turn)))) || (decide (take = 2) && (decide (0 < c) && decide ((c - 1).tmod 2 ≠ turn))))
def zFa (r : Rules) (p : Pos) (take dx dy : Int) : Nat → Int → Int → List Int
 | 0, _, _ => []
 | n + 1, x, y =>
  if zFu r (x + dx) (y + dy) = true then []
  else (if hitB take p.turn (zAM p ((y + dy) * r.w + (x + dx)).toNat) = true then [(y + dy) * r.w + (x + dx)] else []) ++
   (if zAM p ((y + dy) * r.w + (x + dx)).toNat ≠ 0 then [] else zFa r p take dx dy n (x + dx) (y + dy))
def dyOf (p : Pos) (w : Way) : Int := if p.turn = 1 then -w.dy else w.dy
def zHZ (r : Rules) (p : Pos) (s : Nat) (w : Way) : List Int := zFa r p w.take w.dx (dyOf p w) w.most.toNat ((s : Int).tmod r.w) ((s : Int).tdiv r.w)
def zFq (r : Rules) (player : Int) (s : Int) : Bool := if player = 0 then decide (s.tdiv r.w = r.h - 1) else decide (s.tdiv r.w = 0)
def goM (r : Rules) (p : Pos) (s : Nat) (k : Int) (promote : Int) (t : Int) : Mv := ⟨s, t, if 0 < promote ∧ zFq r p.turn t = true then promote - 1 else k⟩
def zAe (c : Int) : Nat := ((c - 1).tdiv 2).toNat
def zDK (r : Rules) (p : Pos) (s : Nat) (k : Nat) (w : Way) : List Mv := (zHZ r p s w).map (goM r p s k (r.pcs.getD k pc0).promote)
def ownC (p : Pos) (s : Nat) : Bool := decide (zAM p s ≠ 0) && decide ((zAM p s - 1).tmod 2 = p.turn)
def zC9 (r : Rules) (p : Pos) (s : Nat) : List Mv := if ownC p s = true then (r.pcs.getD (zAe (zAM p s)) pc0).ways.flatMap (zDK r p s (zAe (zAM p s))) else []
def rawM (r : Rules) (p : Pos) : List Mv := zFy r p ++ (List.range p.cells.length).flatMap (zC9 r p)
def cmpI (a b : Int) : Int := if a < b then -1 else if b < a then 1 else 0
def zIL (a b : Mv) : Int := if cmpI a.fr b.fr ≠ 0 then cmpI a.fr b.fr else if cmpI a.to b.to ≠ 0 then cmpI a.to b.to else cmpI a.pc b.pc
def leM (a b : Mv) : Bool := decide (zIL a b ≤ 0)
def zz : List Mv → List Mv
 | [] => []
 | [a] => [a]
 | a :: b :: r => if a = b then zz (b :: r) else a :: zz (b :: r)
def zr (r : Rules) (p : Pos) : List Mv := zz ((rawM r p).mergeSort leM)
def zf (r : Rules) (p : Pos) (m : Mv) : Pos :=
 let took := zAM p m.to.toNat
 let cells := (if 0 ≤ m.fr then p.cells.set m.fr.toNat 0 else p.cells).set m.to.toNat (2 * m.pc + p.turn + 1)
 let hand := zBx p p.turn
 let hand := if 0 ≤ m.fr then hand else hand.set m.pc.toNat (hand.getD m.pc.toNat 0 - 1)
 let hand := if 0 < took ∧ r.keeps = true then hand.set (zAe took) (min (hand.getD (zAe took) 0 + 1) 1000) else hand
 let q := if 0 < took ∨ m.fr < 0 then 0 else min (p.quiet + 1) 200
 ⟨cells, if p.turn = 0 then hand else p.h0, if p.turn = 0 then p.h1 else hand, 1 - p.turn, q⟩
def zHE (r : Rules) (p : Pos) (player x y : Int) : Bool := !(zFu r x y) && (decide (0 < zAM p (y * r.w + x).toNat) && decide ((zAM p (y * r.w + x).toNat - 1).tmod 2 = player))
def zCK (r : Rules) (p : Pos) (player : Int) (n : Nat) (x y dx dy : Int) : Bool := (List.range n).all (fun i => zHE r p player (x + i * dx) (y + i * dy))
def dirs : List (Int × Int) := [(1, 0), (0, 1), (1, 1), (1, -1)]
def zKK (r : Rules) (p : Pos) (player : Int) (n : Nat) : Bool := (List.range p.cells.length).any (fun s => dirs.any (fun d => zCK r p player n ((s : Int).tmod r.w) ((s : Int).tdiv r.w) d.1 d.2))
def zK8 (r : Rules) (p : Pos) (mover c : Int) : Bool := (List.range p.cells.length).any (fun s => decide (zAM p s = c) && zFq r mover s)
def zDO (r : Rules) (p : Pos) (mover : Int) (x : En) : Bool :=
 if x.kind = 0 then zKK r p mover x.count.toNat
 else if x.kind = 1 then zK8 r p mover (2 * x.piece + mover + 1)
 else decide (((p.cells.filter (fun c => decide (c = 2 * x.piece + 1 - mover + 1))).length : Int) < x.count)
def zb (r : Rules) (p : Pos) : Int :=
 if r.ends.findIdx (zDO r p (1 - p.turn)) < r.ends.length then (if (r.ends.getD (r.ends.findIdx (zDO r p (1 - p.turn))) en0).loses = true then 1 + p.turn else 1 + (1 - p.turn))
 else if r.quiet ≠ 0 ∧ r.quiet ≤ p.quiet then 3
 else if 0 < (zr r p).length then 0
 else if r.blocked = 0 then 1 + (1 - p.turn)
 else if r.blocked = 1 then 1 + p.turn else 3
def zAW (r : Rules) (p : Pos) : List Mv := if zb r p ≠ 0 then [] else zr r p
theorem zMW (r : Rules) (p : Pos) (take dx dy : Int) : ∀ (n : Nat) (x y : Int), zFa r (zA7 p) take dx dy n x y = zFa r p take dx dy n x y
 | 0, _, _ => rfl
 | n + 1, x, y => by
  rw [zFa, zFa, zMW r p take dx dy n]
  rfl
theorem zN7 (r : Rules) (p : Pos) (s : Nat) : zC9 r (zA7 p) s = zC9 r p s := by
 unfold zC9 zDK zHZ
 simp only [zMW]
 rfl
theorem zHl (r : Rules) (p : Pos) : zr r (zA7 p) = zr r p := by
 unfold zr rawM
 rw [show zC9 r (zA7 p) = zC9 r p from funext (zN7 r p)]
 rfl
abbrev Ent := Int × Int
def zAU (E : List Ent) (k : Nat) : Int := (E.getD k (0, 0)).1
def zAF (l : List Pos) (i : Nat) : Int := (l.getD i zq).turn
def zGV (l : List Pos) (nx : List (List Nat)) (E : List Ent) (i : Nat) : Bool := (nx.getD i []).any (fun k => decide (zAU E k = 1 + zAF l i))
def zEk (l : List Pos) (nx : List (List Nat)) (E : List Ent) (i : Nat) : Bool := (nx.getD i []).all (fun k => decide (zAU E k = 1 + 1 - zAF l i))
def zBJ (l : List Pos) (nx : List (List Nat)) (E : List Ent) (i : Nat) : Bool := decide (zAU E i = 0) && (zGV l nx E i || zEk l nx E i)
def zA0 (l : List Pos) (nx : List (List Nat)) (E : List Ent) : List Nat := (List.range l.length).filter (zBJ l nx E)
def zBt (l : List Pos) (nx : List (List Nat)) (E : List Ent) (i : Nat) : Int := if zGV l nx E i = true then 1 + zAF l i else 1 + 1 - zAF l i
def zDn (l : List Pos) (nx : List (List Nat)) (n : Nat) (E : List Ent) : List Ent := (List.range l.length).map (fun i => if zBJ l nx E i = true then (zBt l nx E i, (n : Int)) else E.getD i (0, 0))
/-- the entries before the round n + 1 -/
def zg (l : List Pos) (nx : List (List Nat)) (E0 : List Ent) : Nat → List Ent
 | 0 => E0
 | n + 1 => zDn l nx (n + 1) (zg l nx E0 n)
def zB5 (E : List Ent) : List Ent := E.map (fun x => if x.1 = 0 then (3, x.2) else x)
section
variable {l : List Pos} {nx : List (List Nat)} {E0 : List Ent}
theorem zC0 (h0 : E0.length = l.length) : ∀ n, (zg l nx E0 n).length = l.length
 | 0 => h0
 | n + 1 => by show (List.map _ _).length = _; rw [List.length_map, List.length_range]
theorem zCz (n : Nat) {i : Nat} (hi : i < l.length) : (zg l nx E0 (n + 1)).getD i (0, 0) = if zBJ l nx (zg l nx E0 n) i = true then (zBt l nx (zg l nx E0 n) i, ((n + 1 : Nat) : Int)) else (zg l nx E0 n).getD i (0, 0) := by
 show ((List.range l.length).map _).getD i (0, 0) = _
 simp [List.getD, hi]
theorem zGL (h0 : E0.length = l.length) (n : Nat) {i : Nat} (hi : ¬ i < l.length) : (zg l nx E0 n).getD i (0, 0) = (0, 0) := by
 have := zC0 (nx := nx) h0 n
 simp [List.getD, List.getElem?_eq_none (show (zg l nx E0 n).length ≤ i by omega)]
theorem zEA {E : List Ent} {i : Nat} (h : zBJ l nx E i = true) : zAU E i = 0 := by
 unfold zBJ at h
 rw [Bool.and_eq_true, decide_eq_true_eq] at h
 exact h.1
theorem zJS (h0 : E0.length = l.length) {n i : Nat} (h : zAU (zg l nx E0 n) i ≠ 0) : (zg l nx E0 (n + 1)).getD i (0, 0) = (zg l nx E0 n).getD i (0, 0) := by
 by_cases hi : i < l.length
 ·rw [zCz n hi, if_neg (fun c => h (zEA c))]
 ·exact absurd (by show ((zg l nx E0 n).getD i (0, 0)).1 = 0; rw [zGL h0 n hi]) h
theorem zJT (h0 : E0.length = l.length) {n i : Nat} (h : zAU (zg l nx E0 n) i ≠ 0) : ∀ d, (zg l nx E0 (n + d)).getD i (0, 0) = (zg l nx E0 n).getD i (0, 0)
 | 0 => rfl
 | d + 1 => by
  have ih := zJT h0 h d
  have hk := zJS (n := n + d) (i := i) (nx := nx) h0 (by show ((zg l nx E0 (n + d)).getD i (0, 0)).1 ≠ 0; rw [ih]; exact h)
  exact hk.trans ih
theorem zHR (h0 : E0.length = l.length) {n m i : Nat} (hnm : n ≤ m) (h : zAU (zg l nx E0 n) i ≠ 0) : (zg l nx E0 m).getD i (0, 0) = (zg l nx E0 n).getD i (0, 0) := by
 obtain ⟨d, rfl⟩ : ∃ d, m = n + d := ⟨m - n, by omega⟩
 exact zJT h0 h d
theorem zJU (h0 : E0.length = l.length) {n m i : Nat} (hnm : n ≤ m) (h : zAU (zg l nx E0 m) i = 0) : zAU (zg l nx E0 n) i = 0 := by
 rcases Classical.em (zAU (zg l nx E0 n) i = 0) with q | q
 ·exact q
 ·have := zHR h0 hnm q
  exact absurd (by show ((zg l nx E0 n).getD i (0, 0)).1 = 0; rw [← this]; exact h) q
/-- whoever is zDs was zDs in the round that the plies tell -/
theorem zDs (h0 : E0.length = l.length) (hz : ∀ i, (E0.getD i (0, 0)).2 = 0) : ∀ (n : Nat) {i : Nat}, zAU (zg l nx E0 n) i ≠ 0 → ∃ m, m ≤ n ∧ ((zg l nx E0 n).getD i (0, 0)).2 = (m : Int) ∧ (zg l nx E0 m).getD i (0, 0) = (zg l nx E0 n).getD i (0, 0) ∧ (m = 0 ∨ ∃ q, m = q + 1 ∧ zBJ l nx (zg l nx E0 q) i = true)
 | 0, i, h => ⟨0, Nat.le_refl _, hz i, rfl, .inl rfl⟩
 | n + 1, i, h => by
  by_cases hn : zAU (zg l nx E0 n) i = 0
  ·have hi : i < l.length := by
    rcases Classical.em (i < l.length) with q | q
    ·exact q
    ·exact absurd (by show ((zg l nx E0 (n + 1)).getD i (0, 0)).1 = 0; rw [zGL h0 (n + 1) q]) h
   have hg := zCz (nx := nx) (E0 := E0) n hi
   by_cases hf : zBJ l nx (zg l nx E0 n) i = true
   ·rw [if_pos hf] at hg
    exact ⟨n + 1, Nat.le_refl _, by rw [hg], U, .inr ⟨n, U, hf⟩⟩
   ·rw [if_neg hf] at hg
    exact absurd (by show ((zg l nx E0 (n + 1)).getD i (0, 0)).1 = 0; rw [hg]; exact hn) h
  ·obtain ⟨m, h1, h2, h3, h4⟩ := zDs h0 hz n hn
   have hk := zJS (nx := nx) h0 hn
   exact ⟨m, by omega, by rw [hk]; exact h2, by rw [hk]; exact h3, h4⟩
/-- who is open later was not found before -/
theorem zOI {n m i : Nat} (h0 : E0.length = l.length) (hi : i < l.length) (hnm : n < m) (h : zAU (zg l nx E0 m) i = 0) (ht : zAF l i = 0 ∨ zAF l i = 1) : zBJ l nx (zg l nx E0 n) i = false := by
 rcases hb : zBJ l nx (zg l nx E0 n) i with _ | _
 ·rfl
 ·have hg := zCz (nx := nx) (E0 := E0) n hi
  rw [if_pos hb] at hg
  have h1 : zAU (zg l nx E0 (n + 1)) i ≠ 0 := by
   show ((zg l nx E0 (n + 1)).getD i (0, 0)).1 ≠ 0
   rw [hg]
   show zBt _ _ _ _ ≠ 0
   unfold zBt
   split <;> omega
  exact absurd (zJU h0 (show n + 1 ≤ m by omega) h) h1
end
def zJd (t : Int) (L : List Ent) : Int := L.foldl (fun w x => if x.1 = 1 + t ∧ (w < 0 ∨ x.2 < w) then x.2 else w) (-1)
def zH8 (L : List Ent) : Int := L.foldl (fun a x => max a x.2) (-1)
def zFG (t : Int) (L : List Ent) : Ent := if 0 ≤ zJd t L then (1 + t, zJd t L + 1) else if L.all (fun x => decide (x.1 = 1 + 1 - t)) = true then (1 + 1 - t, zH8 L + 1) else (3, 0)
theorem zIX (t : Int) : ∀ (L : List Ent) (w : Int), (∀ x ∈ L, 0 ≤ x.2) → (∀ x ∈ L, x.1 = 1 + t → 0 ≤ L.foldl (fun w x => if x.1 = 1 + t ∧ (w < 0 ∨ x.2 < w) then x.2 else w) w ∧ L.foldl (fun w x => if x.1 = 1 + t ∧ (w < 0 ∨ x.2 < w) then x.2 else w) w ≤ x.2) ∧
 (0 ≤ w → 0 ≤ L.foldl (fun w x => if x.1 = 1 + t ∧ (w < 0 ∨ x.2 < w) then x.2 else w) w ∧ L.foldl (fun w x => if x.1 = 1 + t ∧ (w < 0 ∨ x.2 < w) then x.2 else w) w ≤ w) ∧
 (L.foldl (fun w x => if x.1 = 1 + t ∧ (w < 0 ∨ x.2 < w) then x.2 else w) w = w ∨ ∃ x ∈ L, x.1 = 1 + t ∧ L.foldl (fun w x => if x.1 = 1 + t ∧ (w < 0 ∨ x.2 < w) then x.2 else w) w = x.2)
 | [], w, _ => ⟨fun x hx => absurd hx (by simp), fun h => ⟨h, Int.le_refl _⟩, .inl rfl⟩
 | a :: r, w, h => by
  rw [List.foldl_cons]
  have ha := h a (List.mem_cons_self ..)
  obtain ⟨i1, i2, i3⟩ := zIX t r (if a.1 = 1 + t ∧ (w < 0 ∨ a.2 < w) then a.2 else w) (fun x hx => h x (List.mem_cons_of_mem _ hx))
  by_cases hc : a.1 = 1 + t ∧ (w < 0 ∨ a.2 < w)
  ·rw [if_pos hc] at i1 i2 i3 ⊢
   have i2 := i2 ha
   refine ⟨fun x hx hx1 => ?_, fun hw => ⟨i2.1, by omega⟩, ?_⟩
   ·rcases List.mem_cons.1 hx with rfl | hx
    ·exact i2
    ·exact i1 x hx hx1
   ·rcases i3 with q | ⟨x, hx, hx1, q⟩
    ·exact .inr ⟨a, List.mem_cons_self .., hc.1, q⟩
    ·exact .inr ⟨x, List.mem_cons_of_mem _ hx, hx1, q⟩
  ·rw [if_neg hc] at i1 i2 i3 ⊢
   refine ⟨fun x hx hx1 => ?_, i2, ?_⟩
   ·rcases List.mem_cons.1 hx with rfl | hx
    ·have hw : 0 ≤ w ∧ w ≤ x.2 := by
      constructor
      ·rcases Int.lt_or_le w 0 with q | q
       ·exact absurd ⟨hx1, .inl q⟩ hc
       ·exact q
      ·rcases Int.lt_or_le x.2 w with q | q
       ·exact absurd ⟨hx1, .inr q⟩ hc
       ·exact q
     have := i2 hw.1
     exact ⟨this.1, by omega⟩
    ·exact i1 x hx hx1
   ·rcases i3 with q | ⟨x, hx, hx1, q⟩
    ·exact .inl q
    ·exact .inr ⟨x, List.mem_cons_of_mem _ hx, hx1, q⟩
theorem winF_eq {t : Int} {L : List Ent} {m : Int} (h : ∀ x ∈ L, 0 ≤ x.2) (h1 : ∃ x ∈ L, x.1 = 1 + t ∧ x.2 ≤ m) (h2 : ∀ x ∈ L, x.1 = 1 + t → m ≤ x.2) : zJd t L = m := by
 obtain ⟨i1, _, i3⟩ := zIX t L (-1) h
 obtain ⟨x, hx, hx1, hx2⟩ := h1
 have h3 := i1 x hx hx1
 have h4 := h2 x hx hx1
 rcases i3 with q | ⟨y, hy, hy1, q⟩
 ·rw [q] at h3; omega
 ·have := h2 y hy hy1
  show L.foldl _ _ = m
  omega
theorem zHw {t : Int} {L : List Ent} (h : ∀ x ∈ L, 0 ≤ x.2) (h1 : ∀ x ∈ L, x.1 ≠ 1 + t) : zJd t L = -1 := by
 obtain ⟨_, _, i3⟩ := zIX t L (-1) h
 rcases i3 with q | ⟨y, hy, hy1, q⟩
 ·exact q
 ·exact absurd hy1 (h1 y hy)
theorem zI3 : ∀ (L : List Ent) (a : Int), a ≤ L.foldl (fun a x => max a x.2) a ∧ (∀ x ∈ L, x.2 ≤ L.foldl (fun a x => max a x.2) a) ∧ (L.foldl (fun a x => max a x.2) a = a ∨ ∃ x ∈ L, L.foldl (fun a x => max a x.2) a = x.2)
 | [], a => ⟨Int.le_refl _, fun x hx => absurd hx (by simp), .inl rfl⟩
 | b :: r, a => by
  rw [List.foldl_cons]
  obtain ⟨i1, i2, i3⟩ := zI3 r (max a b.2)
  refine ⟨by omega, fun x hx => ?_, ?_⟩
  ·rcases List.mem_cons.1 hx with rfl | hx
   ·omega
   ·exact i2 x hx
  ·rcases i3 with q | ⟨x, hx, q⟩
   ·rcases Int.le_total a b.2 with s | s
    ·exact .inr ⟨b, List.mem_cons_self .., by omega⟩
    ·exact .inl (by omega)
   ·exact .inr ⟨x, List.mem_cons_of_mem _ hx, q⟩
theorem lossF_eq {L : List Ent} {m : Int} (h1 : ∃ x ∈ L, m ≤ x.2) (h2 : ∀ x ∈ L, x.2 ≤ m) (h0 : 0 ≤ m) : zH8 L = m := by
 obtain ⟨i1, i2, i3⟩ := zI3 L (-1)
 obtain ⟨x, hx, hx2⟩ := h1
 have := i2 x hx
 show L.foldl _ _ = m
 rcases i3 with q | ⟨y, hy, q⟩
 ·omega
 ·have := h2 y hy; omega
structure Solved (l : List Pos) (nx : List (List Nat)) (E0 : List Ent) (N : Nat) : Prop where
 len : E0.length = l.length
 zero : ∀ i, (E0.getD i (0, 0)).2 = 0
 bound : ∀ i, 0 ≤ zAU E0 i ∧ zAU E0 i ≤ 3
 turn : ∀ i, zAF l i = 0 ∨ zAF l i = 1
 next : ∀ i, i < l.length → ∀ k ∈ nx.getD i [], k < l.length
 some : ∀ i, i < l.length → zAU E0 i = 0 → nx.getD i [] ≠ []
 stop : zA0 l nx (zg l nx E0 N) = []
def zAh (l : List Pos) (nx : List (List Nat)) (E0 : List Ent) (N : Nat) : List Ent := zB5 (zg l nx E0 N)
section
variable {l : List Pos} {nx : List (List Nat)} {E0 : List Ent} {N : Nat}
theorem zBv (i : Nat) (hi : i < l.length) (h0 : E0.length = l.length) : (zAh l nx E0 N).getD i (0, 0) = if zAU (zg l nx E0 N) i = 0 then (3, ((zg l nx E0 N).getD i (0, 0)).2) else (zg l nx E0 N).getD i (0, 0) := by
 have hl := zC0 (nx := nx) h0 N
 unfold zAh zB5 zAU
 have hi' : i < (zg l nx E0 N).length := by omega
 simp [List.getD, hi']
theorem zD0 (S : Solved l nx E0 N) : ∀ (n : Nat) {i : Nat}, zAU (zg l nx E0 n) i = 0 → ((zg l nx E0 n).getD i (0, 0)).2 = 0
 | 0, i, _ => S.zero i
 | n + 1, i, h => by
  by_cases hi : i < l.length
  ·have hg := zCz (nx := nx) (E0 := E0) n hi
   by_cases hf : zBJ l nx (zg l nx E0 n) i = true
   ·rw [if_pos hf] at hg
    have h : ((zg l nx E0 (n + 1)).getD i (0, 0)).1 = 0 := h
    rw [hg] at h
    have h : zBt l nx (zg l nx E0 n) i = 0 := h
    unfold zBt at h
    have := S.turn i
    split at h <;> omega
   ·rw [if_neg hf] at hg
    have h : ((zg l nx E0 (n + 1)).getD i (0, 0)).1 = 0 := h
    rw [hg] at h ⊢
    exact zD0 S n h
  ·rw [zGL S.len _ hi]
theorem zIH (S : Solved l nx E0 N) : ∀ (n i : Nat), 0 ≤ zAU (zg l nx E0 n) i ∧ zAU (zg l nx E0 n) i ≤ 3
 | 0, i => S.bound i
 | n + 1, i => by
  have ih := zIH S n i
  by_cases hi : i < l.length
  ·have hg := zCz (nx := nx) (E0 := E0) n hi
   unfold zAU at ih ⊢
   rw [hg]
   split
   ·show 0 ≤ zBt _ _ _ _ ∧ zBt _ _ _ _ ≤ 3
    unfold zBt
    have := S.turn i
    split <;> omega
   ·exact ih
  ·unfold zAU
   rw [zGL S.len _ hi]
   exact ⟨Int.le_refl _, by show (0 : Int) ≤ 3; decide⟩
/-- the result of an entry at the end -/
theorem zGA (S : Solved l nx E0 N) {k : Nat} (hk : k < l.length) {c : Int} (hc : c = 1 ∨ c = 2) : ((zAh l nx E0 N).getD k (0, 0)).1 = c ↔ zAU (zg l nx E0 N) k = c := by
 rw [zBv k hk S.len]
 split
 ·rename_i h
  constructor
  ·intro q
   have q : (3 : Int) = c := q
   omega
  ·intro q; omega
 ·exact Iff.rfl
theorem zFm (S : Solved l nx E0 N) {k : Nat} (hk : k < l.length) : 0 ≤ ((zAh l nx E0 N).getD k (0, 0)).2 := by
 rw [zBv k hk S.len]
 split
 ·rename_i h
  have := zD0 S N h
  show 0 ≤ ((zg l nx E0 N).getD k (0, 0)).2
  omega
 ·rename_i h
  obtain ⟨m, _, h2, _⟩ := zDs S.len S.zero N h
  omega
/-- who is zEz at a round stays so -/
theorem zEz (S : Solved l nx E0 N) {q k : Nat} (hq : q ≤ N) (hk : k < l.length) {c : Int} (hc : c = 1 ∨ c = 2) (h : zAU (zg l nx E0 q) k = c) : ((zAh l nx E0 N).getD k (0, 0)).1 = c ∧ ((zAh l nx E0 N).getD k (0, 0)).2 ≤ (q : Int) := by
 have hne : zAU (zg l nx E0 q) k ≠ 0 := by omega
 have e := zHR S.len hq hne
 have h1 : zAU (zg l nx E0 N) k = c := by show ((zg l nx E0 N).getD k (0, 0)).1 = c; rw [e]; exact h
 refine ⟨(zGA S hk hc).2 h1, ?_⟩
 have hn : zAU (zg l nx E0 N) k ≠ 0 := by rw [h1]; omega
 rw [zBv k hk S.len, if_neg hn, e]
 obtain ⟨m, h2, h3, _⟩ := zDs S.len S.zero q hne
 omega
/-- and was zEz since the round that its plies tell -/
theorem since (S : Solved l nx E0 N) {k : Nat} (hk : k < l.length) {c : Int} (hc : c = 1 ∨ c = 2) (h : ((zAh l nx E0 N).getD k (0, 0)).1 = c) : ∃ m : Nat, m ≤ N ∧ ((zAh l nx E0 N).getD k (0, 0)).2 = (m : Int) ∧ zAU (zg l nx E0 m) k = c := by
 have h1 := (zGA S hk hc).1 h
 have hn : zAU (zg l nx E0 N) k ≠ 0 := by rw [h1]; omega
 obtain ⟨m, h2, h3, h4, _⟩ := zDs S.len S.zero N hn
 refine ⟨m, h2, ?_, ?_⟩
 ·rw [zBv k hk S.len, if_neg hn]; exact h3
 ·show ((zg l nx E0 m).getD k (0, 0)).1 = c
  rw [h4]; exact h1
theorem zJe {E : List Ent} {i : Nat} : zGV l nx E i = true ↔ ∃ k ∈ nx.getD i [], zAU E k = 1 + zAF l i := by
 unfold zGV
 rw [List.any_eq_true]
 simp only [decide_eq_true_eq]
theorem zHm {E : List Ent} {i : Nat} : zEk l nx E i = true ↔ ∀ k ∈ nx.getD i [], zAU E k = 1 + 1 - zAF l i := by
 unfold zEk
 rw [List.all_eq_true]
 simp only [decide_eq_true_eq]
theorem zG9 {E : List Ent} {i : Nat} (h0 : zAU E i = 0) (h : zGV l nx E i = true ∨ zEk l nx E i = true) : zBJ l nx E i = true := by
 unfold zBJ
 rw [Bool.and_eq_true, decide_eq_true_eq, Bool.or_eq_true]
 exact ⟨h0, h⟩
/-- the entries after the moves of a position -/
def zGX (nx : List (List Nat)) (F : List Ent) (i : Nat) : List Ent := (nx.getD i []).map (fun k => F.getD k (0, 0))
theorem follows (S : Solved l nx E0 N) {i : Nat} (hi : i < l.length) (h : zAU E0 i = 0) :
 (zAh l nx E0 N).getD i (0, 0) = zFG (zAF l i) (zGX nx (zAh l nx E0 N) i) ∧
 ∃ k ∈ nx.getD i [], (zAh l nx E0 N).getD k (0, 0) = (((zAh l nx E0 N).getD i (0, 0)).1, if ((zAh l nx E0 N).getD i (0, 0)).1 = 3 then 0 else ((zAh l nx E0 N).getD i (0, 0)).2 - 1) := by
 have ht := S.turn i
 have hnx := S.next i hi
 have hne := S.some i hi h
 have hpl : ∀ x ∈ zGX nx (zAh l nx E0 N) i, 0 ≤ x.2 := fun x hx => by
  obtain ⟨k, hk, rfl⟩ := List.mem_map.1 hx
  exact zFm S (hnx k hk)
 have hin : ∀ k ∈ nx.getD i [], (zAh l nx E0 N).getD k (0, 0) ∈ zGX nx (zAh l nx E0 N) i := fun k hk => List.mem_map.2 ⟨k, hk, rfl⟩
 by_cases hN : zAU (zg l nx E0 N) i = 0
 ·-- never found
  have eF : (zAh l nx E0 N).getD i (0, 0) = (3, 0) := by rw [zBv i hi S.len, if_pos hN, zD0 S N hN]
  have hnf : ¬ zBJ l nx (zg l nx E0 N) i = true := fun q => by
   have : i ∈ zA0 l nx (zg l nx E0 N) := List.mem_filter.2 ⟨List.mem_range.2 hi, q⟩
   rw [S.stop] at this
   cases this
  have hw : ∀ k ∈ nx.getD i [], ((zAh l nx E0 N).getD k (0, 0)).1 ≠ 1 + zAF l i := fun k hk q => by
   refine hnf (zG9 hN (.inl (zJe.2 ⟨k, hk, ?_⟩)))
   exact (zGA S (hnx k hk) (by omega)).1 q
  obtain ⟨k0, hk0, hl0⟩ : ∃ k ∈ nx.getD i [], ((zAh l nx E0 N).getD k (0, 0)).1 ≠ 1 + 1 - zAF l i := by
   refine Classical.byContradiction (fun q => hnf (zG9 hN (.inr (zHm.2 (fun k hk => ?_)))))
   refine (zGA S (hnx k hk) (by omega)).1 (Classical.byContradiction (fun s => q ⟨k, hk, s⟩))
  refine ⟨?_, k0, hk0, ?_⟩
  ·rw [eF]
   unfold zFG
   rw [zHw hpl (fun x hx => by obtain ⟨k, hk, rfl⟩ := List.mem_map.1 hx; exact hw k hk), if_neg (by decide), if_neg]
   intro q
   rw [List.all_eq_true] at q
   have := q _ (hin k0 hk0)
   rw [decide_eq_true_eq] at this
   exact hl0 this
  ·rw [eF]
   show _ = ((3 : Int), (if (3 : Int) = 3 then (0 : Int) else _))
   rw [if_pos rfl, zBv k0 (hnx k0 hk0) S.len]
   have hb := zIH S N k0
   by_cases hz : zAU (zg l nx E0 N) k0 = 0
   ·rw [if_pos hz, zD0 S N hz]
   ·rw [if_neg hz]
    have h1 := hw k0 hk0
    rw [zBv k0 (hnx k0 hk0) S.len, if_neg hz] at h1 hl0
    have e3 : ((zg l nx E0 N).getD k0 (0, 0)).1 = 3 := by
     have hb : 0 ≤ ((zg l nx E0 N).getD k0 (0, 0)).1 ∧ ((zg l nx E0 N).getD k0 (0, 0)).1 ≤ 3 := hb
     have hz : ¬ ((zg l nx E0 N).getD k0 (0, 0)).1 = 0 := hz
     omega
    obtain ⟨m, g1, g2, g3, g4⟩ := zDs S.len S.zero N hz
    rcases g4 with rfl | ⟨q, rfl, gf⟩
    ·exact Prod.ext e3 g2
    ·-- found in a round: then it has no draw
     have hg := zCz (nx := nx) (E0 := E0) q (hnx k0 hk0)
     rw [if_pos gf] at hg
     rw [hg] at g3
     have : zBt l nx (zg l nx E0 q) k0 = 3 := by
      have := congrArg Prod.fst g3
      simp only at this
      omega
     unfold zBt at this
     have := S.turn k0
     split at * <;> omega
 ·obtain ⟨m, g1, g2, g3, g4⟩ := zDs S.len S.zero N hN
  rcases g4 with rfl | ⟨q, rfl, gf⟩
  ·exfalso
   have : ((zg l nx E0 N).getD i (0, 0)).1 = 0 := by rw [← g3]; exact h
   exact hN this
  have hg := zCz (nx := nx) (E0 := E0) q hi
  rw [if_pos gf] at hg
  rw [hg] at g3
  have eF : (zAh l nx E0 N).getD i (0, 0) = (zBt l nx (zg l nx E0 q) i, ((q + 1 : Nat) : Int)) := by
   rw [zBv i hi S.len, if_neg hN, g3]
  have ho := zEA gf
  have hearly : ∀ s, s < q → zBJ l nx (zg l nx E0 s) i = false := fun s hs => zOI S.len hi hs ho ht
  have hopen : ∀ s, s ≤ q → zAU (zg l nx E0 s) i = 0 := fun s hs => zJU S.len hs ho
  have hqN : q ≤ N := by omega
  by_cases hw : zGV l nx (zg l nx E0 q) i = true
  ·have er : zBt l nx (zg l nx E0 q) i = 1 + zAF l i := by unfold zBt; rw [if_pos hw]
   obtain ⟨k, hk, hkr⟩ := zJe.1 hw
   have hkn := zEz S hqN (hnx k hk) (c := 1 + zAF l i) (by omega) hkr
   have hmin : ∀ x ∈ zGX nx (zAh l nx E0 N) i, x.1 = 1 + zAF l i → (q : Int) ≤ x.2 := fun x hx hx1 => by
    obtain ⟨k', hk', rfl⟩ := List.mem_map.1 hx
    obtain ⟨s, s1, s2, s3⟩ := since S (hnx k' hk') (c := 1 + zAF l i) (by omega) hx1
    rcases Nat.lt_or_ge s q with hs | hs
    ·have := zG9 (hopen s (by omega)) (.inl (zJe.2 ⟨k', hk', s3⟩))
     rw [hearly s hs] at this
     cases this
    ·show (q : Int) ≤ ((zAh l nx E0 N).getD k' (0, 0)).2
     omega
   have hwf : zJd (zAF l i) (zGX nx (zAh l nx E0 N) i) = (q : Int) := winF_eq hpl ⟨_, hin k hk, hkn.1, hkn.2⟩ hmin
   refine ⟨?_, k, hk, ?_⟩
   ·rw [eF, er]
    unfold zFG
    rw [hwf, if_pos (by omega)]
    refine Prod.ext U ?_
    show ((q + 1 : Nat) : Int) = (q : Int) + 1
    omega
   ·have h2 := hmin _ (hin k hk) hkn.1
    rw [eF, er]
    refine Prod.ext hkn.1 ?_
    show ((zAh l nx E0 N).getD k (0, 0)).2 = if 1 + zAF l i = 3 then (0 : Int) else ((q + 1 : Nat) : Int) - 1
    rw [if_neg (by omega)]
    have := hkn.2
    omega
  ·have hl : zEk l nx (zg l nx E0 q) i = true := by
    unfold zBJ at gf
    rw [Bool.and_eq_true, Bool.or_eq_true] at gf
    rcases gf.2 with s | s
    ·exact absurd s hw
    ·exact s
   have hla := zHm.1 hl
   have er : zBt l nx (zg l nx E0 q) i = 1 + 1 - zAF l i := by unfold zBt; rw [if_neg hw]
   have hkn : ∀ k ∈ nx.getD i [], ((zAh l nx E0 N).getD k (0, 0)).1 = 1 + 1 - zAF l i ∧ ((zAh l nx E0 N).getD k (0, 0)).2 ≤ (q : Int) := fun k hk => zEz S hqN (hnx k hk) (by omega) (hla k hk)
   obtain ⟨k, hk, hkq⟩ : ∃ k ∈ nx.getD i [], (q : Int) ≤ ((zAh l nx E0 N).getD k (0, 0)).2 := by
    refine Classical.byContradiction (fun c => ?_)
    have hlt : ∀ k ∈ nx.getD i [], ((zAh l nx E0 N).getD k (0, 0)).2 < (q : Int) := fun k hk => by
     rcases Int.lt_or_le ((zAh l nx E0 N).getD k (0, 0)).2 (q : Int) with s | s
     ·exact s
     ·exact absurd ⟨k, hk, s⟩ c
    cases q with
    | zero =>
     obtain ⟨k, hk⟩ := List.exists_mem_of_ne_nil _ hne
     have h1 := hlt k hk
     have h2 := zFm S (hnx k hk)
     omega
    | succ s =>
     have hls : zEk l nx (zg l nx E0 s) i = true := zHm.2 (fun k hk => by
      obtain ⟨m, m1, m2, m3⟩ := since S (hnx k hk) (c := 1 + 1 - zAF l i) (by omega) (hkn k hk).1
      have h1 := hlt k hk
      have hms : m ≤ s := by omega
      have := zHR S.len hms (show zAU (zg l nx E0 m) k ≠ 0 by omega)
      show ((zg l nx E0 s).getD k (0, 0)).1 = _
      rw [this]; exact m3)
     have := zG9 (hopen s (by omega)) (.inr hls)
     rw [hearly s (by omega)] at this
     cases this
   have hlf : zH8 (zGX nx (zAh l nx E0 N) i) = (q : Int) := lossF_eq ⟨_, hin k hk, hkq⟩ (fun x hx => by
    obtain ⟨k', hk', rfl⟩ := List.mem_map.1 hx
    exact (hkn k' hk').2) (by omega)
   refine ⟨?_, k, hk, ?_⟩
   ·rw [eF, er]
    unfold zFG
    rw [zHw hpl (fun x hx => by
     obtain ⟨k', hk', rfl⟩ := List.mem_map.1 hx
     have := (hkn k' hk').1
     omega), if_neg (by decide), if_pos, hlf]
    ·refine Prod.ext U ?_
     show ((q + 1 : Nat) : Int) = (q : Int) + 1
     omega
    ·rw [List.all_eq_true]
     intro x hx
     obtain ⟨k', hk', rfl⟩ := List.mem_map.1 hx
     rw [decide_eq_true_eq]
     exact (hkn k' hk').1
   ·rw [eF, er]
    refine Prod.ext (hkn k hk).1 ?_
    show ((zAh l nx E0 N).getD k (0, 0)).2 = if 1 + 1 - zAF l i = 3 then (0 : Int) else ((q + 1 : Nat) : Int) - 1
    rw [if_neg (by omega)]
    have := (hkn k hk).2
    omega
theorem over (S : Solved l nx E0 N) {i : Nat} (hi : i < l.length) (h : zAU E0 i ≠ 0) : (zAh l nx E0 N).getD i (0, 0) = (zAU E0 i, 0) := by
 have e := zHR (nx := nx) S.len (Nat.zero_le N) h
 have hN : zAU (zg l nx E0 N) i ≠ 0 := by show ((zg l nx E0 N).getD i (0, 0)).1 ≠ 0; rw [e]; exact h
 rw [zBv i hi S.len, if_neg hN, e]
 exact Prod.ext U (S.zero i)
end
end Go.Ax.Gm
