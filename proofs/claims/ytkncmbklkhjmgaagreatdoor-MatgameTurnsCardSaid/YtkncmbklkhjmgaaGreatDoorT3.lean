import Derived.Lib.Bytealg
import Derived.Laws.Externs
import Derived.Laws.CopyRow
import Derived.OpenShut
import Derived.Laws.StructEq
import Derived.ChangeKeysEq
import Derived.WideLaws
import Derived.Laws.Bits64
import Derived.Laws.BitsLemmas
import Derived.Lib.AppendStr
import Derived.Lib.UnsafeStr
import Derived.Lib.Builder
import Derived.Laws.Small
import Derived.MapKept
import Derived.Laws.IdiomStrings
import Derived.Lib.ItoaNum
import Derived.Lib.AtoiAll
import Derived.Lib.ParseIntB
import Derived.Lib.Join
import Derived.Test.YtkncmbklkhjmgaaGreatDoorT2
set_option linter.unusedVariables false
set_option linter.unusedSimpArgs false
namespace Go.Ax
variable [Pins]
open Go.RowKit
/-- One more object, of which there is nothing yet. -/
theorem Rep.nowhere1 {c : Ctx} {w : World} {a : Act} {σ : Nat → Option Blk} {S : Nat → Prop} {n : Nat} {fr : Fr} {H : zN} (hr : Rep c w a σ S n fr H) {o : AObj} (ho : o.c.len = 0) : Rep c w a (upσ σ H.length .nowhere) S n fr (H ++ [some o]) := by
 have hext : ∀ h B, σ h = some B → upσ σ H.length .nowhere h = some B := by
  intro h B hB
  unfold upσ
  split
  ·rename_i he; rw [he, hr.hr.dom _ (Nat.le_refl _)] at hB; cases hB
  ·exact hB
 have hv : ∀ {x v}, VR w S σ x v → VR w S (upσ σ H.length .nowhere) x v := fun h => h.mono (fun _ h => h) (fun _ _ => rfl) _ hext
 have hset : ∀ (h' : Nat) (o' : AObj), (H ++ [some o])[h']? = some (some o') → (h' = H.length ∧ o' = o) ∨ (h' < H.length ∧ H[h']? = some (some o')) := by
  intro h' o' ho
  by_cases he : h' < H.length
  ·rw [List.getElem?_append_left he] at ho; exact .inr ⟨he, ho⟩
  ·by_cases he2 : h' = H.length
   ·subst he2; simp at ho; exact .inl ⟨rfl, ho.symm⟩
   ·have : (H ++ [some o]).length ≤ h' := by simp; omega
    rw [List.getElem?_eq_none this] at ho; cases ho
 have hnone : ∀ h, h < H.length → upσ σ H.length .nowhere h = σ h := fun h hl => by simp [upσ, Nat.ne_of_lt hl]
 have hat : upσ σ H.length .nowhere H.length = some .nowhere := by simp [upσ]
 refine ⟨⟨?_, ?_, hr.hr.small, fun h hl => ?_⟩, ⟨hr.kp.os, hr.kp.output, hr.kp.tape, hr.kp.size, hr.kp.block, hr.kp.S1, hr.kp.S2, fun h hf => by rw [hnone h (hr.kp.fixlt h hf)]; exact hr.kp.fixed h hf, fun h hf => by have := hr.kp.fixlt h hf; simp; omega, ?_⟩, hr.defers, hr.size, fun t v hl => ⟨(hr.slots t v hl).1, hv (hr.slots t v hl).2⟩⟩
 ·intro h' o' ho'
  rcases hset h' o' ho' with ⟨rfl, rfl⟩ | ⟨hlt, ho'⟩
  ·exact .inl ⟨hat, ho⟩
  ·rcases hr.hr.live h' o' ho' with ⟨hn, hl0⟩ | ⟨b', C', cu, g1, g2, g3, g4, g5, g6, g7⟩
   ·exact .inl ⟨hext _ _ hn, hl0⟩
   ·right
    refine ⟨b', C', cu, hext _ _ g1, g2.mono Z hv, g3, g4, g5, g6, fun i j hi hj => ?_⟩
    obtain ⟨v, e1, e2, e3⟩ := g7 i j hi hj
    exact ⟨v, e1, hv e2, e3⟩
 ·intro h1 h2 o1 o2 b s1 C1 s2 C2 q1 q2 e1 e2
  rcases hset h1 o1 q1 with ⟨rfl, rfl⟩ | ⟨l1, q1'⟩
  ·rw [hat] at e1; cases e1
  ·rcases hset h2 o2 q2 with ⟨rfl, rfl⟩ | ⟨l2, q2'⟩
   ·rw [hat] at e2; cases e2
   ·rw [hnone h1 l1] at e1
    rw [hnone h2 l2] at e2
    exact hr.hr.dist h1 h2 o1 o2 b s1 C1 s2 C2 q1' q2' e1 e2
 ·simp only [List.length_append, List.length_cons, List.length_nil] at hl
  have : ¬ h = H.length := by omega
  simp only [upσ, this, if_false]
  exact hr.hr.dom h (by omega)
 ·intro h' o' b s C ho hb
  rcases hset h' o' ho with ⟨rfl, rfl⟩ | ⟨hlt, ho'⟩
  ·rw [hat] at hb; cases hb
  ·rw [hnone h' hlt] at hb
   exact hr.kp.own h' o' b s C ho' hb
/-- Cells, told otherwise. -/
theorem Rep.recell {c : Ctx} {w : World} {a : Act} {σ : Nat → Option Blk} {S : Nat → Prop} {n : Nat} {fr : Fr} {H : zN} (hr : Rep c w a σ S n fr H) {h : Nat} {o : AObj} (hh : H[h]? = some (some o)) {c' : Cells} (h1 : c'.len = o.c.len) (h2 : c'.kd = o.c.kd)
 (h3 : ∀ i j v, i < o.c.len → j < o.c.sz → VR w S σ (o.c.at i j) v → VR w S σ (c'.at i j) v) : Rep c w a σ S n fr (H.set h (some ⟨o.ty, c'⟩)) := by
 have hlt : h < H.length := (List.getElem?_eq_some_iff.1 hh).1
 have hset : ∀ (h' : Nat) (o' : AObj), (H.set h (some ⟨o.ty, c'⟩))[h']? = some (some o') → ∃ o0 : AObj, H[h']? = some (some o0) ∧ o'.ty = o0.ty ∧ o'.c.len = o0.c.len ∧ o'.c.kd = o0.c.kd ∧ ∀ i j v, i < o0.c.len → j < o0.c.sz → VR w S σ (o0.c.at i j) v → VR w S σ (o'.c.at i j) v := by
  intro h' o' ho
  by_cases he : h' = h
  ·subst he
   simp only [List.getElem?_set_self hlt, Option.some.injEq] at ho
   subst ho
   exact ⟨o, hh, Z, h1, h2, h3⟩
  ·rw [List.getElem?_set_ne (Ne.symm he)] at ho
   exact ⟨o', ho, Z, Z, Z, fun _ _ _ _ _ h => h⟩
 refine ⟨⟨fun h' o' ho => ?_, fun h1 h2 o1 o2 b s C s' C' q1 q2 e1 e2 => ?_, hr.hr.small, fun h' hl => hr.hr.dom h' (by simpa using hl)⟩, ⟨hr.kp.os, hr.kp.output, hr.kp.tape, hr.kp.size, hr.kp.block, hr.kp.S1, hr.kp.S2, hr.kp.fixed, fun h' hf => by simpa using hr.kp.fixlt h' hf, fun h' o' b s C q e => ?_⟩, hr.defers, hr.size, hr.slots⟩
 ·obtain ⟨o0, h1, h2, h3, h4, h5⟩ := hset h' o' ho
  rw [h3, zLm h4]
  rcases hr.hr.live h' o0 h1 with g | ⟨b, C, cur, g1, g2, g3, g4, g5, g6, g7⟩
  ·exact .inl g
  ·exact .inr ⟨b, C, cur, g1, g2.kd h2 h4, g3, g4, g5, g6, fun i j hi hj => by
    obtain ⟨v, e1, e2, e3⟩ := g7 i j hi hj
    exact ⟨v, e1, h5 i j v hi hj e2, e3⟩⟩
 ·obtain ⟨p, p1, _⟩ := hset h1 o1 q1
  obtain ⟨p', p1', _⟩ := hset h2 o2 q2
  exact hr.hr.dist h1 h2 p p' b s C s' C' p1 p1' e1 e2
 ·obtain ⟨p, p1, _⟩ := hset h' o' q
  exact hr.kp.own h' p b s C p1 e
section
variable {P : Program} {fn : Func} {c : Ctx} {fr : Fr} {H : zN} {k : List It}
end
/-- What a value is told as, once the objects of HF are only read. -/
def FzTo (HF : zN) (x y : AV) : Prop := y = x ∨ y = .any ∨ (y = x.frz HF ∧ inB HF x)
def fzk (HF : zN) (fr : Fr) : Fr → Prop
 | [] => True
 | (t, y) :: r => (∃ x, look t fr = some x ∧ FzTo HF x y) ∧ fzk HF fr r
theorem look_fzk {HF : zN} {fr L : Fr} {t : Nat} {y : AV} (h : fzk HF fr L) (hl : look t L = some y) : ∃ x, look t fr = some x ∧ FzTo HF x y := by
 have _p := ‹Pins›
 induction L with
 | nil => simp [look] at hl
 | cons p r ih =>
  obtain ⟨u, x⟩ := p
  obtain ⟨h1, h2⟩ := h
  simp only [look] at hl
  by_cases he : t = u
  ·subst he; simp at hl; subst hl; exact h1
  ·have hb : Nat.beq t u = false := zr he
   simp [hb] at hl
   exact ih h2 hl
/-- Objects that nobody writes any more join the region. -/
theorem Rep.freeze {c : Ctx} {w : World} {a : Act} {σ : Nat → Option Blk} {S : Nat → Prop} {n : Nat} {fr L : Fr} {H : zN} (hr : Rep c w a σ S n fr H) (HF H' : zN) (hsub : subH HF H) (hrl : ∀ (h : Nat) (o : AObj), HF[h]? = some (some o) → zAd o.c)
 (hlen : H'.length = H.length)
 (hH : ∀ (h : Nat) (o' : AObj), H'[h]? = some (some o') → (∀ o : AObj, HF[h]? ≠ some (some o)) ∧ ∃ o : AObj, H[h]? = some (some o) ∧ o'.ty = o.ty ∧ o'.c.len = o.c.len ∧ o'.c.kd = o.c.kd ∧ ∀ i j, i < o.c.len → j < o.c.sz → FzTo HF (o.c.at i j) (o'.c.at i j))
 (hL : fzk HF fr L) : ∃ S', Rep c w a σ S' n L H' := by
 have hlive : zLP w S σ HF := fun h o ho => hr.hr.live h o (hsub h o ho)
 let S' : Nat → Prop := fun b => S b ∨ ∃ h o s C, HF[h]? = some (some o) ∧ σ h = some (.at b s C)
 have hup : ∀ {σ1 : Nat → Option Blk} {x v}, VR w S σ1 x v → VR w S' σ1 x v := fun h => h.mono (fun _ h => .inl h) (fun _ _ => rfl) _ (fun _ _ h => h)
 have hfz : ∀ {x y v}, FzTo HF x y → VR w S σ x v → VR w S' σ y v := by
  intro x y v h hv
  rcases h with rfl | rfl | ⟨rfl, hin⟩
  ·exact hup hv
  ·exact .any _ _
  ·exact VR.freeze hlive hrl (fun _ h => .inl h) (fun h o b s C h1 h2 => .inr ⟨h, o, s, C, h1, h2⟩) hv σ hin
 refine ⟨S', ⟨fun h o' ho' => ?_, fun h1 h2 o1 o2 b s C s' C' q1 q2 e1 e2 => ?_, fun b hb => ?_, fun h hl => hr.hr.dom h (by omega)⟩, ⟨hr.kp.os, hr.kp.output, hr.kp.tape, hr.kp.size, hr.kp.block, fun b hb => .inl (hr.kp.S1 b hb), fun b hb => ?_, hr.kp.fixed, fun h hf => by rw [hlen]; exact hr.kp.fixlt h hf, fun h o b s C q e => ?_⟩, hr.defers, hr.size, fun t y hy => ?_⟩
 ·obtain ⟨hno, o, h1, h2, h3, h4, h5⟩ := hH h o' ho'
  rw [h3, zLm h4]
  rcases hr.hr.live h o h1 with g | ⟨b, C, cur, g1, g2, g3, g4, g5, g6, g7⟩
  ·exact .inl g
  ·refine .inr ⟨b, C, cur, g1, (g2.mono Z hup).kd h2 h4, g3, g4, g5, ?_, fun i j hi hj => ?_⟩
   ·rintro (hs | ⟨h', o2, s2, C2, q1, q2⟩)
    ·exact g6 hs
    ·have := hr.hr.dist h h' o o2 b _ C s2 C2 h1 (hsub h' o2 q1) g1 q2
     subst this
     exact hno o2 q1
   ·obtain ⟨v, e1, e2, e3⟩ := g7 i j hi hj
    exact ⟨v, e1, hfz (h5 i j hi hj) e2, e3⟩
 ·obtain ⟨_, p, p1, _⟩ := hH h1 o1 q1
  obtain ⟨_, p', p1', _⟩ := hH h2 o2 q2
  exact hr.hr.dist h1 h2 p p' b s C s' C' p1 p1' e1 e2
 ·rcases hb with hs | ⟨h, o, s, C, q1, q2⟩
  ·exact hr.hr.small b hs
  ·obtain ⟨_, cu, g, _⟩ := hr.obj (hsub h o q1) q2
   exact g.lt
 ·rcases hb with hs | ⟨h, o, s, C, q1, q2⟩
  ·exact hr.kp.S2 b hs
  ·rcases hr.kp.own h o b s C (hsub h o q1) q2 with g | g
   ·exact .inr (.inl g)
   ·exact .inr (.inr g)
 ·obtain ⟨_, p, p1, _⟩ := hH h o q
  exact hr.kp.own h p b s C p1 e
 ·obtain ⟨x, hx, hf⟩ := look_fzk hL hy
  exact ⟨(hr.slots t x hx).1, hfz hf (hr.slots t x hx).2⟩
section
variable {P : Program} {fn : Func} {c : Ctx} {fr : Fr} {H : zN} {k : List It}
theorem zQm {x : Code} (HF H' : zN) (L : Fr) (hsub : subH HF H) (hrl : ∀ (h : Nat) (o : AObj), HF[h]? = some (some o) → zAd o.c) (hlen : H'.length = H.length)
 (hH : ∀ (h : Nat) (o' : AObj), H'[h]? = some (some o') → (∀ o : AObj, HF[h]? ≠ some (some o)) ∧ ∃ o : AObj, H[h]? = some (some o) ∧ o'.ty = o.ty ∧ o'.c.len = o.c.len ∧ o'.c.kd = o.c.kd ∧ ∀ i j, i < o.c.len → j < o.c.sz → FzTo HF (o.c.at i j) (o'.c.at i j))
 (hL : fzk HF fr L) (hk : Ax P fn c (.code x k) L H') : Ax P fn c (.code x k) fr H := by
 intro w a σ S hr
 obtain ⟨S', hr'⟩ := hr.freeze HF H' hsub hrl hlen hH hL
 exact hk w a σ S' hr'
theorem zAj {x : Code} (H' : zN) (he : H = H') (hk : Ax P fn c (.code x k) fr H') : Ax P fn c (.code x k) fr H := he ▸ hk
theorem zDT {all : Array Oper} {fuel : Nat} {listed : Array Bool} (t : Nat) {v : AV} (y : AV) (hl : look t fr = some v) (h : AEq v y) (hk : Ax P fn c (.any all fuel listed k) ((t, y) :: fr) H) : Ax P fn c (.any all fuel listed k) fr H :=
 fun w a σ S hr => hk w a σ S (hr.slot hl h)
end
end Go.Ax
namespace Go.Ax
variable [Pins]
open Go.RowKit
section
variable {ind : Bool} {P : Program} {fn : Func} {c : Ctx} {fr : Fr} {H : zN} {k : List It}
variable {d : Option Nat} {ty : TypeId} {pos : String} {after : Array Edge} {gu : Option (Nat × Bool)}
theorem q_extern {g : Operand} {args : List Operand} {ats : Array TypeId} {f : FuncId} {fx : Func} {e : Array Value → Sem Value} {ags : List AV} {r : AV} (hg : ev fr g = some (.fn f [])) (ha : evs fr args = some ags)
 (hf : P.funcs[f]? = some fx) (hname : (fx.name == "runtime.NumGoroutine") = false) (hb : fx.body.isNone = true) (hn : Extern.findNext fx = none) (he : Extern.find fx = some e)
 (hrun : ∀ w S σ vals, VRs w S σ ags vals → ∃ x, VR w S σ r x ∧ ∀ w', (e vals).run P w' = .ok x w') :
 QOp ind P fn c fr H ⟨d, .call { callee := .value g, args := args.toArray, argTypes := ats }, ty, pos, after, gu⟩ r := by
 intro w a σ S hr
 have h1 := hr.evAt hg
 obtain ⟨e1, e2⟩ := zGy hr args ags ha
 generalize hz : a.eval g = z at h1
 cases h1 with
 | fn _ _ _ vs hl hv =>
  have hvs : vs = #[] := by
   have : vs.size = 0 := by simpa using hl
   exact Array.eq_empty_of_size_eq_zero this
  subst hvs
  have hv0 : VRs w S σ ags (args.map a.eval).toArray := by
   refine ⟨by simp [e1], fun i hi => ?_⟩
   have := e2 i hi
   have hlt : i < args.length := by omega
   have eb : (args.map a.eval).toArray.getD i undef = (args.map a.eval).getD i undef := by simp [List.getD, hlt]
   rw [eb]; exact this
  obtain ⟨x, hx2, hall⟩ := hrun w S σ _ hv0
  refine ⟨x, hx2, fun w' _ => ?_⟩
  have hc := run_callFunc_extern (P := P) hf hname hb hn he (args.map a.eval).toArray w'
  rw [hall w'] at hc
  simp only [execOp, resolve, hz, Deferred.ofValue, Sem.run_bind, Sem.run_pure, Result.andThen_ok, invoke, List.map_toArray, Array.empty_append, Array.append_empty] at hc ⊢
  exact hc
theorem VRs.strByte {w : World} {S : Nat → Prop} {σ : Nat → Option Blk} {s : List UInt8} {b : Int} {vals : Array Value} (h : VRs w S σ [.str s, .int .u8 b] vals) : vals = #[zJs s, .int .u8 b] := by
 have _p := ‹Pins›
 obtain ⟨h1, h2⟩ := h
 have a := h2 0 (by simp)
 have b' := h2 1 (by simp)
 apply Array.ext
 ·simpa using h1
 ·intro i hi1 hi2
  have hlt : i < 2 := by simpa using hi2
  match i, hlt with
  | 0, _ =>
   simp only [List.getD_cons_zero, Array.getD, hi1, dite_true] at a
   generalize hv : vals[0] = v at *
   have hv' : vals.getInternal 0 hi1 = v := hv
   rw [hv'] at a
   cases a; rfl
  | 1, _ =>
   simp only [List.getD_cons_succ, List.getD_cons_zero, Array.getD, hi1, dite_true] at b'
   generalize hv : vals[1] = v at *
   have hv' : vals.getInternal 1 hi1 = v := hv
   rw [hv'] at b'
   cases b'; rfl
/-- internal/bytealg.IndexByteString -/
theorem zNu {g x y : Operand} {ats : Array TypeId} {f : FuncId} {fx : Func} {s : List UInt8} {b : Int} (hg : ev fr g = some (.fn f [])) (hx : ev fr x = some (.str s)) (hy : ev fr y = some (.int .u8 b))
 (hf : P.funcs[f]? = some fx) (hname : (fx.name == "runtime.NumGoroutine") = false) (hb : fx.body.isNone = true) (hn : Extern.findNext fx = none) (he : Extern.find fx = some Extern.BytealgIndexByte.indexByte) :
 QOp ind P fn c fr H ⟨d, .call { callee := .value g, args := #[x, y], argTypes := ats }, ty, pos, after, gu⟩ (.int .i64 (Lib.indexByte s b.toNat.toUInt8)) :=
 q_extern (args := [x, y]) (ags := [.str s, .int .u8 b]) hg (by simp [evs, hx, hy]) hf hname hb hn he (fun w S σ vals hv => ⟨_, .int _ _ _, fun w' => by rw [hv.strByte]; exact Lib.run_indexByteString _ _ _⟩)
end
theorem AEq.tup2 {x x' y : AV} (h : AEq x x') : AEq (.tup [x, y]) (.tup [x', y]) := by
 have _p := ‹Pins›
 intro w S σ v hv
 cases hv with
 | tup _ _ vs hl hv =>
  refine .tup _ _ _ hl (fun i hi => ?_)
  have := hv i hi
  match i, hi with
  | 0, _ => exact h _ _ _ _ this
  | 1, _ => exact this
theorem zQ.res {P : Program} {f : FuncId} {args : List AV} {H : zN} {fix : Nat → Prop} {K K' : AV → zN → Prop} (hc : zQ P f args H fix K) (hK : ∀ r H', K r H' → ∃ r', AEq r r' ∧ K' r' H') : zQ P f args H fix K' := by
 refine ⟨hc.1, fun w σ S vals h0 h1 h2 h3 => Calls.mono (hc.2 w σ S vals h0 h1 h2 h3) fun e w' he => ?_⟩
 obtain ⟨v, r, σ', S', H', g1, g2, g3, g4, g5⟩ := he
 obtain ⟨r', hr1, hr2⟩ := hK _ _ g5
 exact ⟨v, r', σ', S', H', g1, g2, hr1 _ _ _ _ g3, ⟨g4.os, g4.output, g4.tape, g4.size, g4.block, g4.S1, g4.S2, g4.fixed, g4.fixlt, g4.own⟩, hr2⟩
def AEqs : List AV → List AV → Prop
 | [], [] => True
 | x :: r, y :: q => AEq x y ∧ AEqs r q
 | _, _ => False
theorem AEqs.length : ∀ {a b : List AV}, AEqs a b → a.length = b.length
 | [], [], _ => have _p := ‹Pins›; rfl
 | _ :: r, _ :: q, h => by simp [AEqs.length h.2]
 | [], _ :: _, h => h.elim
 | _ :: _, [], h => h.elim
theorem AEqs.get : ∀ {a b : List AV}, AEqs a b → ∀ i, i < a.length → AEq (a.getD i .any) (b.getD i .any)
 | [], [], _, i, hi => by have _p := ‹Pins›; simp at hi
 | x :: r, y :: q, h, 0, _ => h.1
 | x :: r, y :: q, h, i + 1, hi => by simpa using AEqs.get h.2 i (by simpa using hi)
 | [], _ :: _, h, _, _ => h.elim
 | _ :: _, [], h, _, _ => h.elim
theorem zU.res {P : Program} {f : FuncId} {args : List AV} {r r' : AV} (hc : zU P f args r) (h : AEq r r') : zU P f args r' :=
 fun H => (hc H).res fun _ _ ⟨h1, h2⟩ => ⟨r', h1 ▸ h, rfl, h2⟩
end Go.Ax
namespace Go.Ax
variable [Pins]
open Go.RowKit
section
variable {ind : Bool} {P : Program} {fn : Func} {c : Ctx} {fr : Fr} {H : zN} {k : List It}
variable {d : Option Nat} {ty : TypeId} {pos : String} {after : Array Edge} {g : Option (Nat × Bool)}
/-- The address of an array's element (of one cell). -/
theorem zIn {x ix : Operand} {t e : TypeId} {n h i j jx : Nat} {kk : IntKind} {m : Int} (ht : P.underlying t = some (.array n e)) (hs : (P.info? e).map (·.size) = some 1) (hx : ev fr x = some (.ptr h i j)) (hi : ev fr ix = some (.int kk m)) (hj : j + m.toNat = jx) (hb : 0 ≤ m ∧ m < n) :
 QOp ind P fn c fr H ⟨d, .indexAddr t x ix, ty, pos, after, g⟩ (.ptr h i jx) := by
 intro w a σ S hr
 have h1 := hr.evAt hx
 have h2 := hr.evInt hi
 subst hj
 generalize hz : a.eval x = z at h1
 cases h1 with
 | ptr _ _ _ _ b s C hσ =>
  refine ⟨_, .ptr _ h i (j + m.toNat) b s C hσ, fun w' _ => ?_⟩
  cases hq : P.info? e with
  | none => simp [hq] at hs
  | some inf =>
   have hsz : inf.size = 1 := by simpa [hq] using hs
   simp [execOp, hz, h2, Instr.indexAt, Instr.sureAddr, asIntOf, run_underlying ht, hb, sizeOf, typeInfo, hq, hsz, Addr.add_lit, Nat.add_assoc]
theorem zNt {x ix : Operand} {t e : TypeId} {n i j jx : Nat} {cl : Cells} {kk : IntKind} {m : Int} (ht : P.underlying t = some (.array n e)) (hs : (P.info? e).map (·.size) = some 1) (hx : ev fr x = some (.rp cl i j)) (hi : ev fr ix = some (.int kk m)) (hj : j + m.toNat = jx) (hb : 0 ≤ m ∧ m < n) :
 QOp ind P fn c fr H ⟨d, .indexAddr t x ix, ty, pos, after, g⟩ (.rp cl i jx) := by
 intro w a σ S hr
 have h1 := hr.evAt hx
 have h2 := hr.evInt hi
 subst hj
 generalize hz : a.eval x = z at h1
 cases h1 with
 | rp _ _ _ _ b o val hS hc hvv h1' =>
  refine ⟨.pointer (some ⟨b, o + m.toNat, none⟩), .rp _ _ _ _ _ _ (fun e => val (m.toNat + e)) hS (fun e he => ?_) (fun e he => ?_) (fun e he => h1' _ (by omega)), fun w' _ => ?_⟩
  ·have := hc (m.toNat + e) (by omega)
   rwa [← Nat.add_assoc] at this
  ·have := hvv (m.toNat + e) (by omega)
   rwa [← Nat.add_assoc] at this
  ·cases hq : P.info? e with
   | none => simp [hq] at hs
   | some inf =>
    have hsz : inf.size = 1 := by simpa [hq] using hs
    simp [execOp, hz, h2, Instr.indexAt, Instr.sureAddr, asIntOf, run_underlying ht, hb, sizeOf, typeInfo, hq, hsz, Addr.add_lit]
/-- Reading a whole struct or array. -/
theorem zHm {x : Operand} {t : TypeId} {u : TypeDesc} {h i : Nat} {ob : AObj} {inf : TypeInfo} {L : List AV} (ht : P.underlying t = some u) (hu : zBa u = true) (hinf : P.info? t = some inf) (hsz : inf.size = ob.c.sz) (hx : ev fr x = some (.ptr h i 0)) (hh : H[h]? = some (some ob))
 (hL : (List.range ob.c.sz).map (ob.c.at i) = L) (hi : i < ob.c.len) : QOp false P fn c fr H ⟨d, .load t x, ty, pos, after, g⟩ (.agg L) := by
 intro w a σ S hr
 have h1 := hr.evAt hx
 subst hL
 generalize hz : a.eval x = z at h1
 cases h1 with
 | ptr _ _ _ _ b s C hσ =>
  obtain ⟨hs', cur, g1, g2, g3, g4, g5, g6⟩ := hr.obj hh hσ
  subst hs'
  have hcell : ∀ w' : World, w'.heap = w.heap → ∀ j, j < ob.c.sz → ∃ y, w'.cell? ⟨b, i * ob.c.sz + j, none⟩ = some y ∧ VR w S σ (ob.c.at i j) y ∧ y.oneCell' = true := by
   intro w' hw j hj
   obtain ⟨y, e1, e2, e3⟩ := g6 i j hi hj
   obtain ⟨mk, g1, _, _⟩ := g1.cells (by omega)
   exact ⟨y, by simp [World.cell?, hw, g1, e1], e2, e3⟩
  let cs : List Value := (List.range ob.c.sz).map (fun j => (w.cell? ⟨b, i * ob.c.sz + j, none⟩).getD undef)
  refine ⟨.agg cs.toArray, .agg _ _ _ (by simp [cs]) (fun j hj => ?_) (fun j hj => ?_), fun w' hw => ?_⟩
  ·have hj' : j < ob.c.sz := by simpa using hj
   obtain ⟨y, e1, e2, _⟩ := hcell w rfl j hj'
   simpa [cs, Array.getD, hj', e1, List.getD] using e2
  ·have hj' : j < ob.c.sz := by simpa using hj
   obtain ⟨y, e1, _, e3⟩ := hcell w rfl j hj'
   simpa [cs, Array.getD, hj', e1] using e3
  ·have hw := hw.resolve_left (by decide)
   have hl := run_loadCells_list (P := P) w' ⟨b, i * ob.c.sz, none⟩ cs (fun j v hv => by
    have hj : j < ob.c.sz := by simpa [cs] using (List.getElem?_eq_some_iff.1 hv).1
    obtain ⟨y, e1, _, _⟩ := hcell w rfl j hj
    simp only [cs, List.getElem?_map, List.getElem?_range hj, Option.map_some, Option.some.injEq] at hv
    subst hv
    rw [e1, Addr.add_lit]
    have := World.cell?_of_block (w := w) (w' := w') (a := ⟨b, i * ob.c.sz + j, none⟩) (by rw [hw])
    rw [this, e1]; rfl)
   have hcl : cs.length = inf.size := by simp [cs, hsz]
   rw [hcl] at hl
   have hz' : a.eval x = .pointer (some ⟨b, i * ob.c.sz, none⟩) := by rw [hz]; simp
   simp [execOp, hz', Instr.loadAt, Instr.sureAddr, loadVar, zD4 ht, hu, sizeOf, typeInfo, hinf, hl]
theorem zA9 {x : Operand} {t : TypeId} {u : TypeDesc} {i : Nat} {cl : Cells} {inf : TypeInfo} {L : List AV} (ht : P.underlying t = some u) (hu : zBa u = true) (hinf : P.info? t = some inf) (hsz : inf.size = cl.sz) (hx : ev fr x = some (.rp cl i 0))
 (hL : (List.range cl.sz).map (cl.at i) = L) : QOp false P fn c fr H ⟨d, .load t x, ty, pos, after, g⟩ (.agg L) := by
 intro w a σ S hr
 have h1 := hr.evAt hx
 subst hL
 generalize hz : a.eval x = z at h1
 cases h1 with
 | rp _ _ _ _ b o val hS hc hvv h1' =>
  let cs : List Value := (List.range cl.sz).map val
  refine ⟨.agg cs.toArray, .agg _ _ _ (by simp [cs]) (fun j hj => ?_) (fun j hj => ?_), fun w' hw => ?_⟩
  ·have hj' : j < cl.sz := by simpa using hj
   have := (hvv j (by omega)).mono (w' := w) (fun _ h => h) (fun _ _ => rfl) σ (fun _ _ h => by cases h)
   simpa [cs, Array.getD, hj', List.getD] using this
  ·have hj' : j < cl.sz := by simpa using hj
   have := h1' j (by omega)
   simpa [cs, Array.getD, hj'] using this
  ·have hw := hw.resolve_left (by decide)
   have hl := run_loadCells_list (P := P) w' ⟨b, o, none⟩ cs (fun j v hv => by
    have hj : j < cl.sz := by simpa [cs] using (List.getElem?_eq_some_iff.1 hv).1
    simp only [cs, List.getElem?_map, List.getElem?_range hj, Option.map_some, Option.some.injEq] at hv
    subst hv
    rw [Addr.add_lit]
    have := World.cell?_of_block (w := w) (w' := w') (a := ⟨b, o + j, none⟩) (by rw [hw])
    rw [this]; exact hc j (by omega))
   have hcl : cs.length = inf.size := by simp [cs, hsz]
   rw [hcl] at hl
   simp [execOp, hz, Instr.loadAt, Instr.sureAddr, loadVar, zD4 ht, hu, sizeOf, typeInfo, hinf, hl]
/-- The address of a field. -/
theorem zH {x : Operand} {s : TypeId} {fs : Array Field} {f h i j jx : Nat} {fd : Field} {inf : TypeInfo} (ht : P.underlying s = some (.struct fs)) (hf : fs[f]? = some fd) (hi : P.info? fd.type = some inf) (hne : Nat.beq inf.size 0 = false) (hx : ev fr x = some (.ptr h i j)) (hj : j + fd.offset = jx) :
 QOp ind P fn c fr H ⟨d, .fieldAddr s x f, ty, pos, after, g⟩ (.ptr h i jx) := by
 intro w a σ S hr
 have h1 := hr.evAt hx
 subst hj
 have hne' : ¬ inf.size = 0 := fun e => by rw [e] at hne; cases hne
 generalize hz : a.eval x = z at h1
 cases h1 with
 | ptr _ _ _ _ b sz C hσ =>
  refine ⟨_, .ptr _ h i (j + fd.offset) b sz C hσ, fun w' _ => ?_⟩
  simp [execOp, hz, Instr.fieldAt, run_underlying ht, hf, Instr.sureAddr, fieldPlace, sizeOf, typeInfo, hi, hne', Addr.add_lit, Nat.add_assoc]
theorem zH4 {x : Operand} {s : TypeId} {fs : Array Field} {f i j jx : Nat} {cl : Cells} {fd : Field} {inf : TypeInfo} (ht : P.underlying s = some (.struct fs)) (hf : fs[f]? = some fd) (hi : P.info? fd.type = some inf) (hne : Nat.beq inf.size 0 = false) (hx : ev fr x = some (.rp cl i j)) (hj : j + fd.offset = jx) :
 QOp ind P fn c fr H ⟨d, .fieldAddr s x f, ty, pos, after, g⟩ (.rp cl i jx) := by
 intro w a σ S hr
 have h1 := hr.evAt hx
 subst hj
 have hne' : ¬ inf.size = 0 := fun e => by rw [e] at hne; cases hne
 generalize hz : a.eval x = z at h1
 cases h1 with
 | rp _ _ _ _ b o val hS hc hvv h1' =>
  refine ⟨.pointer (some ⟨b, o + fd.offset, none⟩), .rp _ _ _ _ _ _ (fun e => val (fd.offset + e)) hS (fun e he => ?_) (fun e he => ?_) (fun e he => h1' _ (by omega)), fun w' _ => ?_⟩
  ·have := hc (fd.offset + e) (by omega)
   rwa [← Nat.add_assoc] at this
  ·have := hvv (fd.offset + e) (by omega)
   rwa [← Nat.add_assoc] at this
  ·simp [execOp, hz, Instr.fieldAt, run_underlying ht, hf, Instr.sureAddr, fieldPlace, sizeOf, typeInfo, hi, hne', Addr.add_lit]
/-- A pointer that is not nil. -/
theorem zd {x : Operand} {h i j : Nat} (hx : ev fr x = some (.ptr h i j)) : QOp ind P fn c fr H ⟨d, .nilCheck x, ty, pos, after, g⟩ (.ptr h i j) := by
 intro w a σ S hr
 have h1 := hr.evAt hx
 generalize hz : a.eval x = z at h1
 cases h1 with
 | ptr _ _ _ _ b s C hσ => exact ⟨_, .ptr _ h i j b s C hσ, fun w' _ => by simp [execOp, hz]⟩
theorem zLI {x : Operand} {cl : Cells} {i j : Nat} (hx : ev fr x = some (.rp cl i j)) : QOp ind P fn c fr H ⟨d, .nilCheck x, ty, pos, after, g⟩ (.rp cl i j) := by
 intro w a σ S hr
 have h1 := hr.evAt hx
 generalize hz : a.eval x = z at h1
 cases h1 with
 | rp _ _ _ _ b o val hS hc hvv h1' => exact ⟨_, .rp _ _ _ _ _ _ val hS hc hvv h1', fun w' _ => by simp [execOp, hz]⟩
/-- A store of a whole struct or array. -/
theorem zz {all : Array Oper} {t : TypeId} {x y : Operand} {ty : TypeId} {pos : String} {after : Array Edge} {rest : List Oper} {h i : Nat} {ob : AObj} {L : List AV} {c' : Cells}
 (hx : ev fr x = some (.ptr h i 0)) (hy : ev fr y = some (.agg L)) (hs : (P.info? t).map (·.size) = some ob.c.sz) (hh : H[h]? = some (some ob)) (hl : L.length = ob.c.sz) (hi : i < ob.c.len)
 (h1 : c'.len = ob.c.len) (h2 : c'.sz = ob.c.sz) (h3 : ∀ i' j', i' < ob.c.len → j' < ob.c.sz → c'.at i' j' = if i' = i then L.getD j' .any else ob.c.at i' j')
 (hk : Ax P fn c (.ops false all rest k) fr (H.set h (some ⟨ob.ty, c'⟩))) (hz0 : ob.c.sz ≠ 0 := by (intro hh; cases hh)) : Ax P fn c (.ops false all (⟨none, .store t x y, ty, pos, after, none⟩ :: rest) k) fr H := by
 refine ax_w0 (fun w a σ S hr => ?_) hk
 have e1 := hr.evAt hx
 have e2 := hr.evAt hy
 generalize hz : a.eval x = z at e1
 generalize hzy : a.eval y = u at e2
 cases e2 with
 | agg _ _ vs hvl hvv hv1 =>
  cases e1 with
  | ptr _ _ _ _ b s C hσ =>
   obtain ⟨hs', cur, g1, g2, g3, g4, g5, g6⟩ := hr.obj hh hσ
   subst hs'
   obtain ⟨mk, g1, hmk, hrow⟩ := g1.cells hz0
   have hfit : i * ob.c.sz + ob.c.sz ≤ cur.size := by
    rw [g2]
    have : (i + 1) * ob.c.sz ≤ C * ob.c.sz := Nat.mul_le_mul_right _ (by omega)
    rw [Nat.add_mul] at this; omega
   have hvsz : vs.size = ob.c.sz := by rw [hvl, hl]
   have hst := zB9 P b (i * ob.c.sz) ob.ty mk vs.toList 0 cur w g1 hmk (by simp [hvsz]; exact hfit) (fun v hv => by
    obtain ⟨j, hj, rfl⟩ := List.getElem_of_mem hv
    have hj' : j < vs.size := by simpa using hj
    have := hv1 j (by rw [← hvl]; exact hj')
    simpa [Array.getD, hj'] using this)
   simp only [Nat.add_zero] at hst
   generalize hcur : (cur.toList.take (i * ob.c.sz) ++ vs.toList ++ cur.toList.drop (i * ob.c.sz + vs.toList.length)).toArray = cur' at hst
   have hlen' : cur'.size = cur.size := by rw [← hcur]; simp [hvsz]; omega
   have hat : ∀ p, p < cur.size → cur'[p]? = if i * ob.c.sz ≤ p ∧ p < i * ob.c.sz + ob.c.sz then vs[p - i * ob.c.sz]? else cur[p]? := by
    intro p hp
    rw [← hcur]
    simp only [List.getElem?_toArray, List.append_assoc]
    by_cases c1 : p < i * ob.c.sz
    ·rw [List.getElem?_append_left (by simp; omega), List.getElem?_take, if_pos c1, if_neg (by omega)]; simp
    ·rw [List.getElem?_append_right (by simp; omega)]
     have ht : (cur.toList.take (i * ob.c.sz)).length = i * ob.c.sz := by simp; omega
     rw [ht]
     by_cases c2 : p < i * ob.c.sz + ob.c.sz
     ·rw [List.getElem?_append_left (by simp [hvsz]; omega), if_pos ⟨by omega, c2⟩]; simp
     ·rw [List.getElem?_append_right (by simp [hvsz]; omega), if_neg (by omega)]
      simp only [Array.length_toList, hvsz, List.getElem?_drop, Array.getElem?_toList]
      congr 1; omega
   refine ⟨w.setRow b cur', σ, S, ?_, hr.setRow hh hσ hrow h2 (by omega) (by rw [hlen', g2]) (fun i' j' hi' hj' => ?_)⟩
   ·simp only [Nat.add_zero] at hz
    simp only [execOp, hz, hzy, Instr.storeAt, Instr.sureAddr, storeVar, Sem.run_bind, Sem.run_pure, Result.andThen_ok, zMv hs, Value.cells, hvsz]
    simp [hst]
   ·rw [h1] at hi'
    rw [h2] at hj' ⊢
    rw [h3 i' j' hi' hj']
    have hp : i' * ob.c.sz + j' < cur.size := by
     rw [g2]
     have : (i' + 1) * ob.c.sz ≤ C * ob.c.sz := Nat.mul_le_mul_right _ (by omega)
     rw [Nat.add_mul] at this; omega
    rw [hat _ hp]
    by_cases he : i' = i
    ·subst he
     rw [if_pos rfl, if_pos ⟨by omega, by omega⟩]
     have hjv : j' < vs.size := by omega
     refine ⟨vs.getD j' undef, by simp [Array.getD, hjv], hvv j' (by omega), hv1 j' (by omega)⟩
    ·rw [if_neg he]
     have hne : ¬ (i * ob.c.sz ≤ i' * ob.c.sz + j' ∧ i' * ob.c.sz + j' < i * ob.c.sz + ob.c.sz) := by
      rintro ⟨q1, q2⟩
      rcases Nat.lt_or_gt_of_ne he with hlt | hlt
      ·have : (i' + 1) * ob.c.sz ≤ i * ob.c.sz := Nat.mul_le_mul_right _ hlt
       rw [Nat.add_mul] at this; omega
      ·have : (i + 1) * ob.c.sz ≤ i' * ob.c.sz := Nat.mul_le_mul_right _ hlt
       rw [Nat.add_mul] at this; omega
     rw [if_neg hne]
     exact g6 i' j' hi' hj'
end
end Go.Ax
namespace Go.Ax
variable [Pins]
open Go.RowKit
section
variable {P : Program} {fn : Func} {c : Ctx} {fr : Fr} {H : zN} {k : List It}
theorem zI5 {w : World} {a : Act} {σ : Nat → Option Blk} {S : Nat → Prop} {n : Nat} (hr : Rep c w a σ S n fr H) {all : Array Oper} {d : Option Nat} {op : Op} {ty : TypeId} {pos : String} {after : Array Edge} {j t : Nat} {p : Bool}
 (hy : zEe all j = some t) (hb : look t fr = some (.tup [])) : Region.wanted ⟨d, op, ty, pos, after, some (j, p)⟩ (yielded all a.tmps) = false := by
 obtain ⟨h1, h2⟩ := hr.slots t _ hb
 have h3 : t < a.tmps.size := by rw [hr.size]; exact h1
 generalize hz : a.tmps.getD t undef = z at h2
 cases h2
 rename_i vs hl hv
 have h4 : a.tmps[t]? = some (.tuple vs) := by
  simp only [Array.getD, h3, dite_true] at hz
  simp only [Array.getElem?_eq_getElem h3]
  exact congrArg some hz
 unfold zEe at hy
 simp only [Region.wanted, yielded, hy, Option.bind_some, h4]
 cases p <;> rfl
theorem zI4 {w : World} {S : Nat → Prop} {σ : Nat → Option Blk} : VR w S σ (.tup []) undef := have _p := ‹Pins›; .tup _ _ _ rfl (fun i hi => absurd hi (Nat.not_lt_zero _))
/-- An operation that is passed over leaves nothing in its slot. -/
theorem zCO {q : Bool} {all : Array Oper} {d : Nat} {op : Op} {ty : TypeId} {pos : String} {after : Array Edge} {rest : List Oper} {j t : Nat} {p b : Bool}
 (hy : zEe all j = some t) (hb : look t fr = some (.bool b)) (hne : (b == p) = false) (h : Ax P fn c (.ops q all rest k) ((d, .tup []) :: fr) H) : Ax P fn c (.ops q all (⟨some d, op, ty, pos, after, some (j, p)⟩ :: rest) k) fr H := by
 cases q with
 | false =>
  intro hd w a σ S hr
  obtain ⟨hd1, hd2⟩ := zCI hd
  simp only [wpList, zHd hr hy hb, hne, Bool.false_eq_true, if_false]
  exact h hd2 w _ σ S (hr.put zI4 (hd1 d Z))
 | true =>
  intro hd w a σ S hr
  obtain ⟨hd1, hd2⟩ := zCI hd
  simp only [wpQuiet, zHd hr hy hb, hne, Bool.false_eq_true, if_false]
  exact h hd2 w _ σ S (hr.put zI4 (hd1 d Z))
theorem zFb {q : Bool} {all : Array Oper} {d : Nat} {op : Op} {ty : TypeId} {pos : String} {after : Array Edge} {rest : List Oper} {j t : Nat} {p : Bool}
 (hy : zEe all j = some t) (hb : look t fr = some (.tup [])) (h : Ax P fn c (.ops q all rest k) ((d, .tup []) :: fr) H) : Ax P fn c (.ops q all (⟨some d, op, ty, pos, after, some (j, p)⟩ :: rest) k) fr H := by
 cases q with
 | false =>
  intro hd w a σ S hr
  obtain ⟨hd1, hd2⟩ := zCI hd
  simp only [wpList, zI5 hr hy hb, Bool.false_eq_true, if_false]
  exact h hd2 w _ σ S (hr.put zI4 (hd1 d Z))
 | true =>
  intro hd w a σ S hr
  obtain ⟨hd1, hd2⟩ := zCI hd
  simp only [wpQuiet, zI5 hr hy hb, Bool.false_eq_true, if_false]
  exact h hd2 w _ σ S (hr.put zI4 (hd1 d Z))
end
end Go.Ax
namespace Go.Ax
variable [Pins]
open Go.RowKit
section
variable {P : Program} {fn : Func} {c : Ctx} {fr : Fr} {H : zN} {k : List It}
end
end Go.Ax
namespace Go.Ax
variable [Pins]
mutual
def zCB (n : Nat) : AV → Bool
 | .sl h _ _ => Nat.blt h n
 | .ptr h _ _ => Nat.blt h n
 | .fn _ l => zER n l
 | .agg l => zER n l
 | .tup l => zER n l
 | .mp h => Nat.blt h n
 | _ => true
def zER (n : Nat) : List AV → Bool
 | [] => true
 | v :: r => zCB n v && zER n r
end
theorem zE4 {n : Nat} {l : List AV} (h : zER n l = true) (i : Nat) (hi : i < l.length) : zCB n (l.getD i .any) = true := by
 have _p := ‹Pins›
 induction l generalizing i with
 | nil => simp at hi
 | cons v r ih =>
  simp only [zER, Bool.and_eq_true] at h
  cases i with
  | zero => exact h.1
  | succ i => simpa using ih h.2 i (by simpa using hi)
theorem VR.cutv {w : World} {S : Nat → Prop} {σ : Nat → Option Blk} {n : Nat} {x : AV} {v : Value} (h : VR w S σ x v) : zCB n x = true → ∀ σ' : Nat → Option Blk, (∀ h, h < n → σ' h = σ h) → VR w S σ' x v := by
 induction h with
 | int => intros; constructor
 | bool => intros; constructor
 | str => intros; constructor
 | nil => intros; constructor
 | ro0 => intros; constructor
 | ro σ c i len b o cap val hSb hlen hc hv h1 ih => intro _ σ' _; exact .ro _ _ _ _ _ _ _ val hSb hlen hc hv h1
 | sl σ h i len b s C cap hσ hlen hcap => intro hb σ' hs; exact .sl _ _ _ _ _ _ _ _ (by rw [hs h (Nat.le_of_ble_eq_true hb)]; exact hσ) hlen hcap
 | sl0 σ h hσ => intro hb σ' hs; exact .sl0 _ _ (by rw [hs h (Nat.le_of_ble_eq_true hb)]; exact hσ)
 | rp σ c i j b o val hSb hc hv h1 ih => intro _ σ' _; exact .rp _ _ _ _ _ _ val hSb hc hv h1
 | ptr σ h i j b s C hσ => intro hb σ' hs; exact .ptr _ _ _ _ _ _ _ (by rw [hs h (Nat.le_of_ble_eq_true hb)]; exact hσ)
 | nilp => intros; constructor
 | fn σ f cap vs hl hv ih => intro hn σ' hs; exact .fn _ _ _ _ hl (fun i hi => ih i hi (zE4 hn i hi) _ hs)
 | nilfn => intros; constructor
 | iface => intros; constructor
 | nilif => intros; constructor
 | agg σ l vs hl hv h1 ih => intro hn σ' hs; exact .agg _ _ _ hl (fun i hi => ih i hi (zE4 hn i hi) _ hs) h1
 | tup σ l vs hl hv ih => intro hn σ' hs; exact .tup _ _ _ hl (fun i hi => ih i hi (zE4 hn i hi) _ hs)
 | mp σ h b hσ => intro hb σ' hs; exact .mp _ _ _ (by rw [hs h (Nat.le_of_ble_eq_true hb)]; exact hσ)
 | rom σ ks vs b es clock e hSb hb hn hl hd he hk hv => intro _ σ' _; exact .rom _ _ _ b es clock e hSb hb hn hl hd he hk hv
 | any => intros; constructor
theorem Lays.cutv {w : World} {S : Nat → Prop} {σ σ' : Nat → Option Blk} {o : AObj} {b : Nat} {cur : Array Value} {C n : Nat} (h : Lays w S σ o b cur C) (hc : ∀ ks vs, o.c = .mp ks vs → zER n ks = true ∧ zER n vs = true) (hs : ∀ h, h < n → σ' h = σ h) : Lays w S σ' o b cur C := by
 have _p := ‹Pins›
 cases h with
 | row mk h hm hC => exact .row mk h hm hC
 | map ks vs es clock hc' hC h hn hl hd he =>
  obtain ⟨b1, b2⟩ := hc ks vs hc'
  exact .map ks vs es clock hc' hC h hn hl hd (fun i hi => let ⟨e, e1, e2, e3⟩ := he i hi; ⟨e, e1, e2.cutv (zE4 b1 i hi) _ hs, e3.cutv (zE4 b2 i (by omega)) _ hs⟩)
def zDO (n : Nat) : Fr → Bool
 | [] => true
 | (_, v) :: r => zCB n v && zDO n r
theorem zOZ {n : Nat} {fr : Fr} (hb : zDO n fr = true) {t : Nat} {v : AV} (hl : look t fr = some v) : zCB n v = true := by
 have _p := ‹Pins›
 induction fr with
 | nil => simp [look] at hl
 | cons p r ih =>
  obtain ⟨u, x⟩ := p
  simp only [zDO, Bool.and_eq_true] at hb
  simp only [look] at hl
  cases hq : Nat.beq t u with
  | true => rw [hq] at hl; simp at hl; subst hl; exact hb.1
  | false => rw [hq] at hl; exact ih hb.2 (by simpa using hl)
def cutσ (n : Nat) (σ : Nat → Option Blk) (h : Nat) : Option Blk := if h < n then σ h else none
section
variable {P : Program} {fn : Func} {c : Ctx} {fr : Fr} {H : zN} {k : List It}
/-- The same memory, its cells told otherwise. -/
theorem Rep.heapA {w : World} {a : Act} {σ : Nat → Option Blk} {S : Nat → Prop} {n : Nat} {H' : zN} (hr : Rep c w a σ S n fr H) (hlen : H'.length = H.length)
 (hs : ∀ (h : Nat) (o' : AObj), H'[h]? = some (some o') → ∃ o : AObj, H[h]? = some (some o) ∧ o'.ty = o.ty ∧ o'.c.len = o.c.len ∧ o'.c.kd = o.c.kd ∧ ∀ i j, i < o.c.len → j < o.c.sz → AEq (o.c.at i j) (o'.c.at i j)) : Rep c w a σ S n fr H' := by
 refine ⟨⟨fun h o' ho => ?_, fun h h' o o' b s C s' C' q1 q2 e1 e2 => ?_, hr.hr.small, fun h hl => hr.hr.dom h (by rw [← hlen]; exact hl)⟩, ⟨hr.kp.os, hr.kp.output, hr.kp.tape, hr.kp.size, hr.kp.block, hr.kp.S1, hr.kp.S2, hr.kp.fixed, fun h hf => by rw [hlen]; exact hr.kp.fixlt h hf, fun h o b s C q e => ?_⟩, hr.defers, hr.size, hr.slots⟩
 ·obtain ⟨o, h1, h2, h3, h4, h5⟩ := hs h o' ho
  rw [h3, zLm h4]
  rcases hr.hr.live h o h1 with g | ⟨b, C, cur, g1, g2, g3, g4, g5, g6, g7⟩
  ·exact .inl g
  ·refine .inr ⟨b, C, cur, g1, g2.kd h2 h4, g3, g4, g5, g6, fun i j hi hj => ?_⟩
   obtain ⟨v, k1, k2, k3⟩ := g7 i j hi hj
   exact ⟨v, k1, h5 i j hi hj _ _ _ _ k2, k3⟩
 ·obtain ⟨p, h1, _⟩ := hs h o q1
  obtain ⟨p', h1', _⟩ := hs h' o' q2
  exact hr.hr.dist h h' p p' b s C s' C' h1 h1' e1 e2
 ·obtain ⟨p, h1, _⟩ := hs h o q
  exact hr.kp.own h p b s C h1 e
theorem zGG {all : Array Oper} {rest : List Oper} (H' : zN) (hlen : H'.length = H.length) (hs : ∀ (h : Nat) (o' : AObj), H'[h]? = some (some o') → ∃ o : AObj, H[h]? = some (some o) ∧ o'.ty = o.ty ∧ o'.c.len = o.c.len ∧ o'.c.kd = o.c.kd ∧ ∀ i j, i < o.c.len → j < o.c.sz → AEq (o.c.at i j) (o'.c.at i j))
 (hk : Ax P fn c (.ops false all rest k) fr H') : Ax P fn c (.ops false all rest k) fr H := fun hd w a σ S hr => hk hd w a σ S (hr.heapA hlen hs)
end
/-- Any contract, at arguments told otherwise. -/
theorem zQ.args {P : Program} {f : FuncId} {ags ags' : List AV} {H : zN} {fix : Nat → Prop} {K : AV → zN → Prop} (hc : zQ P f ags' H fix K) (h : AEqs ags ags') : zQ P f ags H fix K := by
 unfold zQ at hc ⊢
 refine ⟨hc.1, fun w σ S vals hp hr hf hv => hc.2 w σ S vals hp hr hf ⟨hv.1.trans h.length, fun j hj => ?_⟩⟩
 rw [← h.length] at hj
 exact h.get j hj _ _ _ _ (hv.2 j hj)
end Go.Ax
namespace Go.Ax
variable [Pins]
theorem zU.lendS {P : Program} {f : FuncId} {args args' : List AV} {r : AV} {H HL : zN} (hc : zU P f args r) (hsub : subH HL H) (hrl : ∀ (h : Nat) (o : AObj), HL[h]? = some (some o) → zAd o.c) (hlend : AV.frzs HL args' = args) (hin : zJJ HL args') (hn : noRef.noRefs args = true) (hr : noRef r = true) (hfl : flat r = true) :
 zQ P f args' H (fun h => h < H.length) (fun r' H' => r' = r ∧ H' = H) := by
 refine zQ.over (hc []) (fun h hh => by simp at hh) hsub hrl hlend hin hn ?_
 rintro r0 H0 ⟨rfl, rfl⟩
 have hk : r0.keep [] 0 H.length = r0 := zU.lend.keep_noRef hr
 refine ⟨zU.lend.inB_noRef hr, fun h o ho => by simp at ho, 0, ⟨0, .ints .i64 []⟩, .inl ⟨Nat.le_refl _, ⟨hk, Z⟩, .inr (by rw [hk]; exact hfl)⟩⟩
def zAz (n : Nat) : Cells → Prop
 | .mp ks vs => zER n ks = true ∧ zER n vs = true
 | c => ∀ i j, i < c.len → j < c.sz → zCB n (c.at i j) = true
theorem zAz.row {n : Nat} {c : Cells} (h : zAz n c) : ∀ i j, i < c.len → j < c.sz → zCB n (c.at i j) = true := by
 have _p := ‹Pins›
 cases c <;> first | exact h | exact fun i j hi => absurd hi (Nat.not_lt_zero _)
theorem zAz.mp {n : Nat} {c : Cells} (h : zAz n c) {ks vs : List AV} (hc : c = .mp ks vs) : zER n ks = true ∧ zER n vs = true := by have _p := ‹Pins›; subst hc; exact h
theorem Rep.cutP {c : Ctx} {w : World} {a : Act} {σ : Nat → Option Blk} {S : Nat → Prop} {n : Nat} {fr : Fr} {H H0 H1 : zN} (hr : Rep c w a σ S n fr H) (hH : H = H0 ++ H1) (hf : ∀ h, c.fix h → h < H0.length)
 (hbH : ∀ (h : Nat) (o : AObj), H0[h]? = some (some o) → zAz H0.length o.c) (hbF : zDO H0.length fr = true) : Rep c w a (cutσ H0.length σ) S n fr H0 := by
 subst hH
 have hs : ∀ h, h < H0.length → cutσ H0.length σ h = σ h := fun h hl => if_pos hl
 have hget : ∀ {h : Nat} {o : AObj}, H0[h]? = some (some o) → h < H0.length ∧ (H0 ++ H1)[h]? = some (some o) := by
  intro h o ho
  have hl : h < H0.length := (List.getElem?_eq_some_iff.1 ho).1
  exact ⟨hl, by rw [List.getElem?_append_left hl]; exact ho⟩
 refine ⟨⟨fun h o ho => ?_, fun h h' o o' b s C s' C' q1 q2 e1 e2 => ?_, hr.hr.small, fun h hl => if_neg (by omega)⟩, ⟨hr.kp.os, hr.kp.output, hr.kp.tape, hr.kp.size, hr.kp.block, hr.kp.S1, hr.kp.S2, fun h hh => by rw [hs h (hf h hh)]; exact hr.kp.fixed h hh, hf, fun h o b s C q e => ?_⟩, hr.defers, hr.size, fun t v hl => ⟨(hr.slots t v hl).1, (hr.slots t v hl).2.cutv (zOZ hbF hl) _ hs⟩⟩
 ·obtain ⟨hl, ho'⟩ := hget ho
  rw [hs h hl]
  rcases hr.hr.live h o ho' with g | ⟨b, C, cur, g1, g2, g3, g4, g5, g6, g7⟩
  ·exact .inl g
  ·refine .inr ⟨b, C, cur, g1, g2.cutv (fun ks vs hc => (hbH h o ho).mp hc) hs, g3, g4, g5, g6, fun i j hi hj => ?_⟩
   obtain ⟨v, k1, k2, k3⟩ := g7 i j hi hj
   exact ⟨v, k1, k2.cutv ((hbH h o ho).row i j hi hj) _ hs, k3⟩
 ·obtain ⟨hl, ho⟩ := hget q1
  obtain ⟨hl', ho'⟩ := hget q2
  rw [hs h hl] at e1
  rw [hs h' hl'] at e2
  exact hr.hr.dist h h' o o' b s C s' C' ho ho' e1 e2
 ·obtain ⟨hl, ho⟩ := hget q
  rw [hs h hl] at e
  exact hr.kp.own h o b s C ho e
section
variable {P : Program} {fn : Func} {c : Ctx} {fr : Fr} {H : zN} {k : List It}
theorem zA3 {x : Code} (H0 H1 : zN) (L : Fr) (hH : H = H0 ++ H1) (hL : zCE fr L) (hf : ∀ h, c.fix h → h < H0.length) (hbH : ∀ (h : Nat) (o : AObj), H0[h]? = some (some o) → zAz H0.length o.c) (hbF : zDO H0.length L = true)
 (hk : Ax P fn c (.code x k) L H0) : Ax P fn c (.code x k) fr H :=
 fun w a σ S hr => hk w a _ S ((hr.weaken hL).cutP hH hf hbH hbF)
/-- A call that reads some of the walk's own objects. -/
theorem zQl {all : Array Oper} {d : Nat} {g : Operand} {f : FuncId} {args : List Operand} {ats : Array TypeId} {ty : TypeId} {pos : String} {after : Array Edge} {rest : List Oper} {caps ags ags' ags'' : List AV} {r : AV} (HL : zN) (hg : ev fr g = some (.fn f caps)) (ha : evs fr args = some ags) (has : ags ++ caps = ags') (hl : AV.frzs HL ags' = ags'') (hcall : zU P f ags'' r) (hsub : subH HL H) (hrl : ∀ (h : Nat) (o : AObj), HL[h]? = some (some o) → zAd o.c) (hin : zJJ HL ags') (hn : noRef.noRefs ags'' = true) (hr : noRef r = true) (hfl : flat r = true)
 (hk : Ax P fn c (.ops false all rest k) ((d, r) :: fr) H) : Ax P fn c (.ops false all (⟨some d, .call { callee := .value g, args := args.toArray, argTypes := ats }, ty, pos, after, none⟩ :: rest) k) fr H :=
 zHH hg ha has (zU.lendS hcall hsub hrl hl hin hn hr hfl) (fun _ h => h) (fun _ h => h) (fun r' H' h => by obtain ⟨rfl, rfl⟩ := h; exact hk)
variable {ind : Bool} {d : Option Nat} {t t' ty : TypeId} {pos : String} {after : Array Edge} {g : Option (Nat × Bool)}
/-- Words of bits. -/
def andB (k : IntKind) (m n : Int) : Int := k.wrap ((BitVec.ofInt k.bits m &&& BitVec.ofInt k.bits n).toNat : Int)
def orB (k : IntKind) (m n : Int) : Int := k.wrap ((BitVec.ofInt k.bits m ||| BitVec.ofInt k.bits n).toNat : Int)
def shrB (k : IntKind) (m n : Int) : Int := m.fdiv (2 ^ (min n.toNat k.bits))
def shlB (k : IntKind) (m n : Int) : Int := k.wrap (m * 2 ^ (min n.toNat k.bits))
theorem q_and {x y : Operand} {k : IntKind} {m n : Int} (hx : ev fr x = some (.int k m)) (hy : ev fr y = some (.int k n)) :
 QOp ind P fn c fr H ⟨d, .binOp .and t x y t', ty, pos, after, g⟩ (.int k (andB k m n)) := by
 intro w a σ S hr
 have h1 := hr.evInt hx
 have h2 := hr.evInt hy
 refine ⟨_, .int _ _ _, fun w' _ => ?_⟩
 simp [execOp, h1, h2, zAG, binOp, Op.intBits, andB]
theorem q_or {x y : Operand} {k : IntKind} {m n : Int} (hx : ev fr x = some (.int k m)) (hy : ev fr y = some (.int k n)) :
 QOp ind P fn c fr H ⟨d, .binOp .or t x y t', ty, pos, after, g⟩ (.int k (orB k m n)) := by
 intro w a σ S hr
 have h1 := hr.evInt hx
 have h2 := hr.evInt hy
 refine ⟨_, .int _ _ _, fun w' _ => ?_⟩
 simp [execOp, h1, h2, zAG, binOp, Op.intBits, orB]
theorem q_shr {x y : Operand} {k k' : IntKind} {m n : Int} (hx : ev fr x = some (.int k m)) (hy : ev fr y = some (.int k' n)) (hn : 0 ≤ n) :
 QOp ind P fn c fr H ⟨d, .binOp .shr t x y t', ty, pos, after, g⟩ (.int k (shrB k m n)) := by
 intro w a σ S hr
 have h1 := hr.evInt hx
 have h2 := hr.evInt hy
 refine ⟨_, .int _ _ _, fun w' _ => ?_⟩
 have h3 : ¬ n < 0 := by omega
 simp [execOp, h1, h2, zAG, binOp, Op.shift, shrB, h3]
theorem q_shl {x y : Operand} {k k' : IntKind} {m n : Int} (hx : ev fr x = some (.int k m)) (hy : ev fr y = some (.int k' n)) (hn : 0 ≤ n) :
 QOp ind P fn c fr H ⟨d, .binOp .shl t x y t', ty, pos, after, g⟩ (.int k (shlB k m n)) := by
 intro w a σ S hr
 have h1 := hr.evInt hx
 have h2 := hr.evInt hy
 refine ⟨_, .int _ _ _, fun w' _ => ?_⟩
 have h3 : ¬ n < 0 := by omega
 simp [execOp, h1, h2, zAG, binOp, Op.shift, shlB, h3]
end
end Go.Ax
namespace Go.Ax
variable [Pins]
open Go.RowKit
section
variable {P : Program} {fn : Func} {c : Ctx} {fr : Fr} {H : zN} {k : List It} {ind : Bool} {d : Option Nat} {ty : TypeId} {pos : String} {after : Array Edge} {g : Option (Nat × Bool)}
end
end Go.Ax
namespace Go.Ax
variable [Pins]
open Go.ChangeShapes Go.WideShapes Go.ChangeAt Go.RowKit
section
variable {H : Type} {enc : TypeId × Value → H} {P : Program} {W : World}
abbrev allS (W : World) : Nat → Prop := fun b => b < W.heap.size
/-- One after the other, cells are told by abstract values. -/
def zHq (W : World) (l : List AV) (cs : List Value) : Prop :=
 l.length = cs.length ∧ ∀ i, i < cs.length → VR W (allS W) (fun _ => none) (l.getD i .any) (cs.getD i undef) ∧ (cs.getD i undef).oneCell' = true
/-- A reader: type t, n cells, told by e of some a that is ok. -/
def Rd {α : Type} (enc : TypeId × Value → H) (P : Program) (W : World) (t : TypeId) (n : Nat) (e : α → List AV) (ok : α → Prop) : Prop :=
 ∀ fuel cs x, DataW.trod enc P W 0 (fun _ => true) true fuel t cs = some x → ∃ a, ok a ∧ cs.length = n ∧ zHq W (e a) cs
theorem zMR {W : World} {v : AV} {c : Value} (h : VR W (allS W) (fun _ => none) v c) (h1 : c.oneCell' = true) : zHq W [v] [c] := by
 have _p := ‹Pins›
 refine ⟨Z, fun i hi => ?_⟩
 have : i = 0 := by simpa using hi
 subst this
 exact ⟨h, h1⟩
theorem Rd.str {t : TypeId} (ht : P.underlying t = some .string) : Rd enc P W t 1 (fun s : List UInt8 => [AV.str s]) (fun s => s.length ≤ 9223372036854775807) := by
 intro fuel cs x h
 obtain ⟨s, rfl, _, hs⟩ := DataW.trod_string ht h
 have e : Value.string s = zJs s.data.toList := by
  show Value.string s = Value.string ⟨s.data.toList.toArray⟩
  rw [Array.toArray_toList]
 refine ⟨s.data.toList, ?_, Z, ?_⟩
 ·unfold maxLen at hs; simpa using hs
 ·rw [e]; exact zMR (.str _ _) rfl
/-- The row that a list's elements make, each of n cells. -/
def rowE {α : Type} (d : α) (n : Nat) (e : α → List AV) (l : List α) : Cells := .fn l.length n (fun i j => (e (l.getD i d)).getD j .any)
theorem Rd.slice {α : Type} {t t' : TypeId} {n : Nat} {e : α → List AV} {ok : α → Prop} (d : α) (ht : P.underlying t = some (.slice t')) (hc : P.cellsOf t' = n) (hn : Nat.blt 0 n = true) (h : Rd enc P W t' n e ok) :
 Rd enc P W t 1 (fun l : List α => [AV.ro (rowE d n e l) 0 l.length]) (fun l => l.length ≤ 9223372036854775807 ∧ ∀ a ∈ l, ok a) := by
 have hn := Nat.le_of_ble_eq_true hn
 intro fuel cs x hx
 rcases DataW.trod_slice ht hx with ⟨rfl, _⟩ | ⟨a, len, cap, elems, rest, m, _, rfl, _, _, hl, hm, hlen, hel, _, _⟩
 ·exact ⟨[], ⟨Nat.zero_le _, fun a ha => by simp at ha⟩, Z, zMR (.ro0 _ _ _ _ _) Z⟩
 subst hc
 have each : ∀ i, i < len → ∃ z : α × List Value, ok z.1 ∧ W.cells? 0 (a.add (i * P.cellsOf t')) (P.cellsOf t') = some z.2 ∧ zHq W (e z.1) z.2 := by
  intro i hi
  have h1 := hel i hi
  have h2 : elems[i]? = some (elems[i]'(by omega)) := List.getElem?_eq_getElem _
  rw [h2, Option.bind_eq_some_iff] at h1
  obtain ⟨cs', hcs, hy⟩ := h1
  obtain ⟨z, hz, hzl, hzr⟩ := h _ _ _ hy
  exact ⟨(z, cs'), hz, hcs, hzr⟩
 cases len with
 | zero => exact ⟨[], ⟨Nat.zero_le _, fun a ha => by simp at ha⟩, rfl, zMR (.ro0 _ _ _ _ _) rfl⟩
 | succ len =>
  have ha : a = ⟨a.block, a.off, none⟩ ∧ a.block < W.heap.size := by
   obtain ⟨z, _, hcs, _⟩ := each 0 (Nat.succ_pos _)
   obtain ⟨_, hl2, hce⟩ := World.cells?_some hcs
   have h0 := hce 0 hn
   have hz0 : z.2[0]? = some (z.2[0]'(by omega)) := List.getElem?_eq_getElem _
   rw [hz0] at h0
   simp only [Nat.zero_mul] at h0
   have e0 : ∀ q : Addr, q.add 0 = q := by intro q; simp [Addr.add]
   rw [e0, e0] at h0
   have hsp : a = ⟨a.block, a.off, none⟩ := by
    have hb := h0
    unfold World.cell? at hb
    split at hb
    ·cases hsp : a.spot with
     | none => cases a; simp_all
     | some s => simp [hsp] at hb
    ·cases hb
   refine ⟨hsp, ?_⟩
   rcases Nat.lt_or_ge a.block W.heap.size with hh | hh
   ·exact hh
   ·rw [hsp] at h0
    unfold World.cell? at h0
    have : W.heap[a.block]? = none := by simp [hh]
    simp [this] at h0
  let f : Nat → α × List Value := fun i => if hi : i < len + 1 then Classical.choose (each i hi) else (d, [])
  have hf : ∀ i, i < len + 1 → ok (f i).1 ∧ W.cells? 0 (a.add (i * P.cellsOf t')) (P.cellsOf t') = some (f i).2 ∧ zHq W (e (f i).1) (f i).2 := by
   intro i hi
   have := Classical.choose_spec (each i hi)
   simp only [f, hi, dite_true]
   exact this
  let l : List α := (List.range (len + 1)).map (fun i => (f i).1)
  have hll : l.length = len + 1 := by simp [l]
  have hlg : ∀ i, i < len + 1 → l.getD i d = (f i).1 := by intro i hi; simp [l, List.getD, hi]
  refine ⟨l, ⟨by unfold maxLen at hm; omega, fun b hb => ?_⟩, Z, ?_⟩
  ·obtain ⟨i, hi, rfl⟩ := List.mem_map.1 hb
   exact (hf i (List.mem_range.1 hi)).1
  ·refine zMR ?_ Z
   rw [ha.1, hll]
   refine .ro _ _ _ _ _ _ _ (fun i j => (f i).2.getD j undef) ha.2 hl (fun i j hi hj => ?_) (fun i j hi hj => ?_) (fun i j hi hj => ?_)
   all_goals
    obtain ⟨g1, g2, g3, g4⟩ := hf i hi
    obtain ⟨_, q2, q3⟩ := World.cells?_some g2
    have hj' : j < (f i).2.length := by rw [q2]; exact hj
   ·have h3 := q3 j hj
    rw [List.getElem?_eq_getElem hj'] at h3
    rw [ha.1, add_plain, add_plain] at h3
    show W.cell? ⟨a.block, a.off + i * P.cellsOf t' + j, none⟩ = some ((f i).2.getD j undef)
    rw [h3, List.getD, List.getElem?_eq_getElem hj']; rfl
   ·show VR W (allS W) (fun _ => none) ((e (l.getD (0 + i) d)).getD j .any) _
    rw [Nat.zero_add, hlg i hi]
    exact (g4 j hj').1
   ·exact (g4 j hj').2
/-- The same, told by another list of abstract values. -/
theorem zHq.conv {l l' : List AV} {cs : List Value} (h : zHq W l cs) (hl : l'.length = l.length) (he : ∀ i, i < l.length → AEq (l.getD i .any) (l'.getD i .any)) : zHq W l' cs :=
 have _p := ‹Pins›; ⟨hl.trans h.1, fun i hi => ⟨he i (by rw [h.1]; exact hi) _ _ _ _ (h.2 i hi).1, (h.2 i hi).2⟩⟩
theorem Rd.map {α β : Type} {t : TypeId} {n : Nat} {e : α → List AV} {ok : α → Prop} {e' : β → List AV} {ok' : β → Prop} (h : Rd enc P W t n e ok) (f : α → β) (hok : ∀ a, ok a → ok' (f a)) (hl : ∀ a, (e' (f a)).length = (e a).length)
 (he : ∀ a i, i < (e a).length → AEq ((e a).getD i .any) ((e' (f a)).getD i .any)) : Rd enc P W t n e' ok' := by
 intro fuel cs x hx
 obtain ⟨a, ha, h1, h2⟩ := h fuel cs x hx
 exact ⟨f a, hok a ha, h1, h2.conv (hl a) (he a)⟩
theorem zRd (l : List (List UInt8)) : AEq (.ro (rowE [] 1 (fun s : List UInt8 => [AV.str s]) l) 0 l.length) (.ro (.strs l) 0 l.length) := by
 refine AEq.ro Z (fun d j hd hj => ?_)
 have hj0 : j = 0 := Nat.lt_one_iff.1 hj
 subst hj0
 rfl
theorem Rd.strs {t t' : TypeId} (ht : P.underlying t = some (.slice t')) (hc : P.cellsOf t' = 1) (hk : P.underlying t' = some .string) :
 Rd enc P W t 1 (fun l : List (List UInt8) => [AV.ro (.strs l) 0 l.length]) (fun l => l.length ≤ 9223372036854775807 ∧ ∀ s ∈ l, s.length ≤ 9223372036854775807) :=
 (Rd.slice [] ht hc rfl (Rd.str hk)).map id (fun _ h => h) (fun _ => rfl) (fun l i hi => by
  have : i = 0 := by simpa using hi
  subst this
  exact zRd l)
/-- An argument that is one cell. -/
theorem Rd.one {α : Type} {t : TypeId} {e : α → List AV} {ok : α → Prop} {v : Value} {d : DataW H} {p : List MemPlace} (h : Rd enc P W t 1 e ok) (hv : v.cells = #[v]) (hd : DataW.Trod enc P W 0 (fun _ => true) true t v d p) :
 ∃ a, ok a ∧ VR W (allS W) (fun _ => none) ((e a).getD 0 .any) v := by
 have _p := ‹Pins›
 obtain ⟨fuel, hx⟩ := hd
 rw [hv] at hx
 obtain ⟨a, ha, _, hr⟩ := h _ _ _ hx
 exact ⟨a, ha, (hr.2 0 Nat.zero_lt_one).1⟩
end
end Go.Ax
namespace Go.Ax
variable [Pins]
open Go.RowKit
section
variable {H : Type} {enc : TypeId × Value → H} {P : Program} {W : World}
end
end Go.Ax
namespace Go.Ax
variable [Pins]
open Go.RowKit
section
variable {P : Program} {fn : Func} {c : Ctx} {fr : Fr} {H H0 : zN} {k : List It} {M : M}
/-- Whatever order came before: one rest, over what is known then. -/
theorem zDU {all : Array Oper} {fuel : Nat} {listed : Array Bool} (L : Fr) (h1 : (∀ fr, zCE fr L → Ax P fn c (.any all fuel listed k) fr H) → Ax P fn c M fr H0) (h2 : Ax P fn c (.any all fuel listed k) L H) : Ax P fn c M fr H0 :=
 h1 (fun _ hk w a σ S hr => h2 w a σ S (hr.weaken hk))
theorem zAK {x : Code} (L : Fr) (h1 : (∀ fr, zCE fr L → Ax P fn c (.code x k) fr H) → Ax P fn c M fr H0) (h2 : Ax P fn c (.code x k) L H) : Ax P fn c M fr H0 :=
 h1 (fun _ hk w a σ S hr => h2 w a σ S (hr.weaken hk))
end
theorem zNR {HF : zN} {fr : Fr} : ∀ {L : Fr}, zCE fr L → fzk HF fr L
 | [], _ => have _p := ‹Pins›; trivial
 | (t, v) :: r, h => ⟨⟨v, h.1, .inl rfl⟩, zNR h.2⟩
theorem zMg (t : Nat) (v : AV) (L : Fr) : look t ((t, v) :: L) = some v := by
 have _p := ‹Pins›
 show (bif Nat.beq t t then some v else _) = _
 rw [Nat.beq_refl]; rfl
end Go.Ax
namespace Go.Ax
variable [Pins]
open Go.RowKit
section
variable {P : Program} {fn : Func} {c : Ctx} {fr : Fr} {H : zN} {k : List It} {ind : Bool} {d : Option Nat} {ty : TypeId} {pos : String} {after : Array Edge} {g : Option (Nat × Bool)}
end
end Go.Ax
namespace Go.Ax
variable [Pins]
open Go.RowKit
/-- A kind without sign holds the numbers below M. -/
def UK (k : IntKind) (M : Nat) : Prop := ∀ n : Int, k.wrap n = n % (M : Int)
theorem zBW : UK .u64 18446744073709551616 := have _p := ‹Pins›; fun n => IntKind.wrap_u64 n
theorem zFI : UK .u32 4294967296 := have _p := ‹Pins›; fun n => IntKind.wrap_u32 n
theorem UK.in {k : IntKind} {M : Nat} (h : UK k M) {m : Nat} (hm : m < M) : k.wrap (m : Int) = (m : Int) := by have _p := ‹Pins›; rw [h]; exact Int.emod_eq_of_lt (by omega) (by omega)
theorem UK.low {k : IntKind} {M : Nat} (h : UK k M) (m : Nat) : k.wrap (m : Int) = ((m % M : Nat) : Int) := by have _p := ‹Pins›; rw [h]; simp
section
variable {P : Program} {fn : Func} {c : Ctx} {fr : Fr} {H : zN} {k : List It} {ind : Bool} {d : Option Nat} {ty : TypeId} {pos : String} {after : Array Edge} {g : Option (Nat × Bool)}
/-- What it yields, told otherwise. -/
theorem QOp.res {o : Oper} {v v' : AV} (h : QOp ind P fn c fr H o v) (e : v = v') : QOp ind P fn c fr H o v' := e ▸ h
theorem zAT {x : Operand} {src dst : TypeId} {kk k' : IntKind} {u : TypeDesc} {m M : Nat} (hs : P.underlying src = some u) (hd : P.underlying dst = some (.int k')) (hx : ev fr x = some (.int kk (m : Nat))) (hk : UK k' M) (hm : m < M) :
 QOp ind P fn c fr H ⟨d, .convert src dst x, ty, pos, after, g⟩ (.int k' (m : Nat)) := (zPK hs hd hx).res (congrArg (AV.int k') (hk.in hm))
theorem zGT {x : Operand} {src dst : TypeId} {kk k' : IntKind} {u : TypeDesc} {m M : Nat} (hs : P.underlying src = some u) (hd : P.underlying dst = some (.int k')) (hx : ev fr x = some (.int kk (m : Nat))) (hk : UK k' M) :
 QOp ind P fn c fr H ⟨d, .convert src dst x, ty, pos, after, g⟩ (.int k' (m % M : Nat)) := (zPK hs hd hx).res (congrArg (AV.int k') (hk.low m))
theorem zGU {x y : Operand} {t t' : TypeId} {k k' : IntKind} {m s : Nat} (hx : ev fr x = some (.int k (m : Nat))) (hy : ev fr y = some (.int k' (s : Nat))) (hb : Nat.ble s k.bits = true) :
 QOp ind P fn c fr H ⟨d, .binOp .shr t x y t', ty, pos, after, g⟩ (.int k (m / 2 ^ s : Nat)) := by
 refine (q_shr hx hy (by omega)).res (congrArg (AV.int k) ?_)
 have hs : s ≤ k.bits := Nat.le_of_ble_eq_true hb
 unfold shrB
 rw [Int.toNat_natCast, Nat.min_eq_left hs, Int.fdiv_eq_ediv_of_nonneg _ (Int.pow_nonneg (by decide))]
 simp
theorem zKj {x y : Operand} {t t' : TypeId} {k k' : IntKind} {m s M : Nat} (hx : ev fr x = some (.int k (m : Nat))) (hy : ev fr y = some (.int k' (s : Nat))) (hb : s ≤ k.bits) (hk : UK k M) (hm : m * 2 ^ s < M) :
 QOp ind P fn c fr H ⟨d, .binOp .shl t x y t', ty, pos, after, g⟩ (.int k (m * 2 ^ s : Nat)) := by
 refine (q_shl hx hy (by omega)).res (congrArg (AV.int k) ?_)
 unfold shlB
 rw [Int.toNat_natCast, Nat.min_eq_left hb]
 have : ((m : Int) * 2 ^ s) = ((m * 2 ^ s : Nat) : Int) := by simp
 rw [this]; exact hk.in hm
theorem bvu {k : IntKind} {M : Nat} (hk : UK k M) (hM : M = 2 ^ k.bits) {m : Nat} (hm : m < M) : (BitVec.ofInt k.bits (m : Int)).toNat = m := by
 have _p := ‹Pins›
 subst hM
 simp [BitVec.toNat_ofInt, Nat.mod_eq_of_lt hm]
theorem zNy {x y : Operand} {t t' : TypeId} {k : IntKind} {m n M : Nat} (hx : ev fr x = some (.int k (m : Nat))) (hy : ev fr y = some (.int k (n : Nat))) (hk : UK k M) (hM : M = 2 ^ k.bits) (hm : m < M) (hn : n < M) :
 QOp ind P fn c fr H ⟨d, .binOp .or t x y t', ty, pos, after, g⟩ (.int k (m ||| n : Nat)) := by
 refine (q_or hx hy).res (congrArg (AV.int k) ?_)
 unfold orB
 rw [BitVec.toNat_or, bvu hk hM hm, bvu hk hM hn]
 exact hk.in (by subst hM; exact Nat.or_lt_two_pow hm hn)
theorem q_uand {x y : Operand} {t t' : TypeId} {k : IntKind} {m n M : Nat} (hx : ev fr x = some (.int k (m : Nat))) (hy : ev fr y = some (.int k (n : Nat))) (hk : UK k M) (hM : M = 2 ^ k.bits) (hm : m < M) (hn : n < M) :
 QOp ind P fn c fr H ⟨d, .binOp .and t x y t', ty, pos, after, g⟩ (.int k (m &&& n : Nat)) := by
 refine (q_and hx hy).res (congrArg (AV.int k) ?_)
 unfold andB
 rw [BitVec.toNat_and, bvu hk hM hm, bvu hk hM hn]
 exact hk.in (by subst hM; exact Nat.and_lt_two_pow m hn)
theorem zFk {x y : Operand} {t t' : TypeId} {k : IntKind} {m n M : Nat} (hx : ev fr x = some (.int k (m : Nat))) (hy : ev fr y = some (.int k (n : Nat))) (hk : UK k M) (hm : m + n < M) :
 QOp ind P fn c fr H ⟨d, .binOp .add t x y t', ty, pos, after, g⟩ (.int k (m + n : Nat)) := by
 refine (zMq hx hy Z).res (congrArg (AV.int k) ?_)
 have : (m : Int) + (n : Int) = ((m + n : Nat) : Int) := by simp
 rw [this]; exact hk.in hm
theorem zJP {x y : Operand} {t t' : TypeId} {k : IntKind} {m n M : Nat} (hx : ev fr x = some (.int k (m : Nat))) (hy : ev fr y = some (.int k (n : Nat))) (hk : UK k M) (hm : m * n < M) :
 QOp ind P fn c fr H ⟨d, .binOp .mul t x y t', ty, pos, after, g⟩ (.int k (m * n : Nat)) := by
 refine (zMq hx hy Z).res (congrArg (AV.int k) ?_)
 have : (m : Int) * (n : Int) = ((m * n : Nat) : Int) := by simp
 rw [this]; exact hk.in hm
theorem zPO {x y : Operand} {t t' : TypeId} {k : IntKind} {m n M : Nat} (hx : ev fr x = some (.int k (m : Nat))) (hy : ev fr y = some (.int k (n : Nat))) (hk : UK k M) (hm : m < M) (hn : n ≤ m) :
 QOp ind P fn c fr H ⟨d, .binOp .sub t x y t', ty, pos, after, g⟩ (.int k (m - n : Nat)) := by
 refine (zMq hx hy Z).res (congrArg (AV.int k) ?_)
 have : (m : Int) - (n : Int) = ((m - n : Nat) : Int) := by omega
 rw [this]; exact hk.in (by omega)
theorem q_urem {x y : Operand} {t t' : TypeId} {k : IntKind} {m n : Nat} (hx : ev fr x = some (.int k (m : Nat))) (hy : ev fr y = some (.int k (n : Nat))) (hn : 0 < n) :
 QOp ind P fn c fr H ⟨d, .binOp .rem t x y t', ty, pos, after, g⟩ (.int k (m % n : Nat)) :=
 (q_rem hx hy ⟨by omega, by omega⟩).res (congrArg (AV.int k) (by simp))
theorem q_uquo {x y : Operand} {t t' : TypeId} {k : IntKind} {m n M : Nat} (hx : ev fr x = some (.int k (m : Nat))) (hy : ev fr y = some (.int k (n : Nat))) (hk : UK k M) (hm : m < M) (hn : 0 < n) :
 QOp ind P fn c fr H ⟨d, .binOp .quo t x y t', ty, pos, after, g⟩ (.int k (m / n : Nat)) := by
 refine (q_quok hx hy (by omega)).res (congrArg (AV.int k) ?_)
 have : (m : Int).tdiv (n : Int) = ((m / n : Nat) : Int) := by simp
 rw [this]; exact hk.in (Nat.lt_of_le_of_lt (Nat.div_le_self _ _) hm)
end
end Go.Ax
namespace Go.Ax
variable [Pins]
open Go.RowKit
section
variable {P : Program} {fn : Func} {c : Ctx} {fr : Fr} {H : zN} {k : List It}
end
end Go.Ax
namespace Go.Ax
variable [Pins]
open Go.RowKit
section
variable {P : Program} {fn : Func} {c : Ctx} {fr : Fr} {H : zN} {k : List It}
/-- copy(x, y): x a part of an object of one's own. -/
theorem ax_copy {all : Array Oper} {d : Nat} {t tx e : TypeId} {x y : Operand} {ty : TypeId} {pos : String} {after : Array Edge} {rest : List Oper} {inf : TypeInfo} {h i n : Nat} {o : AObj} {v : AV} {cx c' : Cells} {i2 m q : Nat}
 (ht : P.underlying t = some (.slice e)) (hi : P.info? e = some inf) (hszz : inf.size = o.c.sz) (hx : ev fr x = some (.sl h i n)) (hh : H[h]? = some (some o)) (hy : ev fr y = some v) (hs : zL4 H v = some (cx, i2, m))
 (hin0 : i + n ≤ o.c.len) (hn : 0 < n) (hin : i2 + m ≤ cx.len) (hm : 0 < m) (hq : Nat.min m n = q) (p1 : c'.sz = o.c.sz) (p2 : cx.sz = o.c.sz) (p3 : c'.len = o.c.len)
 (p4 : ∀ i' j, i' < o.c.len → j < o.c.sz → c'.at i' j = if i ≤ i' ∧ i' < i + q then cx.at (i2 + (i' - i)) j else o.c.at i' j)
 (hk : Ax P fn c (.ops false all rest k) ((d, .int .i64 (q : Nat)) :: fr) (H.set h (some ⟨o.ty, c'⟩))) (hz : o.c.sz ≠ 0 := by (intro hh; cases hh)) : Ax P fn c (.ops false all (⟨some d, .call { callee := .builtin .copy, args := #[x, y], argTypes := #[t, tx] }, ty, pos, after, none⟩ :: rest) k) fr H := by
 refine ax_w (fun w a σ S hr => ?_) hk
 have h1 := hr.evAt hx
 have h2 := hr.evAt hy
 have hsrc := hr.src h2 hs (fun _ _ => hin)
 have hexec : ∀ r w', (Builtin.copy_ #[t, tx] ty #[a.eval x, a.eval y]).run P w = .ok r w' → (execOp a.eval ⟨some d, .call { callee := .builtin .copy, args := #[x, y], argTypes := #[t, tx] }, ty, pos, after, none⟩).run P w = .ok (.value r) w' := by
  intro r w' h
  simp [execOp, resolve, invoke, builtin, h]
 generalize hzx : a.eval x = vx at h1 hexec
 generalize hzy : a.eval y = vy at h2 hsrc hexec
 unfold Src at hsrc
 rw [p2] at hsrc
 have hq1 : q ≤ m ∧ q ≤ n := by subst hq; exact ⟨Nat.min_le_left _ _, Nat.min_le_right _ _⟩
 cases h1 with
 | sl0 _ _ hσ => omega
 | sl _ _ _ _ b s C cap hσ hlen hcap =>
  obtain ⟨hs', cur, g1, g2, g3, g4, g5, g6⟩ := hr.obj hh hσ
  subst hs'
  obtain ⟨mk, g1, hmk, hrow⟩ := g1.cells hz
  rcases hsrc with ⟨rfl, ax, capx, rfl⟩ | ⟨ad, capx, news, rfl, q1, q2, q3, q4⟩
  ·omega
  ·have hle : q * o.c.sz ≤ news.length := by rw [q1]; exact Nat.mul_le_mul_right _ hq1.1
   have htl : (news.take (q * o.c.sz)).length = q * o.c.sz := by rw [List.length_take]; omega
   have hfits : i * o.c.sz + q * o.c.sz ≤ cur.size := by
    rw [g2, ← Nat.add_mul]; exact Nat.mul_le_mul_right _ (by omega)
   have hf := run_firstCells_some (P := P) w o.c.sz q ad m capx (news.take (q * o.c.sz)) htl (fun j u hu => by
    rw [List.getElem?_take] at hu
    split at hu
    ·exact q2 j u hu
    ·cases hu)
   have hst := zB9 P b (i * o.c.sz) o.ty mk (news.take (q * o.c.sz)) 0 cur w g1 hmk (by rw [htl]; omega) (fun u hu => q3 u (List.mem_of_mem_take hu))
   simp only [Nat.add_zero, htl] at hst
   have hrun : (Builtin.copy_ #[t, tx] ty #[.slice (some ⟨b, i * o.c.sz, none⟩) n cap, .slice (some ad) m capx]).run P w = .ok (.int .i64 (q : Nat)) (w.setRow b (cur.toList.take (i * o.c.sz) ++ news.take (q * o.c.sz) ++ cur.toList.drop (i * o.c.sz + q * o.c.sz)).toArray) := by
    simp [Builtin.copy_, run_underlying ht, sizeOf, typeInfo, hi, hszz, Builtin.lenOf, hq, hf, hst, goInt]
   have hb0 : (cur.toList.take (i * o.c.sz)).length = i * o.c.sz := by rw [List.length_take]; simp; omega
   refine ⟨_, _, σ, S, hexec _ _ hrun, hr.setRow hh hσ hrow p1 (by omega) ?_ (fun i' j hi' hj => ?_), .int _ _ _⟩
   ·rw [← g2]; simp; omega
   ·rw [p3] at hi'
    rw [p1] at hj ⊢
    rw [p4 i' j hi' hj]
    split
    ·rename_i hr1
     obtain ⟨u, e1, e2⟩ := q4 (i' - i) j (by omega) hj
     refine ⟨u, ?_, e2, q3 u (List.mem_of_getElem? e1)⟩
     have hidx : i' * o.c.sz + j = i * o.c.sz + ((i' - i) * o.c.sz + j) := by
      rw [← Nat.add_assoc, ← Nat.add_mul]; congr 2; omega
     have hlt : (i' - i) * o.c.sz + j < q * o.c.sz := by
      have : (i' - i + 1) * o.c.sz ≤ q * o.c.sz := Nat.mul_le_mul_right _ (by omega)
      rw [Nat.add_mul] at this; omega
     simp only [List.getElem?_toArray, List.append_assoc]
     rw [hidx, List.getElem?_append_right (by omega), hb0, Nat.add_sub_cancel_left, List.getElem?_append_left (by omega), List.getElem?_take, if_pos hlt]
     exact e1
    ·rename_i hr1
     obtain ⟨u, e1, e2, e3⟩ := g6 i' j hi' hj
     refine ⟨u, ?_, e2, e3⟩
     simp only [List.getElem?_toArray, List.append_assoc]
     by_cases hlo : i' < i
     ·have hlt : i' * o.c.sz + j < i * o.c.sz := by
       have : (i' + 1) * o.c.sz ≤ i * o.c.sz := Nat.mul_le_mul_right _ (by omega)
       rw [Nat.add_mul] at this; omega
      rw [List.getElem?_append_left (by omega), List.getElem?_take, if_pos hlt]
      simpa using e1
     ·have hge : i + q ≤ i' := by omega
      have hge2 : i * o.c.sz + q * o.c.sz ≤ i' * o.c.sz + j := by
       have : (i + q) * o.c.sz ≤ i' * o.c.sz := Nat.mul_le_mul_right _ hge
       rw [Nat.add_mul] at this; omega
      rw [List.getElem?_append_right (by omega), hb0, List.getElem?_append_right (by omega), htl, List.getElem?_drop]
      rw [show i * o.c.sz + q * o.c.sz + (i' * o.c.sz + j - i * o.c.sz - q * o.c.sz) = i' * o.c.sz + j by omega]
      simpa using e1
/-- A call that may move one object. -/
theorem Rep.calledM {w w' : World} {a : Act} {σ σ' : Nat → Option Blk} {S S' : Nat → Prop} {n m : Nat} {H' : zN} {fix : Nat → Prop} {K : AV → zN → Prop} (hr : Rep c w a σ S n fr H) (hall : ∀ h, h < H.length → h ≠ m → fix h) (hcm : ¬ c.fix m) (hhr : HR w' S' σ' H') {hp : zE0 w S σ H} (hlen : H.length ≤ H'.length) (hkp : Kp (zEL w S σ H fix K hp) w' S' σ' H') :
 Rep c w' a σ' S' n (zB7 m fr) H' := by
 have hne : ∀ h, h ≠ m → ∀ B, σ h = some B → σ' h = some B := by
  intro h hm B hB
  have hlt : h < H.length := by
   rcases Nat.lt_or_ge h H.length with hl | hl
   ·exact hl
   ·rw [hr.hr.dom h hl] at hB; cases hB
  rw [hkp.fixed h (hall h hlt hm)]; exact hB
 have hSO : ∀ b, S b → ¬ zFp σ H b := by
  rintro b hs ⟨h, o, s, C, h1, h2⟩
  exact (hr.obj h1 h2).2.choose_spec.2.2.2.2.1 hs
 have hS : ∀ b, S b → w'.heap[b]? = w.heap[b]? := fun b hs => hkp.block b (hr.hr.small b hs) (hSO b hs)
 refine ⟨hhr, ?_, hr.defers, hr.size, fun t v hl => ?_⟩
 ·refine ⟨hkp.os.trans hr.kp.os, hkp.output.trans hr.kp.output, hkp.tape.trans hr.kp.tape, Nat.le_trans hr.kp.size hkp.size, fun b hb ho => ?_, fun b hb => hkp.S1 b (hr.kp.S1 b hb), fun b hb => ?_, fun h hf => ?_, fun h hf => Nat.lt_of_lt_of_le (hr.kp.fixlt h hf) hlen, fun h o b s C h1 h2 => ?_⟩
  ·rw [← hr.kp.block b hb ho]
   have hs1 := hr.kp.size
   refine hkp.block b (by simp only [zEL]; omega) ?_
   rintro ⟨h, o, s, C, h1, h2⟩
   rcases hr.kp.own h o b s C h1 h2 with h3 | h3
   ·exact ho h3
   ·omega
  ·rcases hkp.S2 b hb with h1 | h1 | h1
   ·exact hr.kp.S2 b h1
   ·obtain ⟨h, o, s, C, g1, g2⟩ := h1
    rcases hr.kp.own h o b s C g1 g2 with g3 | g3
    ·exact .inr (.inl g3)
    ·exact .inr (.inr g3)
   ·right; right; have := hr.kp.size; simp only [zEL] at h1; omega
  ·have hm : h ≠ m := fun e => hcm (e ▸ hf)
   rw [hkp.fixed h (hall h (hr.kp.fixlt h hf) hm)]
   exact hr.kp.fixed h hf
  ·rcases hkp.own h o b s C h1 h2 with ⟨h', o', s', C', g1, g2⟩ | h3
   ·exact hr.kp.own h' o' b s' C' g1 g2
   ·right; have := hr.kp.size; simp only [zEL] at h3; omega
 ·rw [zDl] at hl
  cases hq : look t fr with
  | none => simp [hq] at hl
  | some v0 =>
   simp [hq] at hl
   subst hl
   obtain ⟨s1, s2⟩ := hr.slots t v0 hq
   refine ⟨s1, ?_⟩
   have s3 := s2.forget (h := m) (fun h => if h = m then σ' m else σ h) (fun h' hh => by simp [hh])
   exact s3.mono hkp.S1 hS _ (fun h B hB => by
    by_cases hh : h = m
    ·subst hh; simpa using hB
    ·simp only [hh, if_false] at hB; exact hne h hh B hB)
theorem zM8 {all : Array Oper} {d : Option Nat} {g : Operand} {args : List Operand} {ats : Array TypeId} {ty : TypeId} {pos : String} {after : Array Edge} {rest : List Oper} {f : FuncId} {caps ags ags' : List AV} {fix : Nat → Prop} {K : AV → zN → Prop} (m : Nat)
 (hg : ev fr g = some (.fn f caps)) (ha : evs fr args = some ags) (has : ags ++ caps = ags') (hcall : zQ P f ags' H fix K) (hall : ∀ h, h < H.length → h ≠ m → fix h) (hfl : ∀ h, fix h → h < H.length) (hcm : ¬ c.fix m)
 (hk : ∀ r H', K r H' → H.length ≤ H'.length ∧ Ax P fn c (.ops false all rest k) (match d with | some d => (d, r) :: zB7 m fr | none => zB7 m fr) H') : Ax P fn c (.ops false all (⟨d, .call { callee := .value g, args := args.toArray, argTypes := ats }, ty, pos, after, none⟩ :: rest) k) fr H := by
 intro hd w a σ S hr
 obtain ⟨hd1, hd2⟩ := zCI hd
 obtain ⟨⟨gfn, hgf, hgn, hgb⟩, hc⟩ := hcall
 subst has
 have h1 := hr.evAt hg
 obtain ⟨e1, e2⟩ := zGy hr args ags ha
 generalize hz : a.eval g = z at h1
 refine wpList_step (fun K' hK' => ?_)
 simp only [Region.wanted, if_true]
 unfold Oper.wp
 cases h1 with
 | fn _ _ _ vs hl hv =>
  have hrun : (execOp a.eval ⟨d, .call { callee := .value g, args := args.toArray, argTypes := ats }, ty, pos, after, none⟩).run P w = .ok (.enter f ((args.map a.eval).toArray ++ vs)) w := by
   simp only [execOp, resolve, hz, Deferred.ofValue, Sem.run_bind, Sem.run_pure, Result.andThen_ok, invoke, callFunc, List.map_toArray, Array.empty_append, program, Sem.run, hgf]
   simp [hgn, hgb]
  rw [hrun]
  have hargs : VRs w S σ (ags ++ caps) ((args.map a.eval).toArray ++ vs) := by
   refine ⟨by simp [e1, hl], fun i hi => ?_⟩
   simp only [List.length_append] at hi
   by_cases hlt : i < ags.length
   ·have := e2 i hlt
    have hlt' : i < args.length := by omega
    have ea : (ags ++ caps).getD i .any = ags.getD i .any := by simp [List.getD, List.getElem?_append, hlt]
    have eb : ((args.map a.eval).toArray ++ vs).getD i undef = (args.map a.eval).getD i undef := by simp [Array.getElem?_append, hlt', List.getD]
    rw [ea, eb]; exact this
   ·have := hv (i - ags.length) (by omega)
    have hnl : ¬ i < args.length := by omega
    have ea : (ags ++ caps).getD i .any = caps.getD (i - ags.length) .any := by simp [List.getD, List.getElem?_append, hlt]
    have eb : ((args.map a.eval).toArray ++ vs).getD i undef = vs.getD (i - ags.length) undef := by simp [Array.getElem?_append, e1, hlt]
    rw [ea, eb]; exact this
  refine Calls.mono (hc w σ S _ hr.pinUp hr.hr hfl hargs) ?_
  rintro e w' ⟨v, r, σ', S', H', rfl, g1, g2, g3, g4⟩
  obtain ⟨hlen, hk2⟩ := hk r H' g4
  have hrep := hr.calledM hall hcm g1 hlen g3
  refine hK' _ _ ?_
  cases d with
  | none => exact hk2 hd2 w' _ σ' S' hrep
  | some d => exact hk2 hd2 w' _ σ' S' (hrep.put g2 (hd1 d rfl))
end
end Go.Ax
namespace Go.Ax
variable [Pins]
open Go.RowKit
section
variable {ind : Bool} {P : Program} {fn : Func} {c : Ctx} {fr : Fr} {H : zN} {k : List It} {d : Option Nat} {ty : TypeId} {pos : String} {after : Array Edge} {g : Option (Nat × Bool)}
end
end Go.Ax
namespace Go.Ax
variable [Pins]
open Go.RowKit
section
variable {P : Program} {fn : Func} {c : Ctx} {fr : Fr} {H : zN} {k : List It}
theorem give_sub {h : Nat} {o : AObj} (hh : H[h]? = some (some o)) : subH (List.replicate h none ++ [some o]) H := by
 have _p := ‹Pins›
 intro h' o' ho
 rcases Nat.lt_trichotomy h' h with q | q | q
 ·rw [List.getElem?_append_left (by simpa using q)] at ho
  simp [List.getElem?_replicate, q] at ho
 ·subst q
  rw [List.getElem?_append_right (by simp)] at ho
  simp at ho; subst ho; exact hh
 ·rw [List.getElem?_eq_none (by simp; omega)] at ho; cases ho
theorem zRA {h : Nat} {o : AObj} (hrl : zAd o.c) : ∀ (h' : Nat) (o' : AObj), (List.replicate h none ++ [some o] : zN)[h']? = some (some o') → zAd o'.c := by
 have _p := ‹Pins›
 intro h' o' ho
 have hm := List.mem_of_getElem? ho
 rcases List.mem_append.1 hm with q | q
 ·have := (List.mem_replicate.1 q).2; cases this
 ·simp at q; subst q; exact hrl
theorem zP9 {h : Nat} {o : AObj} : (List.replicate h none ++ [some o] : zN)[h]? = some (some o) := by
 have _p := ‹Pins›
 rw [List.getElem?_append_right (by simp)]; simp
theorem Rep.give {w : World} {a : Act} {σ : Nat → Option Blk} {S : Nat → Prop} {N : Nat} (hr : Rep c w a σ S N fr H) (h t n : Nat) {o : AObj} (L : Fr) (hh : H[h]? = some (some o)) (hrl : zAd o.c) (hl : look t fr = some (.sl h 0 n)) (hn : n ≤ o.c.len) (hL : zCE fr L) :
 ∃ S', Rep c w a σ S' N ((t, .ro o.c 0 n) :: L) (H.set h none) := by
 have hlt : h < H.length := (List.getElem?_eq_some_iff.1 hh).1
 refine hr.freeze (List.replicate h none ++ [some o]) (H.set h none) (give_sub hh) (zRA hrl) (by simp) ?_ ⟨⟨_, hl, .inr (.inr ⟨?_, ?_⟩)⟩, zNR hL⟩
 ·intro h' o' ho
  have hne : h' ≠ h := by
   rintro rfl
   rw [List.getElem?_set_self hlt] at ho; cases ho
  rw [List.getElem?_set_ne (Ne.symm hne)] at ho
  refine ⟨fun o2 h2 => ?_, o', ho, Z, Z, Z, fun i j _ _ => .inl Z⟩
  rcases Nat.lt_or_ge h' h with q | q
  ·rw [List.getElem?_append_left (by simpa using q)] at h2
   simp [List.getElem?_replicate, q] at h2
  ·rw [List.getElem?_eq_none (by simp; omega)] at h2; cases h2
 ·simp only [AV.frz, zP9]
 ·intro o2 h2
  rw [zP9] at h2
  cases h2
  omega
/-- A row of one's own is only read from now on. -/
theorem zDN {all : Array Oper} {rest : List Oper} (h t n : Nat) {o : AObj} (L : Fr) (hh : H[h]? = some (some o)) (hrl : zAd o.c) (hl : look t fr = some (.sl h 0 n)) (hn : n ≤ o.c.len) (hL : zCE fr L)
 (hk : Ax P fn c (.ops false all rest k) ((t, .ro o.c 0 n) :: L) (H.set h none)) : Ax P fn c (.ops false all rest k) fr H := by
 intro hd w a σ S hr
 obtain ⟨S', hr'⟩ := hr.give h t n L hh hrl hl hn hL
 exact hk hd w a σ S' hr'
theorem zAL {x : Code} (h t n : Nat) {o : AObj} (L : Fr) (hh : H[h]? = some (some o)) (hrl : zAd o.c) (hl : look t fr = some (.sl h 0 n)) (hn : n ≤ o.c.len) (hL : zCE fr L)
 (hk : Ax P fn c (.code x k) ((t, .ro o.c 0 n) :: L) (H.set h none)) : Ax P fn c (.code x k) fr H := by
 intro w a σ S hr
 obtain ⟨S', hr'⟩ := hr.give h t n L hh hrl hl hn hL
 exact hk w a σ S' hr'
theorem zO {q : Bool} {all : Array Oper} {rest : List Oper} (H' : zN) (he : H = H') (hk : Ax P fn c (.ops q all rest k) fr H') : Ax P fn c (.ops q all rest k) fr H := by
 subst he; exact hk
variable {ind : Bool} {d : Option Nat} {ty : TypeId} {pos : String} {after : Array Edge} {g : Option (Nat × Bool)}
theorem zF7 {op : BinOp} {t : TypeId} {x y : Operand} {a b : Bool} {w : World} : (eqGuard op t x y (.bool a) (.bool b)).run P w = .ok () w := by
 have _p := ‹Pins›
 unfold eqGuard
 split <;> rfl
theorem zJO {x y : Operand} {t t' : TypeId} {a b : Bool} (ht : P.underlying t = some .bool) (hx : ev fr x = some (.bool a)) (hy : ev fr y = some (.bool b)) : QOp ind P fn c fr H ⟨d, .binOp .neq t x y t', ty, pos, after, g⟩ (.bool (!(a == b))) := by
 intro w ac σ S hr
 refine ⟨_, .bool _ _, fun w' _ => ?_⟩
 have h1 := hr.evBool hx
 have h2 := hr.evBool hy
 have h3 := run_neq_bool (P := P) w' t a b ht
 simp [execOp, h1, h2, zF7, h3]
 try (cases a <;> cases b <;> rfl)
theorem zKe {x y : Operand} {t t' : TypeId} {a b : Bool} (ht : P.underlying t = some .bool) (hx : ev fr x = some (.bool a)) (hy : ev fr y = some (.bool b)) : QOp ind P fn c fr H ⟨d, .binOp .eql t x y t', ty, pos, after, g⟩ (.bool (a == b)) := by
 intro w ac σ S hr
 refine ⟨_, .bool _ _, fun w' _ => ?_⟩
 have h1 := hr.evBool hx
 have h2 := hr.evBool hy
 have h3 := run_eql_bool (P := P) w' t a b ht
 simp [execOp, h1, h2, zF7, h3]
/-- Bits pushed out on the left are lost. -/
theorem zQR {x y : Operand} {t t' : TypeId} {kk k' : IntKind} {m s M : Nat} (hx : ev fr x = some (.int kk (m : Nat))) (hy : ev fr y = some (.int k' (s : Nat))) (hb : s ≤ kk.bits) (hk : UK kk M) :
 QOp ind P fn c fr H ⟨d, .binOp .shl t x y t', ty, pos, after, g⟩ (.int kk (m * 2 ^ s % M : Nat)) := by
 refine (q_shl hx hy (by omega)).res (congrArg (AV.int kk) ?_)
 unfold shlB
 rw [Int.toNat_natCast, Nat.min_eq_left hb]
 have : ((m : Int) * 2 ^ s) = ((m * 2 ^ s : Nat) : Int) := by simp
 rw [this]; exact hk.low _
end
end Go.Ax
namespace Go.Ax
variable [Pins]
open Go.RowKit
theorem zDG {fr : Fr} : ∀ {K : Fr}, (∀ p ∈ K, look p.1 fr = some p.2) → zCE fr K
 | [], _ => have _p := ‹Pins›; trivial
 | (t, v) :: r, h => ⟨h (t, v) (by simp), zDG (fun p hp => h p (by simp [hp]))⟩
theorem zDH {fr : Fr} : ∀ {K : Fr}, zCE fr K → ∀ p ∈ K, look p.1 fr = some p.2
 | [], _, p, hp => have _p := ‹Pins›; by simp at hp
 | (t, v) :: r, h, p, hp => by
  rcases List.mem_cons.1 hp with rfl | hp
  ·exact h.1
  ·exact zDH h.2 p hp
theorem zIY {fr K : Fr} (h : zCE fr K) {o : Operand} {v : AV} (he : ev K o = some v) : ev fr o = some v := by
 have _p := ‹Pins›
 cases o with
 | tmp t => exact zFA h he
 | const x => exact he
 | «global» g => cases he
 | func f => exact he
theorem zJG {fr K : Fr} (h : zCE fr K) : ∀ {xs : List Operand} {l : List AV}, evs K xs = some l → evs fr xs = some l
 | [], l, he => have _p := ‹Pins›; he
 | x :: r, l, he => by
  simp only [evs] at he ⊢
  split at he
  ·rename_i v hv
   split at he
   ·rename_i q hq
    rw [zIY h hv, zJG h hq]
    exact he
   ·cases he
  ·cases he
section
variable {P : Program} {fn : Func} {c : Ctx} {fr : Fr} {H : zN} {k : List It}
/-- An operation that yields v and leaves the memory as it is told. -/
def zBX (P : Program) (fn : Func) (c : Ctx) (H : zN) (all : Array Oper) (K : Fr) (o : Oper) (d : Nat) (v : AV) : Prop :=
 ∀ (k : List It) (fr : Fr), zCE fr K → Ax P fn c (.ops false all [] k) ((d, v) :: fr) H → Ax P fn c (.ops false all [o] k) fr H
theorem pure_q {all : Array Oper} {K : Fr} {d : Nat} {op : Op} {ty : TypeId} {pos : String} {after : Array Edge} {v : AV} (h : QOp false P fn c K H ⟨some d, op, ty, pos, after, none⟩ v) : zBX P fn c H all K ⟨some d, op, ty, pos, after, none⟩ d v :=
 fun k fr hk h2 => zG (fun w a σ S hr => h w a σ S (hr.weaken hk)) h2
theorem pure_v {all : Array Oper} {K : Fr} {d : Nat} {g : Operand} {args : List Operand} {ats : Array TypeId} {ty : TypeId} {pos : String} {after : Array Edge} {f : FuncId} {caps ags ags' : List AV} {r : AV} (hg : ev K g = some (.fn f caps)) (ha : evs K args = some ags) (has : ags ++ caps = ags') (hcall : zU P f ags' r) :
 zBX P fn c H all K ⟨some d, .call { callee := .value g, args := args.toArray, argTypes := ats }, ty, pos, after, none⟩ d r :=
 fun k fr hk h2 => zB (zIY hk hg) (zJG hk ha) has hcall h2
/-- A guard that holds. -/
theorem zJN {all : Array Oper} {K : Fr} {d : Nat} {op : Op} {ty : TypeId} {pos : String} {after : Array Edge} {v : AV} {j t : Nat} {p : Bool} (hy : zEe all j = some t) (hb : look t K = some (.bool p)) (h : zBX P fn c H all K ⟨some d, op, ty, pos, after, none⟩ d v) : zBX P fn c H all K ⟨some d, op, ty, pos, after, some (j, p)⟩ d v :=
 fun k fr hk h2 => zBK hy (zFA hk hb) (h k fr hk h2)
/-- A guard that does not hold: nothing is left in the slot. -/
theorem pure_gno {all : Array Oper} {K : Fr} {d : Nat} {op : Op} {ty : TypeId} {pos : String} {after : Array Edge} {j t : Nat} {p b : Bool} (hy : zEe all j = some t) (hb : look t K = some (.bool b)) (hne : (b == p) = false) : zBX P fn c H all K ⟨some d, op, ty, pos, after, some (j, p)⟩ d (.tup []) :=
 fun k fr hk h2 => zCO hy (zFA hk hb) hne h2
theorem zRW {all : Array Oper} {K : Fr} {d : Nat} {op : Op} {ty : TypeId} {pos : String} {after : Array Edge} {j t : Nat} {p : Bool} (hy : zEe all j = some t) (hb : look t K = some (.tup [])) : zBX P fn c H all K ⟨some d, op, ty, pos, after, some (j, p)⟩ d (.tup []) :=
 fun k fr hk h2 => zFb hy (zFA hk hb) h2
abbrev Steps := List (Nat × Nat × AV)
def zFy (st : Steps) (K0 : Fr) (o : Oper) : Fr := ((st.filter (fun s => o.after.toList.any (fun e => Nat.beq e.on s.1 && Region.binds .any e))).map (fun s => s.2)) ++ K0
/-- One operation after the other, in the order that is given. -/
def zEF (P : Program) (fn : Func) (c : Ctx) (H : zN) (all : Array Oper) (K0 : Fr) : List Nat → Steps → (Steps → Prop) → Prop
 | [], st, G => G st
 | i :: r, st, G => ∃ o d v, all[i]? = some o ∧ o.dst = some d ∧ zBX P fn c H all (zFy st K0 o) o d v ∧ zEF P fn c H all K0 r ((i, d, v) :: st) G
theorem zJ3 {all : Array Oper} {K0 : Fr} {i : Nat} {r : List Nat} {st : Steps} {G : Steps → Prop} {d : Nat} {op : Op} {ty : TypeId} {pos : String} {after : Array Edge} {v : AV} (hi : all[i]? = some ⟨some d, op, ty, pos, after, none⟩)
 (hop : zBX P fn c H all (zFy st K0 ⟨some d, op, ty, pos, after, none⟩) ⟨some d, op, ty, pos, after, none⟩ d v) (h : zEF P fn c H all K0 r ((i, d, v) :: st) G) : zEF P fn c H all K0 (i :: r) st G :=
 ⟨_, _, _, hi, rfl, hop, h⟩
theorem zM {all : Array Oper} {K0 : Fr} {i : Nat} {r : List Nat} {st : Steps} {G : Steps → Prop} {d : Nat} {op : Op} {ty : TypeId} {pos : String} {after : Array Edge} {v : AV} {K : Fr} (hi : all[i]? = some ⟨some d, op, ty, pos, after, none⟩)
 (hK : zFy st K0 ⟨some d, op, ty, pos, after, none⟩ = K) (hop : QOp false P fn c K H ⟨some d, op, ty, pos, after, none⟩ v) (h : zEF P fn c H all K0 r ((i, d, v) :: st) G) : zEF P fn c H all K0 (i :: r) st G :=
 zJ3 hi (hK ▸ pure_q hop) h
theorem zA8 {all : Array Oper} {K0 : Fr} {i : Nat} {r : List Nat} {st : Steps} {G : Steps → Prop} {d : Nat} {g : Operand} {args : List Operand} {ats : Array TypeId} {ty : TypeId} {pos : String} {after : Array Edge} {f : FuncId} {caps ags ags' : List AV} {v : AV} {K : Fr} (hi : all[i]? = some ⟨some d, .call { callee := .value g, args := args.toArray, argTypes := ats }, ty, pos, after, none⟩)
 (hK : zFy st K0 ⟨some d, .call { callee := .value g, args := args.toArray, argTypes := ats }, ty, pos, after, none⟩ = K) (hg : ev K g = some (.fn f caps)) (ha : evs K args = some ags) (has : ags ++ caps = ags') (hcall : zU P f ags' v)
 (h : zEF P fn c H all K0 r ((i, d, v) :: st) G) : zEF P fn c H all K0 (i :: r) st G :=
 zJ3 hi (hK ▸ pure_v hg ha has hcall) h
theorem zAS {all : Array Oper} {K0 : Fr} {i : Nat} {r : List Nat} {st : Steps} {G : Steps → Prop} {d : Nat} {op : Op} {ty : TypeId} {pos : String} {after : Array Edge} {v : AV} {K : Fr} {j t : Nat} {p : Bool} (hi : all[i]? = some ⟨some d, op, ty, pos, after, some (j, p)⟩)
 (hK : zFy st K0 ⟨some d, op, ty, pos, after, some (j, p)⟩ = K) (hy : zEe all j = some t) (hb : look t K = some (.bool p)) (hop : QOp false P fn c K H ⟨some d, op, ty, pos, after, none⟩ v) (h : zEF P fn c H all K0 r ((i, d, v) :: st) G) : zEF P fn c H all K0 (i :: r) st G :=
 ⟨_, _, _, hi, rfl, hK ▸ zJN hy hb (pure_q hop), h⟩
theorem zBi {all : Array Oper} {K0 : Fr} {i : Nat} {r : List Nat} {st : Steps} {G : Steps → Prop} {d : Nat} {op : Op} {ty : TypeId} {pos : String} {after : Array Edge} {K : Fr} {j t : Nat} {p b : Bool} (hi : all[i]? = some ⟨some d, op, ty, pos, after, some (j, p)⟩)
 (hK : zFy st K0 ⟨some d, op, ty, pos, after, some (j, p)⟩ = K) (hy : zEe all j = some t) (hb : look t K = some (.bool b)) (hne : (b == p) = false) (h : zEF P fn c H all K0 r ((i, d, .tup []) :: st) G) : zEF P fn c H all K0 (i :: r) st G :=
 ⟨_, _, _, hi, rfl, hK ▸ pure_gno hy hb hne, h⟩
theorem zCW {all : Array Oper} {K0 : Fr} {i : Nat} {r : List Nat} {st : Steps} {G : Steps → Prop} {d : Nat} {op : Op} {ty : TypeId} {pos : String} {after : Array Edge} {K : Fr} {j t : Nat} {p : Bool} (hi : all[i]? = some ⟨some d, op, ty, pos, after, some (j, p)⟩)
 (hK : zFy st K0 ⟨some d, op, ty, pos, after, some (j, p)⟩ = K) (hy : zEe all j = some t) (hb : look t K = some (.tup [])) (h : zEF P fn c H all K0 r ((i, d, .tup []) :: st) G) : zEF P fn c H all K0 (i :: r) st G :=
 ⟨_, _, _, hi, rfl, hK ▸ zRW hy hb, h⟩
theorem zAC {all : Array Oper} {K0 : Fr} {st : Steps} {G : Steps → Prop} (h : G st) : zEF P fn c H all K0 [] st G := h
/-- What the steps tell. -/
def zI9 (P : Program) (fn : Func) (c : Ctx) (H : zN) (all : Array Oper) (K0 : Fr) (st : Steps) (s : Nat × Nat × AV) : Prop :=
 ∃ o K, all[s.1]? = some o ∧ o.dst = some s.2.1 ∧ zBX P fn c H all K o s.2.1 s.2.2 ∧ ∀ p ∈ K, p ∈ K0 ∨ ∃ s' ∈ st, (∃ e ∈ o.after, Region.binds .any e = true ∧ e.on = s'.1) ∧ s'.2 = p
theorem zI9.mono {all : Array Oper} {K0 : Fr} {st st' : Steps} {s : Nat × Nat × AV} (hs : ∀ x ∈ st, x ∈ st') (h : zI9 P fn c H all K0 st s) : zI9 P fn c H all K0 st' s := by
 obtain ⟨o, K, h1, h2, h3, h4⟩ := h
 refine ⟨o, K, h1, h2, h3, fun p hp => ?_⟩
 rcases h4 p hp with q | ⟨s', q1, q2⟩
 ·exact .inl q
 ·exact .inr ⟨s', hs _ q1, q2⟩
theorem zGR {all : Array Oper} {K0 : Fr} {G : Steps → Prop} : ∀ {idx : List Nat} {st : Steps}, zEF P fn c H all K0 idx st G → (∀ s ∈ st, zI9 P fn c H all K0 st s) → ∃ st', G st' ∧ st'.map (·.1) = idx.reverse ++ st.map (·.1) ∧ (∀ s ∈ st', zI9 P fn c H all K0 st' s)
 | [], st, h, hs => ⟨st, h, by simp, hs⟩
 | i :: r, st, h, hs => by
  obtain ⟨o, d, v, h1, h2, h3, h4⟩ := h
  have hsub : ∀ x ∈ st, x ∈ (i, d, v) :: st := fun x hx => List.mem_cons_of_mem _ hx
  have hstep : zI9 P fn c H all K0 ((i, d, v) :: st) (i, d, v) := by
   refine ⟨o, zFy st K0 o, h1, h2, h3, fun p hp => ?_⟩
   unfold zFy at hp
   rcases List.mem_append.1 hp with q | q
   ·obtain ⟨s, q1, q2⟩ := List.mem_map.1 q
    obtain ⟨q3, q4⟩ := List.mem_filter.1 q1
    obtain ⟨e, q5, q6⟩ := List.any_eq_true.1 q4
    rw [Bool.and_eq_true] at q6
    exact .inr ⟨s, hsub _ q3, ⟨e, Array.mem_toList_iff.1 q5, q6.2, Nat.eq_of_beq_eq_true q6.1⟩, q2⟩
   ·exact .inl q
  obtain ⟨st', g1, g2, g3⟩ := zGR h4 (fun s hs' => by
   rcases List.mem_cons.1 hs' with rfl | q
   ·exact hstep
   ·exact (hs s q).mono hsub)
  exact ⟨st', g1, by rw [g2]; simp, g3⟩
theorem zJv {all : Array Oper} {fuel : Nat} {listed : Array Bool} : ∀ {is : List Nat}, (∀ i ∈ is, ∀ o, all[i]? = some o → Ax P fn c (.ops false all [o] (.any all fuel (listed.setIfInBounds i true) :: k)) fr H) → AllR P fn c all fuel listed k fr H is
 | [], _ => trivial
 | i :: r, h => ⟨h i (by simp), zJv (fun j hj => h j (by simp [hj]))⟩
/-- May these operations run in any order, ahead of all others? -/
def okRun (all : Array Oper) (listed : Array Bool) (idx : List Nat) (k0 : List Nat) : Bool :=
 (idx.all fun i => !listed.getD i true && (match all[i]? with
  | some o => (match o.dst with | some d => !k0.contains d | none => false) && o.after.toList.all (fun e => !Region.binds .any e || (Nat.blt e.on i && (idx.contains e.on || listed.getD e.on false)))
  | none => false)) &&
 ((List.range all.size).all fun j => idx.contains j || listed.getD j true || (match all[j]? with
   | some o => idx.all (fun i => o.after.toList.any (fun e => Nat.beq e.on i && Region.binds .any e))
   | none => true)) &&
 (idx.all fun i => idx.all fun j => Nat.beq i j || !(match all[i]?, all[j]? with | some o, some o' => o.dst == o'.dst | _, _ => false))
def zGW (listed : Array Bool) (idx : List Nat) : Array Bool := idx.foldl (fun a i => a.setIfInBounds i true) listed
theorem zFX : ∀ (idx : List Nat) (listed : Array Bool), (zGW listed idx).size = listed.size
 | [], _ => have _p := ‹Pins›; rfl
 | i :: r, listed => by
  have := zFX r (listed.setIfInBounds i true)
  simpa [zGW] using this
theorem zGX : ∀ (idx : List Nat) (listed : Array Bool) (j : Nat), j < listed.size → (zGW listed idx)[j]? = if j ∈ idx then some true else listed[j]?
 | [], _, j, _ => have _p := ‹Pins›; by simp [zGW]
 | i :: r, listed, j, hj => by
  have h := zGX r (listed.setIfInBounds i true) j (by simpa using hj)
  have e : zGW listed (i :: r) = zGW (listed.setIfInBounds i true) r := rfl
  rw [e, h]
  by_cases h1 : j ∈ r
  ·simp [h1]
  ·by_cases h2 : i = j
   ·subst h2; simp [h1, hj]
   ·have h3 : ¬ j = i := fun e => h2 e.symm
    simp [h1, h2, h3, Array.getElem?_setIfInBounds]
def unl (cur : Array Bool) (st : Steps) : Nat := (st.filter (fun s => !cur.getD s.1 true)).length
theorem zq {all : Array Oper} {fuel : Nat} {listed listed' : Array Bool} (idx : List Nat) (K0 : Fr) (hK : zCE fr K0) (hok : okRun all listed idx (K0.map (·.1)) = true) (hnd : idx.Nodup) (hd : zDQ fn.ntmps all.toList = true) (hl : zGW listed idx = listed')
 (h : zEF P fn c H all K0 idx [] (fun st => Ax P fn c (.any all fuel listed' k) (st.map (·.2) ++ K0) H)) : Ax P fn c (.any all (fuel + idx.length) listed k) fr H := by
 obtain ⟨st, hG, hidx, hst⟩ := zGR h (fun s hs => by simp at hs)
 rw [List.map_nil, List.append_nil] at hidx
 clear h
 unfold okRun at hok
 simp only [Bool.and_eq_true] at hok
 obtain ⟨⟨ok1, ok2⟩, ok3⟩ := hok
 rw [List.all_eq_true] at ok1 ok2 ok3
 have hmem : ∀ i, i ∈ idx ↔ ∃ s ∈ st, s.1 = i := fun i => by
  have : i ∈ idx.reverse ↔ ∃ s ∈ st, s.1 = i := by rw [← hidx]; simp
  rw [← this, List.mem_reverse]
 have hlen : st.length = idx.length := by
  have := congrArg List.length hidx
  simpa using this
 have hnd' : (st.map (·.1)).Nodup := by rw [hidx]; exact (List.reverse_perm idx).nodup_iff.2 hnd
 have hlt : ∀ i ∈ idx, i < listed.size := fun i hi => by
  have := ok1 i hi
  simp only [Bool.and_eq_true, Bool.not_eq_true'] at this
  rcases Nat.lt_or_ge i listed.size with q | q
  ·exact q
  ·have h1 := this.1
   simp only [Array.getD, show ¬ i < listed.size by omega, dite_false] at h1
   cases h1
 -- the induction
 have key : ∀ (m : Nat) (cur : Array Bool) (fr : Fr), cur.size = listed.size → (∀ j, j ∉ idx → cur[j]? = listed[j]?) → unl cur st = m → (∀ s ∈ st, cur.getD s.1 true = true → look s.2.1 fr = some s.2.2) → zCE fr K0 → Ax P fn c (.any all (fuel + m) cur k) fr H := by
  intro m
  induction m with
  | zero =>
   intro cur fr hcs hco hcm hck hk0
   have hall : ∀ s ∈ st, cur.getD s.1 true = true := fun s hs => by
    cases hq : cur.getD s.1 true with
    | true => rfl
    | false =>
     exfalso
     have h0 : st.filter (fun s => !cur.getD s.1 true) = [] := List.length_eq_zero_iff.1 hcm
     have : s ∈ st.filter (fun s => !cur.getD s.1 true) := List.mem_filter.2 ⟨hs, by rw [hq]; rfl⟩
     rw [h0] at this; simp at this
   have hcur : cur = listed' := by
    rw [← hl]
    apply Array.ext_getElem?
    intro j
    rcases Nat.lt_or_ge j listed.size with q | q
    ·rw [zGX idx listed j q]
     by_cases hj : j ∈ idx
     ·rw [if_pos hj]
      obtain ⟨s, hs1, hs2⟩ := (hmem j).1 hj
      have := hall s hs1
      rw [hs2] at this
      simp only [Array.getD, show j < cur.size by omega, dite_true] at this
      rw [Array.getElem?_eq_getElem (by omega)]
      exact congrArg some this
     ·rw [if_neg hj]; exact hco j hj
    ·rw [Array.getElem?_eq_none (by omega), Array.getElem?_eq_none (by rw [zFX]; omega)]
   subst hcur
   intro w a σ S hr
   refine hG w a σ S (hr.weaken (zDG fun p hp => ?_))
   rcases List.mem_append.1 hp with q | q
   ·obtain ⟨s, q1, q2⟩ := List.mem_map.1 q
    rw [← q2]; exact hck s q1 (hall s q1)
   ·exact zDH hk0 p q
  | succ m ih =>
   intro cur fr hcs hco hcm hck hk0
   -- some step is left
   obtain ⟨s0, hs0, hs0u⟩ : ∃ s ∈ st, cur.getD s.1 true = false := by
    rcases hq : st.filter (fun s => !cur.getD s.1 true) with _ | ⟨s, r⟩
    ·unfold unl at hcm; rw [hq] at hcm; simp at hcm
    ·have : s ∈ st.filter (fun s => !cur.getD s.1 true) := by rw [hq]; simp
     obtain ⟨h1, h2⟩ := List.mem_filter.1 this
     exact ⟨s, h1, by simpa using h2⟩
   have hsub : ∀ i ∈ Region.ready .any all cur, i ∈ idx ∧ cur.getD i true = false := by
    intro i hi
    obtain ⟨h1, o, ho, hdeps⟩ := mem_ready.1 hi
    refine ⟨?_, h1⟩
    apply Classical.byContradiction
    intro hni
    have hjs : i < all.size := (Array.getElem?_eq_some_iff.1 ho).1
    have := ok2 i (List.mem_range.2 hjs)
    simp only [Bool.or_eq_true, ho] at this
    rcases this with (q | q) | q
    ·exact hni (by simpa using q)
    ·have hco' := hco i hni
     have h2 : listed.getD i true = cur.getD i true := by
      simp only [Array.getD_eq_getD_getElem?, hco']
     rw [h2, h1] at q; cases q
    ·rw [List.all_eq_true] at q
     have := q s0.1 ((hmem s0.1).2 ⟨s0, hs0, rfl⟩)
     obtain ⟨e, he1, he2⟩ := List.any_eq_true.1 this
     rw [Bool.and_eq_true] at he2
     have h3 := hdeps e (Array.mem_toList_iff.1 he1) he2.2
     rw [Nat.eq_of_beq_eq_true he2.1] at h3
     have hsz := hlt s0.1 ((hmem s0.1).2 ⟨s0, hs0, rfl⟩)
     simp only [Array.getD, show s0.1 < cur.size by omega, dite_true] at h3 hs0u
     rw [h3] at hs0u; cases hs0u
   have hne : Region.ready .any all cur ≠ [] := by
    intro h0
    -- the least one that is left
    have hex : ∃ i, i ∈ idx ∧ cur.getD i true = false := ⟨s0.1, (hmem s0.1).2 ⟨s0, hs0, rfl⟩, hs0u⟩
    have least : ∀ n i, i ≤ n → i ∈ idx → cur.getD i true = false → False := by
     intro n
     induction n with
     | zero =>
      intro i hi him hiu
      have h1 := ok1 i him
      simp only [Bool.and_eq_true] at h1
      cases hoo : all[i]? with
      | none => rw [hoo] at h1; exact absurd h1.2 (by simp)
      | some o =>
       rw [hoo] at h1
       simp only [Bool.and_eq_true] at h1
       have h2 := List.all_eq_true.1 h1.2.2
       have : i ∈ Region.ready .any all cur := mem_ready.2 ⟨hiu, o, hoo, fun e he hb => by
        have := h2 e (Array.mem_toList_iff.2 he)
        rw [hb] at this
        simp only [Bool.not_true, Bool.false_or, Bool.and_eq_true] at this
        have := Nat.le_of_ble_eq_true this.1
        omega⟩
       rw [h0] at this; simp at this
     | succ n ihn =>
      intro i hi him hiu
      have h1 := ok1 i him
      simp only [Bool.and_eq_true] at h1
      cases hoo : all[i]? with
      | none => rw [hoo] at h1; exact absurd h1.2 (by simp)
      | some o =>
       rw [hoo] at h1
       simp only [Bool.and_eq_true] at h1
       have h2 := List.all_eq_true.1 h1.2.2
       have : i ∈ Region.ready .any all cur := mem_ready.2 ⟨hiu, o, hoo, fun e he hb => by
        have h3 := h2 e (Array.mem_toList_iff.2 he)
        rw [hb] at h3
        simp only [Bool.not_true, Bool.false_or, Bool.and_eq_true, Bool.or_eq_true] at h3
        have hlt' : e.on < i := Nat.le_of_ble_eq_true h3.1
        by_cases hei : e.on ∈ idx
        ·cases hq : cur.getD e.on true with
         | false => exact (ihn e.on (by omega) hei hq).elim
         | true =>
          have hsz := hlt e.on hei
          simp only [Array.getD, show e.on < cur.size by omega, dite_true] at hq ⊢
          exact hq
        ·rcases h3.2 with q | q
         ·exact absurd (by simpa using q) hei
         ·have h2 : cur.getD e.on false = listed.getD e.on false := by simp only [Array.getD_eq_getD_getElem?, hco e.on hei]
          rw [h2]; exact q⟩
       rw [h0] at this; simp at this
    obtain ⟨i, hi1, hi2⟩ := hex
    exact least i i (Nat.le_refl _) hi1 hi2
   refine zF Z hne hd (zJv (fun i hi o ho => ?_))
   obtain ⟨him, hiu⟩ := hsub i hi
   obtain ⟨s, hs1, hs2⟩ := (hmem i).1 him
   obtain ⟨o', K, g1, g2, g3, g4⟩ := hst s hs1
   rw [hs2, ho] at g1
   obtain rfl := Option.some.inj g1
   obtain ⟨_, o2, ho2, hdeps⟩ := mem_ready.1 hi
   rw [ho] at ho2
   obtain rfl := Option.some.inj ho2
   refine g3 _ fr (zDG fun p hp => ?_) (zR (zAF ?_))
   ·rcases g4 p hp with q | ⟨s', q1, ⟨e, q2, q3, q4⟩, q5⟩
    ·exact zDH hk0 p q
    ·have h1 := hdeps e q2 q3
     rw [q4] at h1
     rw [← q5]
     refine hck s' q1 ?_
     have hsz := hlt s'.1 ((hmem s'.1).2 ⟨s', q1, rfl⟩)
     simp only [Array.getD, show s'.1 < cur.size by omega, dite_true] at h1 ⊢
     exact h1
   ·have hisz := hlt i him
    refine ih (cur.setIfInBounds i true) _ (by simpa using hcs) (fun j hj => ?_) ?_ (fun s' hs' hu => ?_) ?_
    ·rw [Array.getElem?_setIfInBounds_ne (show i ≠ j from fun e => hj (e ▸ him))]; exact hco j hj
    ·-- one less
     have hf : st.filter (fun s' => !(cur.setIfInBounds i true).getD s'.1 true) = (st.filter (fun s' => !cur.getD s'.1 true)).filter (fun s' => decide (s'.1 ≠ i)) := by
      rw [List.filter_filter]
      congr 1
      funext s'
      by_cases hq : s'.1 = i
      ·rw [hq]; simp [Array.getD, show i < cur.size by omega]
      ·have hq' : ¬ i = s'.1 := fun e => hq e.symm
       simp [Array.getD_eq_getD_getElem?, Array.getElem?_setIfInBounds, hq, hq']
     unfold unl at hcm ⊢
     rw [hf]
     have hmemf : s ∈ st.filter (fun s' => !cur.getD s'.1 true) := List.mem_filter.2 ⟨hs1, by rw [hs2, hiu]; rfl⟩
     have hndf : ((st.filter (fun s' => !cur.getD s'.1 true)).map (·.1)).Nodup := List.Nodup.sublist (List.Sublist.map _ List.filter_sublist) hnd'
     revert hcm hmemf hndf
     generalize st.filter (fun s' => !cur.getD s'.1 true) = L
     intro hcm hmemf hndf
     have gen : ∀ (L : Steps) (n : Nat), L.length = n + 1 → s ∈ L → (L.map (·.1)).Nodup → (L.filter (fun s' => decide (s'.1 ≠ i))).length = n := by
      intro L
      induction L with
      | nil => intro n h; simp at h
      | cons x r ihL =>
       intro n hn hm hnd
       simp only [List.map_cons, List.nodup_cons] at hnd
       rcases List.mem_cons.1 hm with rfl | hm
       ·have hno : ∀ y ∈ r, y.1 ≠ i := fun y hy e => hnd.1 (List.mem_map.2 ⟨y, hy, by rw [e, hs2]⟩)
        have : (r.filter (fun s' => decide (s'.1 ≠ i))) = r := List.filter_eq_self.2 (fun y hy => by simpa using hno y hy)
        rw [List.filter_cons_of_neg (by simp [hs2]), this]
        simpa using hn
       ·have hx : x.1 ≠ i := fun e => hnd.1 (List.mem_map.2 ⟨s, hm, by rw [hs2, e]⟩)
        have hr0 : 0 < r.length := List.length_pos_iff.2 (by rintro rfl; simp at hm)
        obtain ⟨n', rfl⟩ : ∃ n', n = n' + 1 := ⟨n - 1, by simp at hn; omega⟩
        rw [List.filter_cons_of_pos (by simpa using hx), List.length_cons, ihL n' (by simpa using hn) hm hnd.2]
     exact gen L m hcm hmemf hndf
    ·by_cases hq : s'.1 = i
     ·have : s' = s := by
       have h1 : s ∈ st := hs1
       have hinj : ∀ (L : Steps), (L.map (·.1)).Nodup → ∀ x ∈ L, ∀ y ∈ L, x.1 = y.1 → x = y := by
        intro L
        induction L with
        | nil => intro _ x hx; simp at hx
        | cons z r ihL =>
         intro hnd x hx y hy hxy
         simp only [List.map_cons, List.nodup_cons] at hnd
         rcases List.mem_cons.1 hx with hx | hx <;> rcases List.mem_cons.1 hy with hy | hy
         ·rw [hx, hy]
         ·exact absurd (List.mem_map.2 ⟨y, hy, by rw [← hxy, hx]⟩) hnd.1
         ·exact absurd (List.mem_map.2 ⟨x, hx, by rw [hxy, hy]⟩) hnd.1
         ·exact ihL hnd.2 x hx y hy hxy
       exact hinj st hnd' s' hs' s hs1 (by rw [hq, hs2])
      rw [this]
      exact zMg _ _ _
     ·have h1 : cur.getD s'.1 true = true := by
       have hq' : ¬ i = s'.1 := fun e => hq e.symm
       simpa [Array.getD_eq_getD_getElem?, Array.getElem?_setIfInBounds, hq'] using hu
      have h2 := hck s' hs' h1
      -- another slot
      have hne2 : s'.2.1 ≠ s.2.1 := by
       intro e
       obtain ⟨o3, _, f1, f2, _, _⟩ := hst s' hs'
       have h3 := List.all_eq_true.1 (ok3 s'.1 ((hmem s'.1).2 ⟨s', hs', rfl⟩)) i him
       rw [f1, ho] at h3
       simp only [Bool.or_eq_true, Bool.not_eq_true', f2, g2] at h3
       rcases h3 with h3 | h3
       ·exact hq (Nat.eq_of_beq_eq_true h3)
       ·rw [e] at h3; simp at h3
      show (bif Nat.beq s'.2.1 s.2.1 then some s.2.2 else look s'.2.1 fr) = _
      rw [zr hne2]; exact h2
    ·refine zDG fun p hp => ?_
     have h1 := ok1 i him
     simp only [Bool.and_eq_true] at h1
     rw [ho] at h1
     simp only [g2, Bool.and_eq_true, Bool.not_eq_true'] at h1
     have hne3 : p.1 ≠ s.2.1 := by
      intro e
      have : (K0.map (·.1)).contains s.2.1 = true := by
       rw [List.contains_iff_mem]
       exact List.mem_map.2 ⟨p, hp, e⟩
      rw [h1.2.1] at this; cases this
     show (bif Nat.beq p.1 s.2.1 then some s.2.2 else look p.1 fr) = _
     rw [zr hne3]; exact zDH hk0 p hp
 have hm0 : unl listed st = idx.length := by
  unfold unl
  rw [List.filter_eq_self.2 (fun s hs => ?_), hlen]
  have := ok1 s.1 ((hmem s.1).2 ⟨s, hs, rfl⟩)
  simp only [Bool.and_eq_true] at this
  exact this.1
 have := key idx.length listed fr rfl (fun _ _ => rfl) hm0 (fun s hs hu => by
  have h1 := ok1 s.1 ((hmem s.1).2 ⟨s, hs, rfl⟩)
  simp only [Bool.and_eq_true, Bool.not_eq_true'] at h1
  rw [h1.1] at hu; cases hu) hK
 exact this
variable {ind : Bool} {d : Option Nat} {ty : TypeId} {pos : String} {after : Array Edge} {g : Option (Nat × Bool)}
/-- Reading a part of a variable that is a struct. -/
theorem zDo {x : Operand} {t : TypeId} {u : TypeDesc} {h i j : Nat} {ob : AObj} {inf : TypeInfo} {L : List AV} (ht : P.underlying t = some u) (hu : zBa u = true) (hinf : P.info? t = some inf) (hsz : Nat.ble (j + inf.size) ob.c.sz = true) (hx : ev fr x = some (.ptr h i j)) (hh : H[h]? = some (some ob))
 (hL : (List.range inf.size).map (fun e => ob.c.at i (j + e)) = L) (hi : i < ob.c.len) : QOp false P fn c fr H ⟨d, .load t x, ty, pos, after, g⟩ (.agg L) := by
 intro w a σ S hr
 have h1 := hr.evAt hx
 subst hL
 have hsz' := Nat.le_of_ble_eq_true hsz
 generalize hz : a.eval x = z at h1
 cases h1 with
 | ptr _ _ _ _ b s C hσ =>
  obtain ⟨hs', cur, g1, g2, g3, g4, g5, g6⟩ := hr.obj hh hσ
  subst hs'
  have hcell : ∀ w' : World, w'.heap = w.heap → ∀ e, e < inf.size → ∃ y, w'.cell? ⟨b, i * ob.c.sz + j + e, none⟩ = some y ∧ VR w S σ (ob.c.at i (j + e)) y ∧ y.oneCell' = true := by
   intro w' hw e he
   obtain ⟨y, e1, e2, e3⟩ := g6 i (j + e) hi (by omega)
   obtain ⟨mk, g1, _, _⟩ := g1.cells (by omega)
   exact ⟨y, by simp [World.cell?, hw, g1, Nat.add_assoc, e1], e2, e3⟩
  let cs : List Value := (List.range inf.size).map (fun e => (w.cell? ⟨b, i * ob.c.sz + j + e, none⟩).getD undef)
  refine ⟨.agg cs.toArray, .agg _ _ _ (by simp [cs]) (fun e he => ?_) (fun e he => ?_), fun w' hw => ?_⟩
  ·have he' : e < inf.size := by simpa using he
   obtain ⟨y, e1, e2, _⟩ := hcell w rfl e he'
   simpa [cs, Array.getD, he', e1, List.getD] using e2
  ·have he' : e < inf.size := by simpa using he
   obtain ⟨y, e1, _, e3⟩ := hcell w rfl e he'
   simpa [cs, Array.getD, he', e1] using e3
  ·have hw := hw.resolve_left (by decide)
   have hl := run_loadCells_list (P := P) w' ⟨b, i * ob.c.sz + j, none⟩ cs (fun e v hv => by
    have he : e < inf.size := by simpa [cs] using (List.getElem?_eq_some_iff.1 hv).1
    obtain ⟨y, e1, _, _⟩ := hcell w rfl e he
    simp only [cs, List.getElem?_map, List.getElem?_range he, Option.map_some, Option.some.injEq] at hv
    subst hv
    rw [e1, Addr.add_lit]
    have := World.cell?_of_block (w := w) (w' := w') (a := ⟨b, i * ob.c.sz + j + e, none⟩) (by rw [hw])
    rw [this, e1]; rfl)
   have hcl : cs.length = inf.size := by simp [cs]
   rw [hcl] at hl
   have hz' : a.eval x = .pointer (some ⟨b, i * ob.c.sz + j, none⟩) := by rw [hz]
   simp [execOp, hz', Instr.loadAt, Instr.sureAddr, loadVar, zD4 ht, hu, sizeOf, typeInfo, hinf, hl]
end
end Go.Ax
namespace Go.Ax
variable [Pins]
open Go.RowKit
section
variable {ind : Bool} {P : Program} {fn : Func} {c : Ctx} {fr : Fr} {H : zN} {k : List It}
variable {d : Option Nat} {ty : TypeId} {pos : String} {after : Array Edge} {g : Option (Nat × Bool)}
theorem zMO {all : Array Oper} {t : TypeId} {x y : Operand} {ty : TypeId} {pos : String} {after : Array Edge} {rest : List Oper} {h i j s : Nat} {ob : AObj} {L : List AV} {c' : Cells}
 (hx : ev fr x = some (.ptr h i j)) (hy : ev fr y = some (.agg L)) (hs : (P.info? t).map (·.size) = some s) (hh : H[h]? = some (some ob)) (hl : L.length = s) (hj : j + s ≤ ob.c.sz) (hi : i < ob.c.len)
 (h1 : c'.len = ob.c.len) (h2 : c'.sz = ob.c.sz) (h3 : ∀ i' j', i' < ob.c.len → j' < ob.c.sz → c'.at i' j' = if i' = i ∧ j ≤ j' ∧ j' < j + s then L.getD (j' - j) .any else ob.c.at i' j')
 (hk : Ax P fn c (.ops false all rest k) fr (H.set h (some ⟨ob.ty, c'⟩))) (hz0 : ob.c.sz ≠ 0 := by (intro hh; cases hh)) : Ax P fn c (.ops false all (⟨none, .store t x y, ty, pos, after, none⟩ :: rest) k) fr H := by
 refine ax_w0 (fun w a σ S hr => ?_) hk
 have e1 := hr.evAt hx
 have e2 := hr.evAt hy
 generalize hz : a.eval x = z at e1
 generalize hzy : a.eval y = u at e2
 cases e2 with
 | agg _ _ vs hvl hvv hv1 =>
  cases e1 with
  | ptr _ _ _ _ b s' C hσ =>
   obtain ⟨hs', cur, g1, g2, g3, g4, g5, g6⟩ := hr.obj hh hσ
   subst hs'
   obtain ⟨mk, g1, hmk, hrow⟩ := g1.cells hz0
   have hfit : i * ob.c.sz + ob.c.sz ≤ cur.size := by
    rw [g2]
    have : (i + 1) * ob.c.sz ≤ C * ob.c.sz := Nat.mul_le_mul_right _ (by omega)
    rw [Nat.add_mul] at this; omega
   have hvsz : vs.size = s := by rw [hvl, hl]
   have hst := zB9 P b (i * ob.c.sz + j) ob.ty mk vs.toList 0 cur w g1 hmk (by simp [hvsz]; omega) (fun v hv => by
    obtain ⟨j, hj, rfl⟩ := List.getElem_of_mem hv
    have hj' : j < vs.size := by simpa using hj
    have := hv1 j (by rw [← hvl]; exact hj')
    simpa [Array.getD, hj'] using this)
   simp only [Nat.add_zero] at hst
   generalize hcur : (cur.toList.take (i * ob.c.sz + j) ++ vs.toList ++ cur.toList.drop (i * ob.c.sz + j + vs.toList.length)).toArray = cur' at hst
   have hlen' : cur'.size = cur.size := by rw [← hcur]; simp [hvsz]; omega
   have hat : ∀ p, p < cur.size → cur'[p]? = if i * ob.c.sz + j ≤ p ∧ p < i * ob.c.sz + j + s then vs[p - (i * ob.c.sz + j)]? else cur[p]? := by
    intro p hp
    rw [← hcur]
    simp only [List.getElem?_toArray, List.append_assoc]
    by_cases c1 : p < i * ob.c.sz + j
    ·rw [List.getElem?_append_left (by simp; omega), List.getElem?_take, if_pos c1, if_neg (by omega)]; simp
    ·rw [List.getElem?_append_right (by simp; omega)]
     have ht : (cur.toList.take (i * ob.c.sz + j)).length = i * ob.c.sz + j := by simp; omega
     rw [ht]
     by_cases c2 : p < i * ob.c.sz + j + s
     ·rw [List.getElem?_append_left (by simp [hvsz]; omega), if_pos ⟨by omega, c2⟩]; simp
     ·rw [List.getElem?_append_right (by simp [hvsz]; omega), if_neg (by omega)]
      simp only [Array.length_toList, hvsz, List.getElem?_drop, Array.getElem?_toList]
      congr 1; omega
   refine ⟨w.setRow b cur', σ, S, ?_, hr.setRow hh hσ hrow h2 (by omega) (by rw [hlen', g2]) (fun i' j' hi' hj' => ?_)⟩
   ·simp only [execOp, hz, hzy, Instr.storeAt, Instr.sureAddr, storeVar, Sem.run_bind, Sem.run_pure, Result.andThen_ok, zMv hs, Value.cells, hvsz]
    simp [hst]
   ·rw [h1] at hi'
    rw [h2] at hj' ⊢
    rw [h3 i' j' hi' hj']
    have hp : i' * ob.c.sz + j' < cur.size := by
     rw [g2]
     have : (i' + 1) * ob.c.sz ≤ C * ob.c.sz := Nat.mul_le_mul_right _ (by omega)
     rw [Nat.add_mul] at this; omega
    rw [hat _ hp]
    by_cases he : i' = i ∧ j ≤ j' ∧ j' < j + s
    ·obtain ⟨he, q1, q2⟩ := he
     subst he
     rw [if_pos (show i' * ob.c.sz + j ≤ i' * ob.c.sz + j' ∧ i' * ob.c.sz + j' < i' * ob.c.sz + j + s from ⟨by omega, by omega⟩), if_pos ⟨rfl, q1, q2⟩]
     have hjv : j' - j < vs.size := by omega
     have e3 : i' * ob.c.sz + j' - (i' * ob.c.sz + j) = j' - j := by omega
     rw [e3]
     refine ⟨vs.getD (j' - j) undef, by simp [Array.getD, hjv], hvv (j' - j) (by omega), hv1 (j' - j) (by omega)⟩
    ·rw [if_neg he]
     have hne : ¬ (i * ob.c.sz + j ≤ i' * ob.c.sz + j' ∧ i' * ob.c.sz + j' < i * ob.c.sz + j + s) := by
      rintro ⟨q1, q2⟩
      by_cases hii : i' = i
      ·subst hii; exact he ⟨rfl, by omega, by omega⟩
      rcases Nat.lt_or_gt_of_ne hii with hlt | hlt
      ·have : (i' + 1) * ob.c.sz ≤ i * ob.c.sz := Nat.mul_le_mul_right _ hlt
       rw [Nat.add_mul] at this; omega
      ·have : (i + 1) * ob.c.sz ≤ i' * ob.c.sz := Nat.mul_le_mul_right _ hlt
       rw [Nat.add_mul] at this; omega
     rw [if_neg hne]
     exact g6 i' j' hi' hj'
/-- Own objects of one kind, one behind the other. -/
def zCJ {α : Type} (t : TypeId) (f : α → Cells) (l : List α) : zN := l.map (fun a => some ⟨t, f a⟩)
theorem zF0 {α : Type} (t : TypeId) (f : α → Cells) (l : List α) : (zCJ t f l).length = l.length := by have _p := ‹Pins›; simp [zCJ]
theorem zRH {α : Type} (t : TypeId) (f : α → Cells) (l : List α) (d : α) {i : Nat} (hi : i < l.length) : (zCJ t f l)[i]? = some (some ⟨t, f (l.getD i d)⟩) := by
 have _p := ‹Pins›
 simp [zCJ, List.getD, hi]
theorem zRI {α : Type} (t : TypeId) (f : α → Cells) (l : List α) (i : Nat) (x : α) : (zCJ t f l).set i (some ⟨t, f x⟩) = zCJ t f (l.set i x) := by
 have _p := ‹Pins›
 simp [zCJ, List.map_set]
theorem zO9 {α : Type} (t : TypeId) (f : α → Cells) (l : List α) (x : α) : zCJ t f l ++ [some ⟨t, f x⟩] = zCJ t f (l ++ [x]) := by
 have _p := ‹Pins›
 simp [zCJ]
/-- The heap that stands before the many. -/
theorem at_front {A B : zN} {h : Nat} (hh : h < A.length) : (A ++ B)[h]? = A[h]? := by
 have _p := ‹Pins›
 exact List.getElem?_append_left hh
theorem zD8 {A B : zN} {h i : Nat} (hh : h = A.length + i) : (A ++ B)[h]? = B[i]? := by
 have _p := ‹Pins›
 subst hh
 rw [List.getElem?_append_right (by omega)]
 congr 1; omega
theorem zCA {A B : zN} {h i : Nat} (x : Option AObj) (hh : h = A.length + i) : (A ++ B).set h x = A ++ B.set i x := by
 have _p := ‹Pins›
 subst hh
 rw [List.set_append_right _ _ (by omega)]
 congr 2; omega
theorem zRh {A B : zN} {h : Nat} (x : Option AObj) (hh : h < A.length) : (A ++ B).set h x = A.set h x ++ B := by
 have _p := ‹Pins›
 rw [List.set_append_left _ _ hh]
end
end Go.Ax
namespace Go.Ax
variable [Pins]
open Go.RowKit
mutual
/-- The objects stand behind N others. -/
def AV.shift (N : Nat) : AV → AV
 | .sl h i n => .sl (h + N) i n
 | .ptr h i j => .ptr (h + N) i j
 | .fn f l => .fn f (AV.shifts N l)
 | .agg l => .agg (AV.shifts N l)
 | .tup l => .tup (AV.shifts N l)
 | .mp h => .mp (h + N)
 | v => v
def AV.shifts (N : Nat) : List AV → List AV
 | [] => []
 | v :: r => v.shift N :: AV.shifts N r
end
theorem zAo (N : Nat) (l : List AV) : (AV.shifts N l).length = l.length := by
 have _p := ‹Pins›
 induction l with
 | nil => rfl
 | cons v r ih => simp [AV.shifts, ih]
theorem zDY (N : Nat) (l : List AV) (i : Nat) (hi : i < l.length) : (AV.shifts N l).getD i .any = (l.getD i .any).shift N := by
 have _p := ‹Pins›
 induction l generalizing i with
 | nil => simp at hi
 | cons v r ih => cases i with
  | zero => rfl
  | succ i => simpa [AV.shifts] using ih i (by simpa using hi)
theorem VR.shift {w : World} {S : Nat → Prop} {σ : Nat → Option Blk} {x : AV} {v : Value} {N : Nat} (hv : VR w S σ x v) : ∀ σ' : Nat → Option Blk, (∀ h B, σ h = some B → σ' (h + N) = some B) → VR w S σ' (x.shift N) v := by
 induction hv with
 | int => intros; constructor
 | bool => intros; constructor
 | str => intros; constructor
 | nil => intros; constructor
 | ro0 => intros; constructor
 | ro σ c i len b o cap val hSb hlen hc hv h1 ih => intro σ' _; exact .ro _ _ _ _ _ _ _ val hSb hlen hc hv h1
 | sl σ h' i len b s C cap hσ hlen hcap => intro σ' hs; exact .sl _ _ _ _ _ _ _ _ (hs _ _ hσ) hlen hcap
 | sl0 σ h' hσ => intro σ' hs; exact .sl0 _ _ (hs _ _ hσ)
 | rp σ c i j b o val hSb hc hv h1 ih => intro σ' _; exact .rp _ _ _ _ _ _ val hSb hc hv h1
 | ptr σ h' i j b s C hσ => intro σ' hs; exact .ptr _ _ _ _ _ _ _ (hs _ _ hσ)
 | nilp => intros; constructor
 | fn σ f cap vs hl hv ih => intro σ' hs; exact .fn _ _ _ _ (by rw [zAo]; exact hl) (fun i hi => by rw [zAo] at hi; rw [zDY N cap i hi]; exact ih i hi σ' hs)
 | nilfn => intros; constructor
 | iface => intros; constructor
 | nilif => intros; constructor
 | agg σ l vs hl hv h1 ih => intro σ' hs; exact .agg _ _ _ (by rw [zAo]; exact hl) (fun i hi => by rw [zAo] at hi; rw [zDY N l i hi]; exact ih i hi σ' hs) (fun i hi => h1 i (by rwa [zAo] at hi))
 | tup σ l vs hl hv ih => intro σ' hs; exact .tup _ _ _ (by rw [zAo]; exact hl) (fun i hi => by rw [zAo] at hi; rw [zDY N l i hi]; exact ih i hi σ' hs)
 | mp σ h' b hσ => intro σ' hs; exact .mp _ _ _ (hs _ _ hσ)
 | rom σ ks vs b es clock e hSb hb hn hl hd he hk hv => intro σ' hs; exact .rom _ _ _ b es clock e hSb hb hn hl hd he hk hv
 | any => intros; constructor
def Cells.shift (N : Nat) : Cells → Cells
 | .ints k l => .ints k l
 | .strs l => .strs l
 | .box l => .box (AV.shifts N l)
 | .mp ks vs => .mp (AV.shifts N ks) (AV.shifts N vs)
 | .fn n s f => .fn n s (fun i j => (f i j).shift N)
theorem Cells.shift_len (N : Nat) (c : Cells) : (c.shift N).len = c.len := by have _p := ‹Pins›; cases c <;> rfl
theorem Cells.shift_sz (N : Nat) (c : Cells) : (c.shift N).sz = c.sz := by
 cases c <;> first | rfl | exact zAo _ _
theorem Cells.shift_at (N : Nat) (c : Cells) (i j : Nat) (hj : j < c.sz) : (c.shift N).at i j = (c.at i j).shift N := by
 cases c with
 | box l => exact zDY N l j hj
 | _ => rfl
def zKt (N : Nat) : Option AObj → Option AObj
 | some o => some ⟨o.ty, o.c.shift N⟩
 | none => none
def zC8 (N : Nat) : zN → zN
 | [] => []
 | o :: r => zKt N o :: zC8 N r
theorem zKr (N : Nat) (H : zN) (i : Nat) : (zC8 N H)[i]? = (H[i]?).map (zKt N) := by
 have _p := ‹Pins›
 induction H generalizing i with
 | nil => simp [zC8]
 | cons o r ih => cases i with
  | zero => simp [zC8]
  | succ i => simpa [zC8] using ih i
theorem zLM (N : Nat) (H : zN) : (zC8 N H).length = H.length := by
 have _p := ‹Pins›
 induction H with
 | nil => rfl
 | cons o r ih => simp [zC8, ih]
theorem Lays.shift {w : World} {S : Nat → Prop} {σ σ' : Nat → Option Blk} {t : TypeId} {c : Cells} {b : Nat} {cur : Array Value} {C : Nat} {N : Nat} (hs : ∀ h B, σ h = some B → σ' (h + N) = some B)
 (hL : Lays w S σ ⟨t, c⟩ b cur C) : Lays w S σ' ⟨t, c.shift N⟩ b cur C := by
 have _p := ‹Pins›
 cases hL with
 | row mk h hm hC => exact .row mk h hm hC
 | map ks vs es clock hc hC h hn hl hd he =>
  simp only at hc
  subst hc
  exact .map _ _ es clock Z hC h (by rw [zAo]; exact hn) (by rw [zAo, zAo]; exact hl) hd (fun i hi => by
   rw [zAo] at hi
   obtain ⟨e, e1, e2, e3⟩ := he i hi
   exact ⟨e, e1, by rw [zDY _ _ _ hi]; exact e2.shift σ' hs, by rw [zDY _ _ _ (by omega)]; exact e3.shift σ' hs⟩)
def zEb (N : Nat) (σ σ0 : Nat → Option Blk) (h : Nat) : Option Blk := if h < N then σ h else σ0 (h - N)
theorem zHx {N : Nat} {σ σ0 : Nat → Option Blk} : ∀ h B, σ0 h = some B → zEb N σ σ0 (h + N) = some B := by
 have _p := ‹Pins›
 intro h B hB
 unfold zEb
 rw [if_neg (by omega), Nat.add_sub_cancel]; exact hB
theorem HR.join {w : World} {S : Nat → Prop} {σ σ0 : Nat → Option Blk} {H H0 : zN} (h : HR w S σ H) (h0 : HR w S σ0 H0)
 (hd : ∀ h h' o o' b s C s' C', H[h]? = some (some o) → H0[h']? = some (some o') → σ h = some (.at b s C) → σ0 h' = some (.at b s' C') → False) :
 HR w S (zEb H.length σ σ0) (H ++ zC8 H.length H0) := by
 have hfr : ∀ h B, σ h = some B → zEb H.length σ σ0 h = some B := by
  intro h' B hB
  unfold zEb
  split
  ·exact hB
  ·rename_i hl; rw [h.dom h' (by omega)] at hB; cases hB
 have hcase : ∀ h' o', (H ++ zC8 H.length H0)[h']? = some (some o') → (h' < H.length ∧ H[h']? = some (some o')) ∨ (H.length ≤ h' ∧ ∃ o, H0[h' - H.length]? = some (some o) ∧ o' = ⟨o.ty, o.c.shift H.length⟩) := by
  intro h' o' ho
  by_cases he : h' < H.length
  ·rw [List.getElem?_append_left he] at ho; exact .inl ⟨he, ho⟩
  ·rw [List.getElem?_append_right (by omega), zKr] at ho
   cases e : H0[h' - H.length]? with
   | none => rw [e] at ho; cases ho
   | some x =>
    rw [e] at ho
    cases x with
    | none => simp [zKt] at ho
    | some o => simp [zKt] at ho; exact .inr ⟨by omega, o, rfl, ho.symm⟩
 refine ⟨fun h' o' ho => ?_, fun h1 h2 o1 o2 b s C s' C' q1 q2 e1 e2 => ?_, h.small, fun h' hl => ?_⟩
 ·rcases hcase h' o' ho with ⟨hl, ho'⟩ | ⟨hl, o, ho', rfl⟩
  ·rcases h.live h' o' ho' with ⟨h1, h2⟩ | ⟨b, C, cur, h1, h2, h3, h4, h5, h6, h7⟩
   ·exact .inl ⟨hfr _ _ h1, h2⟩
   ·refine .inr ⟨b, C, cur, hfr _ _ h1, h2.mono Z (fun hv => hv.mono (fun _ h => h) (fun _ _ => rfl) _ hfr), h3, h4, h5, h6, fun i j hi hj => ?_⟩
    obtain ⟨v, e1, e2, e3⟩ := h7 i j hi hj
    exact ⟨v, e1, e2.mono (fun _ h => h) (fun _ _ => rfl) _ hfr, e3⟩
  ·have hj : zEb H.length σ σ0 h' = σ0 (h' - H.length) := by unfold zEb; rw [if_neg (by omega)]
   rw [hj]
   rcases h0.live _ o ho' with ⟨h1, h2⟩ | ⟨b, C, cur, h1, h2, h3, h4, h5, h6, h7⟩
   ·exact .inl ⟨h1, by rw [Cells.shift_len]; exact h2⟩
   ·refine .inr ⟨b, C, cur, by rw [Cells.shift_sz]; exact h1, Lays.shift zHx h2, by rw [Cells.shift_sz]; exact h3, h4, by rw [Cells.shift_len]; exact h5, h6, fun i j hi hj => ?_⟩
    rw [Cells.shift_len] at hi
    rw [Cells.shift_sz] at hj ⊢
    obtain ⟨v, e1, e2, e3⟩ := h7 i j hi hj
    exact ⟨v, e1, by rw [Cells.shift_at _ _ _ _ hj]; exact e2.shift _ zHx, e3⟩
 ·rcases hcase h1 o1 q1 with ⟨l1, r1⟩ | ⟨l1, x1, r1, rfl⟩ <;> rcases hcase h2 o2 q2 with ⟨l2, r2⟩ | ⟨l2, x2, r2, rfl⟩
  ·unfold zEb at e1 e2
   rw [if_pos l1] at e1
   rw [if_pos l2] at e2
   exact h.dist h1 h2 o1 o2 b s C s' C' r1 r2 e1 e2
  ·unfold zEb at e1 e2
   rw [if_pos l1] at e1
   rw [if_neg (by omega)] at e2
   exact (hd _ _ _ _ _ _ _ _ _ r1 r2 e1 e2).elim
  ·unfold zEb at e1 e2
   rw [if_neg (by omega)] at e1
   rw [if_pos l2] at e2
   exact (hd _ _ _ _ _ _ _ _ _ r2 r1 e2 e1).elim
  ·unfold zEb at e1 e2
   rw [if_neg (by omega)] at e1 e2
   have := h0.dist _ _ x1 x2 b s C s' C' r1 r2 e1 e2
   omega
 ·rw [List.length_append, zLM] at hl
  unfold zEb
  rw [if_neg (by omega)]
  exact h0.dom _ (by omega)
/-- All that a function makes belongs to its caller. -/
theorem zQ.lift {P : Program} {f : FuncId} {args : List AV} {fix : Nat → Prop} {K K' : AV → zN → Prop} {H : zN} (hc : zQ P f args [] fix K) (hfx : ∀ h, ¬ fix h) (hn : noRef.noRefs args = true)
 (hK : ∀ (r0 : AV) (H0 : zN), K r0 H0 → K' (r0.shift H.length) (H ++ zC8 H.length H0)) : zQ P f args H (fun h => h < H.length) K' := by
 refine ⟨hc.1, fun w σ S vals hp hr hf hv => ?_⟩
 have hp0 : zE0 w S (fun _ => none) [] := hp.less (fun _ h => h) (fun _ h => h.nil)
 refine (hc.2 w (fun _ => none) S vals hp0 hr.empty (fun h hh => absurd hh (hfx h)) (hv.closed hn _)).mono ?_
 rintro e w' ⟨v, r0, σ', S', H0, rfl, g1, g2, g3, g4⟩
 obtain ⟨a1, a2⟩ := HR.after hr g1 g3
 have a3 := a2 K' hp
 have hno : ∀ b, ¬ zFp (fun _ => none) [] b := by rintro b ⟨h, o, s, C, h1, _⟩; simp at h1
 have hlto : ∀ h o b s C, H[h]? = some (some o) → σ h = some (.at b s C) → b < w.heap.size := by
  intro h o b s C ho hb
  rcases hr.live h o ho with ⟨hn, _⟩ | ⟨b', C', cur, hσ', g, _⟩
  ·rw [hb] at hn; cases hn
  ·rw [hb] at hσ'
   simp only [Option.some.injEq, Blk.at.injEq] at hσ'
   rw [hσ'.1]
   exact g.lt
 have hnew : ∀ h o b s C, H0[h]? = some (some o) → σ' h = some (.at b s C) → w.heap.size ≤ b := by
  intro h o b s C ho hb
  rcases g3.own h o b s C ho hb with h3 | h3
  ·exact absurd h3 (hno b)
  ·exact h3
 have hj := a1.join g1 (fun h h' o o' b s C s' C' q1 q2 e1 e2 => by
  have := hlto h o b s C q1 e1
  have := hnew h' o' b s' C' q2 e2
  omega)
 refine ⟨v, _, _, S', _, Z, hj, g2.shift _ zHx, ⟨a3.os, a3.output, a3.tape, a3.size, a3.block, a3.S1, a3.S2, fun h hl => ?_, fun h hl => ?_, fun h o b s C ho hb => ?_⟩, hK r0 H0 g4⟩
 ·have hl : h < H.length := hl
  show zEb H.length σ σ' h = σ h
  unfold zEb; rw [if_pos hl]
 ·have hl : h < H.length := hl
  rw [List.length_append]; omega
 ·by_cases he : h < H.length
  ·rw [List.getElem?_append_left he] at ho
   unfold zEb at hb
   rw [if_pos he] at hb
   exact .inl ⟨h, o, s, C, ho, hb⟩
  ·rw [List.getElem?_append_right (by omega), zKr] at ho
   unfold zEb at hb
   rw [if_neg he] at hb
   cases e : H0[h - H.length]? with
   | none => rw [e] at ho; cases ho
   | some x =>
    rw [e] at ho
    cases x with
    | none => simp [zKt] at ho
    | some o' => exact .inr (hnew _ o' b s C e hb)
/-- A contract on a function that makes several objects: they are the caller's. -/
def MCall (P : Program) (f : FuncId) (args : List AV) (r : AV) (H0 : zN) : Prop := ∀ H, zQ P f args H (fun h => h < H.length) (fun r' H' => r' = r.shift H.length ∧ H' = H ++ zC8 H.length H0)
theorem zQ.many {P : Program} {f : FuncId} {args : List AV} {fix : Nat → Prop} {r : AV} {H0 : zN} (hc : zQ P f args [] fix (fun r' H' => r' = r ∧ H' = H0)) (hfx : ∀ h, ¬ fix h) (hn : noRef.noRefs args = true) : MCall P f args r H0 := fun H =>
 hc.lift hfx hn (fun r0 H1 h => by obtain ⟨rfl, rfl⟩ := h; exact ⟨rfl, rfl⟩)
section
variable {P : Program} {fn : Func} {c : Ctx} {fr : Fr} {H : zN} {k : List It} {all : Array Oper} {d : Nat} {g : Operand} {args : List Operand} {ats : Array TypeId} {ty : TypeId} {pos : String} {after : Array Edge} {rest : List Oper} {f : FuncId}
/-- A call that makes several objects. -/
theorem zIL {caps ags ags' : List AV} {r : AV} {H0 : zN} (r' : AV) (H' : zN) (hg : ev fr g = some (.fn f caps)) (ha : evs fr args = some ags) (has : ags ++ caps = ags') (hcall : MCall P f ags' r H0) (hr : r.shift H.length = r') (hH : H ++ zC8 H.length H0 = H')
 (hk : Ax P fn c (.ops false all rest k) ((d, r') :: fr) H') : Ax P fn c (.ops false all (⟨some d, .call { callee := .value g, args := args.toArray, argTypes := ats }, ty, pos, after, none⟩ :: rest) k) fr H :=
 zHH hg ha has (hcall H) (fun _ h => h) (fun _ h => h) (fun r1 H1 h => by obtain ⟨rfl, rfl⟩ := h; subst hr; subst hH; exact hk)
end
mutual
theorem zNj : ∀ (x : AV), noRef x = true → ∀ N, x.shift N = x
 | .int _ _, _, _ => rfl
 | .bool _, _, _ => rfl
 | .str _, _, _ => rfl
 | .nil, _, _ => rfl
 | .ro _ _ _, _, _ => rfl
 | .sl _ _ _, h, _ => by simp [noRef] at h
 | .rp _ _ _, _, _ => rfl
 | .ptr _ _ _, h, _ => by simp [noRef] at h
 | .nilp, _, _ => rfl
 | .fn f l, h, N => by
  have _p := ‹Pins›
  simp only [AV.shift]; rw [zEl l (by simpa [noRef] using h) N]
 | .nilfn, _, _ => rfl
 | .iface, _, _ => rfl
 | .nilif, _, _ => rfl
 | .agg l, h, N => by simp only [AV.shift]; rw [zEl l (by simpa [noRef] using h) N]
 | .tup l, h, N => by simp only [AV.shift]; rw [zEl l (by simpa [noRef] using h) N]
 | .mp _, h, _ => by simp [noRef] at h
 | .rom _ _, _, _ => rfl
 | .any, _, _ => rfl
theorem zEl : ∀ (l : List AV), noRef.noRefs l = true → ∀ N, AV.shifts N l = l
 | [], _, _ => rfl
 | v :: r, h, N => by
  have _p := ‹Pins›
  simp only [noRef.noRefs, Bool.and_eq_true] at h
  simp only [AV.shifts]
  rw [zNj v h.1 N, zEl r h.2 N]
end
end Go.Ax
namespace Go.Ax
variable [Pins]
open Go.RowKit
def zAn {α : Type} (O : AObj) (t : TypeId) (f : α → Cells) (X : List α) (L : zN) : zN := some O :: (zCJ t f X ++ L)
section
variable {α : Type} {O : AObj} {t : TypeId} {f : α → Cells} {X : List α} {L : zN}
theorem nest_len : (zAn O t f X L).length = X.length + 1 + L.length := by
 have _p := ‹Pins›
 unfold zAn
 rw [List.length_cons, List.length_append, zF0]; omega
theorem nest_row (d : α) {a : Nat} (ha : a < X.length) : (zAn O t f X L)[a + 1]? = some (some ⟨t, f (X.getD a d)⟩) := by
 have _p := ‹Pins›
 show (zCJ t f X ++ L)[a]? = _
 rw [at_front (by rw [zF0]; exact ha), zRH t f X d ha]
theorem nest_loc {j : Nat} : (zAn O t f X L)[X.length + 1 + j]? = L[j]? := by
 have _p := ‹Pins›
 rw [show X.length + 1 + j = (X.length + j) + 1 by omega]
 show (zCJ t f X ++ L)[X.length + j]? = _
 exact zD8 (by rw [zF0])
theorem zMl {a : Nat} (x : α) (ha : a < X.length) : (zAn O t f X L).set (a + 1) (some ⟨t, f x⟩) = zAn O t f (X.set a x) L := by
 have _p := ‹Pins›
 show some O :: (zCJ t f X ++ L).set a _ = _
 rw [zRh _ (by rw [zF0]; exact ha), zRI]; rfl
theorem zMk {j : Nat} (x : Option AObj) : (zAn O t f X L).set (X.length + 1 + j) x = zAn O t f X (L.set j x) := by
 have _p := ‹Pins›
 rw [show X.length + 1 + j = (X.length + j) + 1 by omega]
 show some O :: (zCJ t f X ++ L).set (X.length + j) x = _
 rw [zCA x (by rw [zF0])]; rfl
theorem nest_app (M : zN) : zAn O t f X L ++ M = zAn O t f X (L ++ M) := by
 have _p := ‹Pins›
 unfold zAn
 rw [List.cons_append, List.append_assoc]
/-- The same heap, told by other cells of the outer row and of the objects behind. -/
theorem zP.append {A A' B B' : zN} (h1 : zP A A') (h2 : zP B B') : zP (A ++ B) (A' ++ B') := by
 have _p := ‹Pins›
 refine ⟨by rw [List.length_append, List.length_append, h1.1, h2.1], fun h o' ho => ?_⟩
 by_cases hl : h < A'.length
 ·rw [List.getElem?_append_left hl] at ho
  rw [List.getElem?_append_left (by rw [← h1.1]; exact hl)]
  exact h1.2 h o' ho
 ·rw [List.getElem?_append_right (by omega)] at ho
  rw [List.getElem?_append_right (by have := h1.1; omega), ← h1.1]
  exact h2.2 _ o' ho
theorem zG3 {O' : AObj} {L' : zN} (h0 : O'.ty = O.ty ∧ CEq O.c O'.c) (hL : zP L L') : zP (zAn O t f X L) (zAn O' t f X L') := by
 have _p := ‹Pins›
 exact zP.cons (fun o ho => by cases ho; exact ⟨O, rfl, h0.1, h0.2⟩) (zP.append (zP.refl _) hL)
/-- Forgetting leaves rows that name nothing as they are. -/
theorem zJi (h : Nat) (hf : ∀ a, (f a).forget h = f a) : ∀ X : List α, zl h (zCJ t f X) = zCJ t f X
 | [] => have _p := ‹Pins›; rfl
 | a :: r => by
  have _p := ‹Pins›
  show some ⟨t, (f a).forget h⟩ :: zl h (zCJ t f r) = some ⟨t, f a⟩ :: zCJ t f r
  rw [hf a, zJi h hf r]
theorem zDR (h : Nat) : ∀ A B : zN, zl h (A ++ B) = zl h A ++ zl h B
 | [], B => have _p := ‹Pins›; rfl
 | a :: r, B => by
  have _p := ‹Pins›
  show zAp h a :: zl h (r ++ B) = zAp h a :: (zl h r ++ zl h B)
  rw [zDR h r B]
theorem zEJ (h : Nat) (hf : ∀ a, (f a).forget h = f a) : zl h (zAn O t f X L) = zAn ⟨O.ty, O.c.forget h⟩ t f X (zl h L) := by
 have _p := ‹Pins›
 show some ⟨O.ty, O.c.forget h⟩ :: zl h (zCJ t f X ++ L) = _
 rw [zDR, zJi h hf]; rfl
end
section
variable {ind : Bool} {P : Program} {fn : Func} {c : Ctx} {fr : Fr} {H : zN} {k : List It}
variable {d : Option Nat} {ty : TypeId} {pos : String} {after : Array Edge} {g : Option (Nat × Bool)}
/-- Where the object stands is known by a fact. -/
theorem zCt {x i : Operand} {t e : TypeId} {h o len ix : Nat} {ob : AObj} {k : IntKind} {m : Int} (ht : P.underlying t = some (.slice e)) (hx : ev fr x = some (.sl h o len)) (hi : ev fr i = some (.int k m)) (hh : H[h]? = some (some ob)) (hs : (P.info? e).map (·.size) = some ob.c.sz) (hix : o + m.toNat = ix) (hb : 0 ≤ m ∧ m < len) :
 QOp ind P fn c fr H ⟨d, .indexAddr t x i, ty, pos, after, g⟩ (.ptr h ix 0) := zBR ht hx hh hs hi hix hb
theorem zFj {x : Operand} {t : TypeId} {u : TypeDesc} {h i : Nat} {ob : AObj} {inf : TypeInfo} {L : List AV} (ht : P.underlying t = some u) (hu : zBa u = true) (hinf : P.info? t = some inf) (hx : ev fr x = some (.ptr h i 0)) (hh : H[h]? = some (some ob)) (hsz : inf.size = ob.c.sz)
 (hL : (List.range ob.c.sz).map (ob.c.at i) = L) (hi : i < ob.c.len) : QOp false P fn c fr H ⟨d, .load t x, ty, pos, after, g⟩ (.agg L) := zHm ht hu hinf hsz hx hh hL hi
theorem zKg {x : Operand} {t : TypeId} {u : TypeDesc} {h i j : Nat} {ob : AObj} {inf : TypeInfo} {L : List AV} (ht : P.underlying t = some u) (hu : zBa u = true) (hinf : P.info? t = some inf) (hx : ev fr x = some (.ptr h i j)) (hh : H[h]? = some (some ob)) (hsz : Nat.ble (j + inf.size) ob.c.sz = true)
 (hL : (List.range inf.size).map (fun e => ob.c.at i (j + e)) = L) (hi : i < ob.c.len) : QOp false P fn c fr H ⟨d, .load t x, ty, pos, after, g⟩ (.agg L) := zDo ht hu hinf hsz hx hh hL hi
theorem zAB {x : Operand} {t : TypeId} {u : TypeDesc} {h j : Nat} {oty : TypeId} {l : List AV} {v : AV} (ht : P.underlying t = some u) (hu : zBa u = false) (hx : ev fr x = some (.ptr h 0 j)) (hh : H[h]? = some (some ⟨oty, .box l⟩)) (hv : l[j]? = some v) :
 QOp false P fn c fr H ⟨d, .load t x, ty, pos, after, g⟩ v := zX ht hu hx hh hv
end
end Go.Ax
namespace Go.Ax
variable [Pins]
open Go.RowKit
/-- What keys a map has. -/
inductive KSort where
 | int (k : IntKind)
 | str
 | pair (k : IntKind)
section
variable {P : Program} {kt : TypeId} {s : KSort}
end
/-- What a map holds. -/
def mapOf (H : zN) : AV → Option (List AV × List AV)
 | .mp h => match H[h]? with
  | some (some o) => match o.c with
   | .mp ks vs => some (ks, vs)
   | _ => none
  | _ => none
 | .rom ks vs => some (ks, vs)
 | _ => none
theorem Rep.map {c : Ctx} {w : World} {a : Act} {σ : Nat → Option Blk} {S : Nat → Prop} {n : Nat} {fr : Fr} {H : zN} (hr : Rep c w a σ S n fr H) {x : AV} {v : Value} {ks vs : List AV} (hv : VR w S σ x v) (hm : mapOf H x = some (ks, vs)) :
 ∃ b es clock, v = .map (some b) ∧ w.heap[b]? = some (.map es clock) ∧ es.size = ks.length ∧ vs.length = ks.length ∧ es.toList.Pairwise (fun x y => x.key ≠ y.key) ∧ ∀ i, i < ks.length → ∃ e, es[i]? = some e ∧ VR w S σ (ks.getD i .any) e.key ∧ VR w S σ (vs.getD i .any) e.val := by
 cases hv <;> simp only [mapOf] at hm <;> try (cases hm; done)
 case mp h b hσ =>
  cases hq : H[h]? with
  | none => simp [hq] at hm
  | some oo => cases oo with
   | none => simp [hq] at hm
   | some o =>
    simp only [hq] at hm
    rcases hr.hr.live h o hq with ⟨hn, _⟩ | ⟨b', C', cur, hσ', g1, g2, g3, g4, g5, g6⟩
    ·rw [hσ] at hn; cases hn
    ·rw [hσ] at hσ'
     simp only [Option.some.injEq, Blk.at.injEq] at hσ'
     obtain ⟨rfl, hsz, rfl⟩ := hσ'
     cases g1 with
     | row mk _ _ hC => omega
     | map ks' vs' es clock hc _ hb hn hl hd he =>
      rw [hc] at hm
      simp only [Option.some.injEq, Prod.mk.injEq] at hm
      obtain ⟨rfl, rfl⟩ := hm
      exact ⟨b, es, clock, Z, hb, hn, hl, hd, he⟩
 case rom ks' vs' b es clock e hS hb hn hl hd he hk hv =>
  simp only [Option.some.injEq, Prod.mk.injEq] at hm
  obtain ⟨rfl, rfl⟩ := hm
  exact ⟨b, es, clock, rfl, hb, hn, hl, hd, fun i hi => ⟨e i, he i hi, (hk i hi).mono (fun _ h => h) (fun _ _ => rfl) _ (fun _ _ h => by cases h), (hv i hi).mono (fun _ h => h) (fun _ _ => rfl) _ (fun _ _ h => by cases h)⟩⟩
section
variable {ind : Bool} {P : Program} {fn : Func} {c : Ctx} {fr : Fr} {H : zN} {k : List It} {d : Option Nat} {ty : TypeId} {pos : String} {after : Array Edge} {g : Option (Nat × Bool)}
end
section
variable {ind : Bool} {P : Program} {fn : Func} {c : Ctx} {fr : Fr} {H : zN} {k : List It} {d : Option Nat} {ty : TypeId} {pos : String} {after : Array Edge} {g : Option (Nat × Bool)}
end
end Go.Ax
namespace Go.Ax
variable [Pins]
open Go.RowKit
section
variable {ind : Bool} {P : Program} {fn : Func} {c : Ctx} {fr : Fr} {H : zN} {k : List It}
variable {d : Option Nat} {ty : TypeId} {pos : String} {after : Array Edge} {g : Option (Nat × Bool)}
end
end Go.Ax
namespace Go.Ax
variable [Pins]
open Go.RowKit
abbrev iN (n : Nat) : AV := .int .i64 (n : Int)
section
variable {P : Program} {fn : Func} {c : Ctx} {fr : Fr} {H : zN} {k : List It}
theorem sa1 {all : Array Oper} {t : TypeId} {x y : Operand} {ty : TypeId} {pos : String} {after : Array Edge} {rest : List Oper} {h : Nat} {ob : AObj} {L : List AV} {c' : Cells}
 (hx : ev fr x = some (.ptr h 0 0)) (hy : ev fr y = some (.agg L)) (hs : (P.info? t).map (·.size) = some ob.c.sz) (hh : H[h]? = some (some ob)) (hl : L.length = ob.c.sz)
 (h1 : c'.len = ob.c.len) (h2 : c'.sz = ob.c.sz) (hk : Ax P fn c (.ops false all rest k) fr (H.set h (some ⟨ob.ty, c'⟩))) (hi : 0 < ob.c.len := by exact Nat.zero_lt_one)
 (h3 : ∀ i' j', i' < ob.c.len → j' < ob.c.sz → c'.at i' j' = if i' = 0 then L.getD j' .any else ob.c.at i' j' := by (intro i' j' hi' hj'; rw [if_pos (Nat.lt_one_iff.1 hi')]; rfl)) (hz0 : ob.c.sz ≠ 0 := by (intro hh; cases hh)) :
 Ax P fn c (.ops false all (⟨none, .store t x y, ty, pos, after, none⟩ :: rest) k) fr H := zz hx hy hs hh hl hi h1 h2 h3 hk hz0
variable {ind : Bool} {d : Option Nat} {ty : TypeId} {pos : String} {after : Array Edge} {g : Option (Nat × Bool)}
theorem qis {x i : Operand} {t e : TypeId} {h o len ix : Nat} {ob : AObj} {k : IntKind} {m : Int} (ht : P.underlying t = some (.slice e)) (hx : ev fr x = some (.sl h o len)) (hi : ev fr i = some (.int k m)) (hh : H[h]? = some (some ob) := by assumption) (hs : (P.info? e).map (·.size) = some ob.c.sz := by rfl)
 (hix : o + m.toNat = ix := by first | (simp only [Nat.zero_add, Int.toNat_natCast, Int.toNat_zero]; exact rfl) | exact rfl) (hb : 0 ≤ m ∧ m < len := by omega) :
 QOp ind P fn c fr H ⟨d, .indexAddr t x i, ty, pos, after, g⟩ (.ptr h ix 0) := zCt ht hx hi hh hs hix hb
theorem qps {x : Operand} {t : TypeId} {u : TypeDesc} {h i j : Nat} {ob : AObj} {inf : TypeInfo} {L : List AV} (ht : P.underlying t = some u) (hu : zBa u = true) (hinf : P.info? t = some inf) (hx : ev fr x = some (.ptr h i j)) (hh : H[h]? = some (some ob) := by assumption) (hsz : Nat.ble (j + inf.size) ob.c.sz = true := by rfl)
 (hL : (List.range inf.size).map (fun e => ob.c.at i (j + e)) = L := by rfl) (hi : i < ob.c.len := by first | exact Nat.zero_lt_one | assumption | omega) : QOp false P fn c fr H ⟨d, .load t x, ty, pos, after, g⟩ (.agg L) := zKg ht hu hinf hx hh hsz hL hi
theorem qas {x : Operand} {t : TypeId} {u : TypeDesc} {h i : Nat} {ob : AObj} {inf : TypeInfo} {L : List AV} (ht : P.underlying t = some u) (hu : zBa u = true) (hinf : P.info? t = some inf) (hx : ev fr x = some (.ptr h i 0)) (hh : H[h]? = some (some ob) := by assumption) (hsz : inf.size = ob.c.sz := by rfl)
 (hL : (List.range ob.c.sz).map (ob.c.at i) = L := by rfl) (hi : i < ob.c.len := by first | exact Nat.zero_lt_one | assumption | omega) : QOp false P fn c fr H ⟨d, .load t x, ty, pos, after, g⟩ (.agg L) := zFj ht hu hinf hx hh hsz hL hi
theorem qpp {x : Operand} {t : TypeId} {u : TypeDesc} {h i j : Nat} {ob : AObj} {inf : TypeInfo} {L : List AV} (ht : P.underlying t = some u) (hu : zBa u = true) (hinf : P.info? t = some inf) (hsz : Nat.ble (j + inf.size) ob.c.sz = true) (hx : ev fr x = some (.ptr h i j)) (hh : H[h]? = some (some ob))
 (hL : (List.range inf.size).map (fun e => ob.c.at i (j + e)) = L) (hi : i < ob.c.len := by first | exact Nat.zero_lt_one | assumption | omega) : QOp false P fn c fr H ⟨d, .load t x, ty, pos, after, g⟩ (.agg L) := zDo ht hu hinf hsz hx hh hL hi
end
end Go.Ax
namespace Go.Ax
open Go.RowKit
structure Hold (p : Prop) : Prop where
 out : p
theorem rn0 {G G' : Prop} (k : G') (h : Hold G' → G := by intro k; (repeat (first | refine zG (zK rfl) ?_ | refine zG (zm rfl) ?_ | refine zR ?_ | refine zI ?_ | refine z7 ?_ | refine zg rfl ?_ | refine zBY ?_)); exact k.out) : G := h ⟨k⟩
theorem rn1 {G G' : Prop} (k : G') (h : Hold G' → G := by intro k; (repeat (first | refine zG (zK rfl) ?_ | refine zG (zm rfl) ?_ | refine zR ?_ | refine zI ?_ | refine z7 ?_ | refine zg rfl ?_ | refine zAF ?_ | refine zAA ?_ | refine zA6 ?_ | refine zBY ?_)); exact k.out) : G := h ⟨k⟩
theorem rn2 {G G' : Prop} (k : G') (h : Hold G' → G := by intro k; (repeat (first | refine zG (zK rfl) ?_ | refine zG (zm rfl) ?_ | refine zR ?_ | refine zI ?_ | refine z7 ?_ | refine zg rfl ?_ | refine zBK rfl rfl ?_ | refine zAF ?_ | refine zAA ?_ | refine zA6 ?_ | refine zBY ?_ | refine zDS ?_ | refine zG (zBJ rfl rfl) ?_ | refine zG (zBr rfl rfl) ?_)); exact k.out) : G := h ⟨k⟩
theorem rn3 {G G' : Prop} (k : G') (h : Hold G' → G := by intro k; (repeat (first | refine zG (zK rfl) ?_ | refine zG (zm rfl) ?_ | refine zR ?_ | refine zI ?_ | refine z7 ?_ | refine zg rfl ?_ | refine zBK rfl rfl ?_ | refine zAF ?_ | refine zAA ?_ | refine zA6 ?_ | refine zBY ?_ | refine zDS ?_ | refine zG (zIp rfl rfl) ?_ | refine zG (zBJ rfl rfl) ?_ | refine zG (zBr rfl rfl) ?_ | refine zG (zBy rfl rfl rfl) ?_ | refine zG (zCF rfl rfl (by omega)) ?_ | refine zf rfl rfl rfl rfl rfl rfl rfl rfl rfl rfl rfl ?_)); exact k.out) : G := h ⟨k⟩
theorem rn4 {G G' : Prop} (k : G') (h : Hold G' → G := by intro k; (repeat (first | refine zG (zK rfl) ?_ | refine zG (zm rfl) ?_ | refine zR ?_ | refine zI ?_ | refine z7 ?_ | refine zg rfl ?_ | refine zBK rfl rfl ?_ | refine zAh rfl ?_ | refine zAF ?_ | refine zAA ?_ | refine zA6 ?_ | refine zBY ?_ | refine zDS ?_ | refine zG (zX rfl rfl rfl rfl rfl) ?_ | refine zG (zEd rfl rfl) ?_ | refine zG (zEO rfl rfl) ?_ | refine zG (zIp rfl rfl) ?_ | refine zG (zBJ rfl rfl) ?_ | refine zG (zBr rfl rfl) ?_ | refine zG (zBy rfl rfl rfl) ?_ | refine zG (zCF rfl rfl (by omega)) ?_ | refine zG (zAE rfl rfl rfl rfl (by first | (simp only [Nat.zero_add, Int.toNat_natCast, Int.toNat_zero]; exact rfl) | exact rfl) (by omega)) ?_ | refine zf rfl rfl rfl rfl rfl rfl rfl rfl rfl rfl rfl ?_ | refine zBD rfl rfl rfl ?_)); exact k.out) : G := h ⟨k⟩
theorem rn5 {G G' : Prop} (k : G') (h : Hold G' → G := by intro k; (repeat (first | refine zG (zK rfl) ?_ | refine zG (zm rfl) ?_ | refine zR ?_ | refine zI ?_ | refine z7 ?_ | refine zg rfl ?_ | refine zBK rfl rfl ?_ | refine zBf rfl ?_ | refine zAh rfl ?_ | refine zAP ?_ | refine zAF ?_ | refine zAA ?_ | refine zA6 ?_ | refine zDM ?_ | refine zA5 ?_ | refine zA4 ?_ | refine zBP ?_ | refine zBY ?_ | refine zDS ?_ | refine zG (zX rfl rfl rfl rfl rfl) ?_ | refine zG (zEd rfl rfl) ?_ | refine zG (zEO rfl rfl) ?_ | refine zG (zIp rfl rfl) ?_ | refine zG (zKh rfl) ?_ | refine zG (zBJ rfl rfl) ?_ | refine zG (zBr rfl rfl) ?_ | refine zG (zBy rfl rfl rfl) ?_ | refine zG (zCF rfl rfl (by omega)) ?_ | refine zG (zAE rfl rfl rfl rfl (by first | (simp only [Nat.zero_add, Int.toNat_natCast, Int.toNat_zero]; exact rfl) | exact rfl) (by omega)) ?_ | refine zG (zH rfl rfl rfl rfl rfl rfl) ?_ | refine zf rfl rfl rfl rfl rfl rfl rfl rfl rfl rfl rfl ?_ | refine zBD rfl rfl rfl ?_)); exact k.out) : G := h ⟨k⟩
theorem rn6 {G G' : Prop} (k : G') (h : Hold G' → G := by intro k; (repeat (first | refine zG (zK rfl) ?_ | refine zG (zm rfl) ?_ | refine zG (zH5 rfl rfl rfl) ?_ | refine zR ?_ | refine zI ?_ | refine z7 ?_ | refine zg rfl ?_ | refine zBK rfl rfl ?_ | refine zCO rfl rfl rfl ?_ | refine zBf rfl ?_ | refine zAh rfl ?_ | refine zAP ?_ | refine zAF ?_ | refine zAA ?_ | refine zA6 ?_ | refine zDM ?_ | refine zA5 ?_ | refine zA4 ?_ | refine zBP ?_ | refine zBY ?_ | refine zDS ?_ | refine zOX ?_ | refine zOY ?_ | refine zG (zCX rfl rfl rfl rfl) ?_ | refine zG (zX rfl rfl rfl rfl rfl) ?_ | refine zG (zEd rfl rfl) ?_ | refine zG (zEO rfl rfl) ?_ | refine zG (zIp rfl rfl) ?_ | refine zG (zKf rfl rfl) ?_ | refine zG (zKh rfl) ?_ | refine zG (zBJ rfl rfl) ?_ | refine zG (zBr rfl rfl) ?_ | refine zG (zBy rfl rfl rfl) ?_ | refine zG (zF3 rfl rfl) ?_ | refine zG (zCF rfl rfl (by omega)) ?_ | refine zG (zAE rfl rfl rfl rfl (by first | (simp only [Nat.zero_add, Int.toNat_natCast, Int.toNat_zero]; exact rfl) | exact rfl) (by omega)) ?_ | refine zG (zBR rfl rfl rfl rfl rfl (by first | (simp only [Nat.zero_add, Int.toNat_natCast, Int.toNat_zero]; exact rfl) | exact rfl) (by omega)) ?_ | refine zG (zF4 rfl rfl) ?_ | refine zG (zH rfl rfl rfl rfl rfl rfl) ?_ | refine zG (zA9 rfl rfl rfl rfl rfl rfl) ?_ | refine zG (zDo rfl rfl rfl rfl rfl rfl rfl (by first | exact Nat.zero_lt_one | assumption | omega)) ?_ | refine zf rfl rfl rfl rfl rfl rfl rfl rfl rfl rfl rfl ?_ | refine zGF rfl rfl ?_ | refine zBD rfl rfl rfl ?_)); exact k.out) : G := h ⟨k⟩
theorem rn7 {G G' : Prop} (k : G') (h : Hold G' → G := by intro k; (repeat (first | refine zG (zK rfl) ?_ | refine zG (zm rfl) ?_ | refine zR ?_ | refine zI ?_ | refine z7 ?_ | refine zg rfl ?_ | refine zAP ?_ | refine zAF ?_ | refine zAA ?_ | refine zA6 ?_ | refine zG (zEd rfl rfl) ?_ | refine zG (zJl rfl rfl) ?_ | refine zG (zBy rfl rfl rfl) ?_ | refine zG (zCF rfl rfl (by omega)) ?_ | refine zG (zFD rfl rfl (by omega)) ?_ | refine zG (zBR rfl rfl rfl rfl rfl (by first | (simp only [Nat.zero_add, Int.toNat_natCast, Int.toNat_zero]; exact rfl) | exact rfl) (by omega)) ?_ | refine zG (zFU rfl rfl rfl rfl (by first | assumption | omega)) ?_ | refine zG (zd rfl) ?_ | refine zG (zH rfl rfl rfl rfl rfl rfl) ?_ | refine zG (zCt rfl rfl rfl (by assumption) (by rfl) (by first | (simp only [Nat.zero_add, Int.toNat_natCast, Int.toNat_zero]; exact rfl) | exact rfl) (by omega)) ?_ | refine zG (zFj rfl rfl rfl rfl (by assumption) (by rfl) (by rfl) (by first | exact Nat.zero_lt_one | assumption | omega)) ?_ | refine zG (zAB rfl rfl rfl (by assumption) (by rfl)) ?_ | refine zG (zG6 rfl rfl rfl (by assumption) (by first | assumption | omega)) ?_ | refine zG (zAy rfl rfl rfl (by assumption) rfl (by first | assumption | omega)) ?_ | refine zBg rfl rfl rfl rfl rfl rfl rfl (by first | assumption | (show _ < List.length _; first | assumption | omega)) ?_ | refine zBD rfl rfl rfl ?_)); exact k.out) : G := h ⟨k⟩
theorem rn8 {G G' : Prop} (k : G') (h : Hold G' → G := by intro k; (repeat (first | refine zG (zK rfl) ?_ | refine zG (zm rfl) ?_ | refine zR ?_ | refine zI ?_ | refine z7 ?_ | refine zg rfl ?_ | refine zBK rfl rfl ?_ | refine zAh rfl ?_ | refine zA6 ?_ | refine zBY ?_ | refine zG (zX rfl rfl rfl rfl rfl) ?_ | refine zG (zEO rfl rfl) ?_ | refine zG (q_leq rfl rfl) ?_ | refine zG (zJl rfl rfl) ?_ | refine zG (zBJ rfl rfl) ?_ | refine zG (zBy rfl rfl rfl) ?_ | refine zG (zF3 rfl rfl) ?_ | refine zG (zFD rfl rfl (by omega)) ?_ | refine zG (zBH rfl rfl rfl rfl rfl rfl) ?_ | refine zG (zKi rfl rfl) ?_ | refine zG (zD1 rfl rfl rfl rfl) ?_ | refine zG (zd rfl) ?_ | refine zG (zH rfl rfl rfl rfl rfl rfl) ?_ | refine zBg rfl rfl rfl rfl rfl rfl rfl Nat.zero_lt_one ?_ | refine zf rfl rfl rfl rfl rfl rfl rfl rfl rfl rfl rfl ?_ | refine zBD rfl rfl rfl ?_)); exact k.out) : G := h ⟨k⟩
theorem rn9 {G G' : Prop} (k : G') (h : Hold G' → G := by intro k; (repeat (first | refine zG (zK rfl) ?_ | refine zG (zm rfl) ?_ | refine zR ?_ | refine zI ?_ | refine z7 ?_ | refine zg rfl ?_ | refine zBf rfl ?_ | refine zAh rfl ?_ | refine zAP ?_ | refine zAF ?_ | refine zAA ?_ | refine zA6 ?_ | refine zG (zH6 rfl rfl rfl) ?_ | refine zG (zX rfl rfl rfl rfl rfl) ?_ | refine zG (zEO rfl rfl) ?_ | refine zG (zKh rfl) ?_ | refine zG (zBr rfl rfl) ?_ | refine zG (zBy rfl rfl rfl) ?_ | refine zG (zCF rfl rfl (by omega)) ?_ | refine zG (zAE rfl rfl rfl rfl (by first | (simp only [Nat.zero_add, Int.toNat_natCast, Int.toNat_zero]; exact rfl) | exact rfl) (by omega)) ?_ | refine zG (zBH rfl rfl rfl rfl rfl rfl) ?_ | refine zG (zF4 rfl rfl) ?_ | refine zG (zH rfl rfl rfl rfl rfl rfl) ?_ | refine zG (zDo rfl rfl rfl rfl rfl rfl rfl (by first | exact Nat.zero_lt_one | assumption | omega)) ?_ | refine zBg rfl rfl rfl rfl rfl rfl rfl Nat.zero_lt_one ?_ | refine zBD rfl rfl rfl ?_)); exact k.out) : G := h ⟨k⟩
theorem zDt {G G' : Prop} (k : G') (h : Hold G' → G := by intro k; (repeat (first | refine zG (zK rfl) ?_ | refine zG (zm rfl) ?_ | refine zR ?_ | refine z7 ?_ | refine zg rfl ?_ | refine zBK rfl rfl ?_ | refine zAh rfl ?_ | refine zAP ?_ | refine zAF ?_ | refine zA6 ?_ | refine zDM ?_ | refine zA5 ?_ | refine zA4 ?_ | refine zBP ?_ | refine zG (zX rfl rfl rfl rfl rfl) ?_ | refine zG (zKh rfl) ?_ | refine zG (zCF rfl rfl (by omega)) ?_ | refine zG (zBR rfl rfl rfl rfl rfl (by first | (simp only [Nat.zero_add, Int.toNat_natCast, Int.toNat_zero]; exact rfl) | exact rfl) (by omega)) ?_ | refine zG (zFU rfl rfl rfl rfl (by first | assumption | omega)) ?_ | refine zG (zNv rfl rfl rfl rfl (by first | assumption | omega)) ?_ | refine zG (zG5 rfl rfl rfl rfl rfl (by first | assumption | omega)) ?_ | refine zG (zIo rfl) ?_ | refine zG (zIn rfl rfl rfl rfl (by first | (simp only [Nat.zero_add, Int.toNat_natCast]; exact rfl) | exact rfl) (by omega)) ?_ | refine zG (zCt rfl rfl rfl (by assumption) (by rfl) (by first | (simp only [Nat.zero_add, Int.toNat_natCast, Int.toNat_zero]; exact rfl) | exact rfl) (by omega)) ?_ | refine zG (zFj rfl rfl rfl rfl (by assumption) (by rfl) (by rfl) (by first | exact Nat.zero_lt_one | assumption | omega)) ?_ | refine zBg rfl rfl rfl rfl rfl rfl rfl (by first | assumption | (show _ < List.length _; first | assumption | omega)) ?_)); exact k.out) : G := h ⟨k⟩
theorem zF6 {G G' : Prop} (k : G') (h : Hold G' → G := by intro k; (repeat (first | refine zG (zK rfl) ?_ | refine zG (zm rfl) ?_ | refine zG (zH5 rfl rfl rfl) ?_ | refine zR ?_ | refine zI ?_ | refine z7 ?_ | refine zBK rfl rfl ?_ | refine zCO rfl rfl rfl ?_ | refine zDM ?_ | refine zA5 ?_ | refine zA4 ?_ | refine zBP ?_ | refine zBY ?_ | refine zG (zCX rfl rfl rfl rfl) ?_ | refine zG (zEO rfl rfl) ?_ | refine zG (zKf rfl rfl) ?_ | refine zG (zBJ rfl rfl) ?_ | refine zG (zBr rfl rfl) ?_ | refine zG (zBy rfl rfl rfl) ?_ | refine zG (zF3 rfl rfl) ?_ | refine zG (zFD rfl rfl (by omega)) ?_ | refine zG (zAE rfl rfl rfl rfl (by first | (simp only [Nat.zero_add, Int.toNat_natCast, Int.toNat_zero]; exact rfl) | exact rfl) (by omega)) ?_ | refine zG (zF4 rfl rfl) ?_ | refine zG (zD1 rfl rfl rfl rfl) ?_ | refine zG (zD2 rfl rfl rfl rfl rfl rfl (by omega)) ?_ | refine zG (zH4 rfl rfl rfl rfl rfl rfl) ?_)); exact k.out) : G := h ⟨k⟩
theorem rn12 {G G' : Prop} (k : G') (h : Hold G' → G := by intro k; (repeat (first | refine zG (zK rfl) ?_ | refine zG (zm rfl) ?_ | refine zR ?_ | refine zI ?_ | refine z7 ?_ | refine zg rfl ?_ | refine zBf rfl ?_ | refine zAh rfl ?_ | refine zAP ?_ | refine zAA ?_ | refine zA6 ?_ | refine zG (zCX rfl rfl rfl rfl) ?_ | refine zG (zEO rfl rfl) ?_ | refine zG (zIp rfl rfl) ?_ | refine zG (q_leq rfl rfl) ?_ | refine zG (zJl rfl rfl) ?_ | refine zG (zBy rfl rfl rfl) ?_ | refine zG (zF3 rfl rfl) ?_ | refine zG (zCF rfl rfl (by omega)) ?_ | refine zG (zAE rfl rfl rfl rfl (by first | (simp only [Nat.zero_add, Int.toNat_natCast, Int.toNat_zero]; exact rfl) | exact rfl) (by omega)) ?_ | refine zG (zD1 rfl rfl rfl rfl) ?_ | refine zG (q_min rfl rfl) ?_ | refine zG (zIo rfl) ?_ | refine zG (zNx rfl rfl rfl (by first | assumption | omega | simp)) ?_ | refine zG (zD2 rfl rfl rfl rfl rfl rfl (by omega)) ?_ | refine zG (zH4 rfl rfl rfl rfl rfl rfl) ?_)); exact k.out) : G := h ⟨k⟩
theorem zBc {G G' : Prop} (k : G') (h : Hold G' → G := by intro k; (repeat (first | refine zG (zK rfl) ?_ | refine zG (zm rfl) ?_ | refine zR ?_ | refine zI ?_ | refine zBK rfl rfl ?_ | refine zCO rfl rfl rfl ?_ | refine zAh rfl ?_ | refine zAP ?_ | refine zA6 ?_ | refine zDM ?_ | refine zA5 ?_ | refine zA4 ?_ | refine zBP ?_ | refine zKF rfl ?_ | refine zG (zX rfl rfl rfl rfl rfl) ?_ | refine zG (zEd rfl rfl) ?_ | refine zG (zKf rfl rfl) ?_ | refine zG (zJl rfl rfl) ?_ | refine zG (zKh rfl) ?_ | refine zG (zBJ rfl rfl) ?_ | refine zG (zBr rfl rfl) ?_ | refine zG (zCF rfl rfl (by omega)) ?_ | refine zG (zFD rfl rfl (by omega)) ?_ | refine zG (zF4 rfl rfl) ?_ | refine zG (zd rfl) ?_ | refine zG (zH rfl rfl rfl rfl rfl rfl) ?_)); exact k.out) : G := h ⟨k⟩
theorem rn14 {G G' : Prop} (k : G') (h : Hold G' → G := by intro k; (repeat (first | refine zG (zK rfl) ?_ | refine zG (zm rfl) ?_ | refine zR ?_ | refine zI ?_ | refine z7 ?_ | refine zg rfl ?_ | refine zBK rfl rfl ?_ | refine zFb rfl rfl ?_ | refine zCO rfl rfl rfl ?_ | refine zAh rfl ?_ | refine zAP ?_ | refine zA6 ?_ | refine zDM ?_ | refine zA5 ?_ | refine zA4 ?_ | refine zBP ?_ | refine zKF rfl ?_ | refine zBY ?_ | refine zG (zKf rfl rfl) ?_ | refine zG (zBJ rfl rfl) ?_ | refine zG (zBy rfl rfl rfl) ?_ | refine zG (zCF rfl rfl (by omega)) ?_ | refine zG (zH7 rfl rfl rfl rfl rfl rfl rfl (by omega)) ?_ | refine zG (zBH rfl rfl rfl rfl rfl rfl) ?_ | refine zGF rfl rfl ?_ | refine zBD rfl rfl rfl ?_)); exact k.out) : G := h ⟨k⟩
theorem rn15 {G G' : Prop} (k : G') (h : Hold G' → G := by intro k; (repeat (first | refine zG (zK rfl) ?_ | refine zG (zm rfl) ?_ | refine zR ?_ | refine zI ?_ | refine z7 ?_ | refine zg rfl ?_ | refine zAA ?_ | refine zDM ?_ | refine zA5 ?_ | refine zA4 ?_ | refine zBP ?_ | refine zG (zX rfl rfl rfl rfl rfl) ?_ | refine zG (zEO rfl rfl) ?_ | refine zG (zKf rfl rfl) ?_ | refine zG (zBy rfl rfl rfl) ?_ | refine zG (zCF rfl rfl (by omega)) ?_ | refine zG (q_quo rfl rfl (by omega)) ?_ | refine zG (zBH rfl rfl rfl rfl rfl rfl) ?_ | refine zG (zD1 rfl rfl rfl rfl) ?_ | refine zG (q_max rfl rfl) ?_ | refine zG (zd rfl) ?_ | refine zG (zLI rfl) ?_ | refine zG (zH rfl rfl rfl rfl rfl rfl) ?_ | refine zG (zAB rfl rfl rfl (by assumption) (by rfl)) ?_ | refine zf rfl rfl rfl rfl rfl rfl rfl rfl rfl rfl rfl ?_ | refine zGF rfl rfl ?_)); exact k.out) : G := h ⟨k⟩
theorem rn16 {G G' : Prop} (k : G') (h : Hold G' → G := by intro k; (repeat (first | refine zG (zK rfl) ?_ | refine zG (zm rfl) ?_ | refine zR ?_ | refine zI ?_ | refine z7 ?_ | refine zg rfl ?_ | refine zBK rfl rfl ?_ | refine zFb rfl rfl ?_ | refine zCO rfl rfl rfl ?_ | refine zBf rfl ?_ | refine zAh rfl ?_ | refine zA6 ?_ | refine zBY ?_ | refine zDS ?_ | refine zG (zKh rfl) ?_ | refine zG (zBJ rfl rfl) ?_ | refine zG (zBy rfl rfl rfl) ?_ | refine zG (zF3 rfl rfl) ?_ | refine zG (zCF rfl rfl (by omega)) ?_ | refine zG (zFD rfl rfl (by omega)) ?_ | refine zG (zBR rfl rfl rfl rfl rfl (by first | (simp only [Nat.zero_add, Int.toNat_natCast, Int.toNat_zero]; exact rfl) | exact rfl) (by omega)) ?_ | refine zG (zKi rfl rfl) ?_ | refine zG (zD1 rfl rfl rfl rfl) ?_ | refine zG (zD2 rfl rfl rfl rfl rfl rfl (by omega)) ?_ | refine zG (zH4 rfl rfl rfl rfl rfl rfl) ?_ | refine zBg rfl rfl rfl rfl rfl rfl rfl (by first | assumption | (show _ < List.length _; first | assumption | omega)) ?_)); exact k.out) : G := h ⟨k⟩
theorem rn17 {G G' : Prop} (k : G') (h : Hold G' → G := by intro k; (repeat (first | refine zG (zK rfl) ?_ | refine zG (zm rfl) ?_ | refine zG (zH5 rfl rfl rfl) ?_ | refine zR ?_ | refine zI ?_ | refine z7 ?_ | refine zg rfl ?_ | refine zAP ?_ | refine zAA ?_ | refine zA6 ?_ | refine zDM ?_ | refine zA5 ?_ | refine zA4 ?_ | refine zBP ?_ | refine zBY ?_ | refine zG (zX rfl rfl rfl rfl rfl) ?_ | refine zG (zEO rfl rfl) ?_ | refine zG (zCF rfl rfl (by omega)) ?_ | refine zG (zAE rfl rfl rfl rfl (by first | (simp only [Nat.zero_add, Int.toNat_natCast, Int.toNat_zero]; exact rfl) | exact rfl) (by omega)) ?_ | refine zG (zBR rfl rfl rfl rfl rfl (by first | (simp only [Nat.zero_add, Int.toNat_natCast, Int.toNat_zero]; exact rfl) | exact rfl) (by omega)) ?_ | refine zG (zFU rfl rfl rfl rfl (by first | assumption | omega)) ?_ | refine zG (zG5 rfl rfl rfl rfl rfl (by first | assumption | omega)) ?_ | refine zG (zPN rfl rfl rfl rfl rfl rfl rfl rfl (by omega)) ?_ | refine zG (zH rfl rfl rfl rfl rfl rfl) ?_ | refine zBg rfl rfl rfl rfl rfl rfl rfl (by first | assumption | (show _ < List.length _; first | assumption | omega)) ?_)); exact k.out) : G := h ⟨k⟩
theorem rn18 {G G' : Prop} (k : G') (h : Hold G' → G := by intro k; (repeat (first | refine zG (zK rfl) ?_ | refine zG (zm rfl) ?_ | refine zR ?_ | refine zI ?_ | refine z7 ?_ | refine zg rfl ?_ | refine zCO rfl rfl rfl ?_ | refine zBf rfl ?_ | refine zAA ?_ | refine zA6 ?_ | refine zG (zH6 rfl rfl rfl) ?_ | refine zG (zCX rfl rfl rfl rfl) ?_ | refine zG (zEO rfl rfl) ?_ | refine zG (zIp rfl rfl) ?_ | refine zG (zKh rfl) ?_ | refine zG (zBJ rfl rfl) ?_ | refine zG (zBr rfl rfl) ?_ | refine zG (zAE rfl rfl rfl rfl (by first | (simp only [Nat.zero_add, Int.toNat_natCast, Int.toNat_zero]; exact rfl) | exact rfl) (by omega)) ?_ | refine zG (zBH rfl rfl rfl rfl rfl rfl) ?_ | refine zG (zKi rfl rfl) ?_ | refine zG (zIo rfl) ?_ | refine zG (zCt rfl rfl rfl (by assumption) (by rfl) (by first | (simp only [Nat.zero_add, Int.toNat_natCast, Int.toNat_zero]; exact rfl) | exact rfl) (by omega)) ?_ | refine zG (zAy rfl rfl rfl (by assumption) rfl (by first | assumption | omega)) ?_ | refine zBg rfl rfl rfl rfl rfl rfl rfl Nat.zero_lt_one ?_ | refine zf rfl rfl rfl rfl rfl rfl rfl rfl rfl rfl rfl ?_ | refine zBD rfl rfl rfl ?_)); exact k.out) : G := h ⟨k⟩
theorem rn19 {G G' : Prop} (k : G') (h : Hold G' → G := by intro k; (repeat (first | refine zG (zK rfl) ?_ | refine zG (zm rfl) ?_ | refine zR ?_ | refine zI ?_ | refine z7 ?_ | refine zg rfl ?_ | refine zBK rfl rfl ?_ | refine zAP ?_ | refine zAA ?_ | refine zA6 ?_ | refine zG (zCX rfl rfl rfl rfl) ?_ | refine zG (zIp rfl rfl) ?_ | refine zG (zBy rfl rfl rfl) ?_ | refine zG (zF3 rfl rfl) ?_ | refine zG (zFD rfl rfl (by omega)) ?_ | refine zG (zAE rfl rfl rfl rfl (by first | (simp only [Nat.zero_add, Int.toNat_natCast, Int.toNat_zero]; exact rfl) | exact rfl) (by omega)) ?_ | refine zG (zH7 rfl rfl rfl rfl rfl rfl rfl (by omega)) ?_ | refine zG (zNx rfl rfl rfl (by first | assumption | omega | simp)) ?_ | refine zG (zA9 rfl rfl rfl rfl rfl rfl) ?_)); exact k.out) : G := h ⟨k⟩
theorem rn20 {G G' : Prop} (k : G') (h : Hold G' → G := by intro k; (repeat (first | refine zR ?_ | refine zI ?_ | refine z7 ?_ | refine zAA ?_ | refine zA6 ?_ | refine zG (zIo rfl) ?_ | refine zBg rfl rfl rfl rfl rfl rfl rfl Nat.zero_lt_one ?_ | refine zBD rfl rfl rfl ?_)); exact k.out) : G := h ⟨k⟩
end Go.Ax
namespace Go.Ax.Bg
abbrev B : Nat := 4294967296
/-- The value of limbs, the least significant one first; the limbs of a number. -/
def ze : List Int → Nat
 | [] => 0
 | x :: r => x.toNat + B * ze r
def zS (n : Nat) : List Int := if h : n = 0 then [] else ((n % B : Nat) : Int) :: zS (n / B)
termination_by n
decreasing_by exact Nat.div_lt_self (Nat.pos_of_ne_zero h) (by decide)
def Lim (l : List Int) : Prop := ∀ x ∈ l, 0 ≤ x ∧ x < 4294967296
theorem zBq : zS 0 = [] := by rw [zS, dif_pos rfl]
theorem zG2 {n : Nat} (h : n ≠ 0) : zS n = ((n % B : Nat) : Int) :: zS (n / B) := by rw [zS, dif_neg h]
theorem z6 (n : Nat) : ze (zS n) = n := by
 induction n using Nat.strongRecOn with
 | _ n ih =>
  by_cases h : n = 0
  ·subst h; rw [zBq]; rfl
  ·rw [zG2 h, ze, ih _ (Nat.div_lt_self (Nat.pos_of_ne_zero h) (by decide)), Int.toNat_natCast]
   exact Nat.mod_add_div n B
theorem Lim.cons {x : Int} {r : List Int} : Lim (x :: r) ↔ (0 ≤ x ∧ x < 4294967296) ∧ Lim r := by simp [Lim]
theorem Lim.append {l m : List Int} : Lim (l ++ m) ↔ Lim l ∧ Lim m := by
 constructor
 ·exact fun h => ⟨fun x hx => h x (List.mem_append_left _ hx), fun x hx => h x (List.mem_append_right _ hx)⟩
 ·rintro ⟨h1, h2⟩ x hx
  rcases List.mem_append.1 hx with h | h
  ·exact h1 x h
  ·exact h2 x h
theorem Lim.nil : Lim [] := fun x hx => by simp at hx
theorem Lim.one {x : Int} (h : 0 ≤ x ∧ x < 4294967296) : Lim [x] := by rw [Lim.cons]; exact ⟨h, Lim.nil⟩
theorem zAR (n : Nat) : Lim (zS n) := by
 induction n using Nat.strongRecOn with
 | _ n ih =>
  by_cases h : n = 0
  ·subst h; rw [zBq]; exact Lim.nil
  ·rw [zG2 h, Lim.cons]
   refine ⟨?_, ih _ (Nat.div_lt_self (Nat.pos_of_ne_zero h) (by decide))⟩
   have := Nat.mod_lt n (show 0 < B by decide)
   unfold B at this ⊢; omega
theorem Lim.get {l : List Int} (h : Lim l) {i : Nat} (hi : i < l.length) : 0 ≤ l.getD i 0 ∧ l.getD i 0 < 4294967296 := h _ (zAN 0 hi)
theorem Lim.take {l : List Int} (h : Lim l) (k : Nat) : Lim (l.take k) := fun x hx => h x (List.mem_of_mem_take hx)
theorem zCx (l m : List Int) : ze (l ++ m) = ze l + B ^ l.length * ze m := by
 induction l with
 | nil => simp [ze]
 | cons x r ih =>
  rw [List.cons_append, ze, ze, ih, List.length_cons, Nat.pow_succ]
  rw [Nat.mul_add, Nat.add_assoc, Nat.mul_comm (B ^ r.length) B, Nat.mul_assoc]
theorem zAt {l : List Int} (h : Lim l) : ze l < B ^ l.length := by
 induction l with
 | nil => simp [ze]
 | cons x r ih =>
  rw [Lim.cons] at h
  have i := ih h.2
  rw [ze, List.length_cons, Nat.pow_succ]
  have hx : x.toNat < B := by unfold B; omega
  have : ze r + 1 ≤ B ^ r.length := i
  calc x.toNat + B * ze r < B + B * ze r := by omega
   _ = B * (ze r + 1) := by rw [Nat.mul_add, Nat.mul_one]; omega
   _ ≤ B * B ^ r.length := Nat.mul_le_mul_left _ this
   _ = B ^ r.length * B := Nat.mul_comm _ _
theorem zIF (k : Nat) : ze (List.replicate k 0) = 0 := by
 induction k with
 | zero => rfl
 | succ k ih => rw [List.replicate_succ, ze, ih]; rfl
/-- Without superfluous zeros, limbs are those of their value. -/
theorem zNg {l : List Int} (h : Lim l) (hz : l = [] ∨ l.getD (l.length - 1) 0 ≠ 0) : zS (ze l) = l := by
 induction l with
 | nil => exact zBq
 | cons x r ih =>
  rw [Lim.cons] at h
  have hx : x.toNat < B := by unfold B; omega
  have hxe : ((x.toNat : Nat) : Int) = x := by omega
  have hr : r = [] ∨ r.getD (r.length - 1) 0 ≠ 0 := by
   cases r with
   | nil => exact .inl rfl
   | cons y q =>
    right
    rcases hz with hz | hz
    ·cases hz
    ·simpa using hz
  have i := ih h.2 hr
  have hne : ze (x :: r) ≠ 0 := by
   rw [ze]
   cases r with
   | nil =>
    rcases hz with hz | hz
    ·cases hz
    ·simp at hz; simp [ze]; omega
   | cons y q =>
    intro h0
    have h1 : ze (y :: q) = 0 := by
     have : B * ze (y :: q) = 0 := by omega
     rcases Nat.mul_eq_zero.1 this with h | h
     ·exact absurd h (by decide)
     ·exact h
    rw [h1, zBq] at i
    cases i
  rw [zG2 hne]
  have e1 : ze (x :: r) % B = x.toNat := by rw [ze, Nat.add_mul_mod_self_left, Nat.mod_eq_of_lt hx]
  have e2 : ze (x :: r) / B = ze r := by
   rw [ze, Nat.add_mul_div_left _ _ (by decide), Nat.div_eq_of_lt hx, Nat.zero_add]
  rw [e1, e2, i, hxe]
theorem zLs {n : Nat} : zS n = [] ∨ (zS n).getD ((zS n).length - 1) 0 ≠ 0 := by
 induction n using Nat.strongRecOn with
 | _ n ih =>
  by_cases h : n = 0
  ·subst h; exact .inl zBq
  ·right
   rw [zG2 h]
   have hlt := Nat.div_lt_self (Nat.pos_of_ne_zero h) (show 1 < B by decide)
   rcases ih (n / B) hlt with h1 | h1
   ·rw [h1]
    have : n / B = 0 := by
     have := z6 (n / B)
     rw [h1] at this; exact this.symm
    have hn : n < B := by
     rcases Nat.lt_or_ge n B with q | q
     ·exact q
     ·have := Nat.div_pos q (show 0 < B by decide); omega
    simp only [List.length_cons, List.length_nil, Nat.zero_add, Nat.sub_self, List.getD_cons_zero]
    rw [Nat.mod_eq_of_lt hn]; omega
   ·cases hq : zS (n / B) with
    | nil => rw [hq] at h1; simp at h1
    | cons y q =>
     rw [hq] at h1
     simpa using h1
/-- Zeros at the end cut away. -/
theorem zRL {l : List Int} (h : Lim l) {k : Nat} (hk : k ≤ l.length) (h0 : ∀ i, k ≤ i → i < l.length → l.getD i 0 = 0) (hz : k = 0 ∨ l.getD (k - 1) 0 ≠ 0) : l.take k = zS (ze l) := by
 have e : l.drop k = List.replicate (l.length - k) 0 := by
  apply List.ext_getElem
  ·simp
  ·intro i h1 h2
   simp only [List.length_drop] at h1
   have := h0 (k + i) (by omega) (by omega)
   rw [zDj 0 (by omega)] at this
   simpa using this
 have hv : ze l = ze (l.take k) := by
  conv => lhs; rw [← List.take_append_drop k l]
  rw [zCx, e, zIF, Nat.mul_zero, Nat.add_zero]
 rw [hv, zNg (h.take k)]
 rcases hz with hz | hz
 ·subst hz; exact .inl (by simp)
 ·right
  rw [List.length_take, Nat.min_eq_left hk]
  have hk0 : k ≠ 0 := fun e => by
   subst e
   cases l with
   | nil => simp at hz
   | cons x r => exact hz (h0 0 (Nat.le_refl _) (by simp))
  simp only [List.getD, List.getElem?_take, show k - 1 < k by omega, if_true]
  exact hz
theorem zAe {n k : Nat} (h : n < B ^ k) : (zS n).length ≤ k := by
 rcases zLs (n := n) with h1 | h1
 ·rw [h1]; exact Nat.zero_le _
 ·rcases Nat.lt_or_ge k (zS n).length with hl | hl
  ·exfalso
   have hv := z6 n
   have hsplit := zCx ((zS n).take ((zS n).length - 1)) ((zS n).drop ((zS n).length - 1))
   rw [List.take_append_drop, hv] at hsplit
   have hd : (zS n).drop ((zS n).length - 1) = [(zS n).getD ((zS n).length - 1) 0] := by
    rw [zCl (zS n) 0 _ (by omega), List.drop_of_length_le (by omega)]
   have hg := (zAR n).get (i := (zS n).length - 1) (by omega)
   rw [hd] at hsplit
   simp only [ze, Nat.mul_zero, Nat.add_zero, List.length_take] at hsplit
   rw [Nat.min_eq_left (by omega)] at hsplit
   have hx : 1 ≤ ((zS n).getD ((zS n).length - 1) 0).toNat := by omega
   have hp : B ^ k ≤ B ^ ((zS n).length - 1) := Nat.pow_le_pow_right (by decide) (by omega)
   have : B ^ ((zS n).length - 1) * 1 ≤ B ^ ((zS n).length - 1) * ((zS n).getD ((zS n).length - 1) 0).toNat := Nat.mul_le_mul_left _ hx
   omega
  ·exact hl
theorem zNf {n k : Nat} (h : B ^ k ≤ n) : k < (zS n).length := by
 have h1 := zAt (zAR n)
 rw [z6] at h1
 exact (Nat.pow_lt_pow_iff_right (show 1 < B by decide)).1 (Nat.lt_of_le_of_lt h h1)
theorem natL_inj {a b : Nat} (h : zS a = zS b) : a = b := by rw [← z6 a, ← z6 b, h]
theorem natL_nil {n : Nat} : zS n = [] ↔ n = 0 := by
 constructor
 ·intro h; rw [← z6 n, h]; rfl
 ·rintro rfl; exact zBq
theorem zFJ {l : List Int} (i : Nat) (hi : i < l.length) : ze (l.take (i + 1)) = ze (l.take i) + B ^ i * (l.getD i 0).toNat := by
 rw [zBN l 0 i hi, zCx]
 simp only [ze, Nat.mul_zero, Nat.add_zero, List.length_take]
 rw [Nat.min_eq_left (by omega)]
theorem zD6 {l : List Int} (x : Int) : ze (l ++ [x]) = ze l + B ^ l.length * x.toNat := by
 rw [zCx]; simp only [ze, Nat.mul_zero, Nat.add_zero]
/-- The comparison from the top. -/
theorem zLU {a b : List Int} (i : Nat) (ha : Lim a) (hb : Lim b) (hl : a.length = b.length) (hi : i < a.length) (he : ∀ j, i < j → j < a.length → a.getD j 0 = b.getD j 0) (hlt : a.getD i 0 < b.getD i 0) : ze a < ze b := by
 have hd : a.drop (i + 1) = b.drop (i + 1) := by
  apply List.ext_getElem
  ·simp [hl]
  ·intro j h1 h2
   simp only [List.length_drop] at h1 h2
   have := he (i + 1 + j) (by omega) (by omega)
   rw [zDj 0 (by omega), zDj 0 (by omega)] at this
   simpa using this
 have ea : ze a = ze (a.take (i + 1)) + B ^ (i + 1) * ze (a.drop (i + 1)) := by
  conv => lhs; rw [← List.take_append_drop (i + 1) a]
  rw [zCx, List.length_take, Nat.min_eq_left (by omega)]
 have eb : ze b = ze (b.take (i + 1)) + B ^ (i + 1) * ze (b.drop (i + 1)) := by
  conv => lhs; rw [← List.take_append_drop (i + 1) b]
  rw [zCx, List.length_take, Nat.min_eq_left (by omega)]
 rw [ea, eb, hd, zFJ i hi, zFJ i (by omega)]
 have h1 := zAt (ha.take i)
 rw [List.length_take, Nat.min_eq_left (by omega)] at h1
 have hga := ha.get hi
 have hgb := hb.get (i := i) (by omega)
 have h2 : B ^ i * ((a.getD i 0).toNat + 1) ≤ B ^ i * (b.getD i 0).toNat := Nat.mul_le_mul_left _ (by omega)
 rw [Nat.mul_add, Nat.mul_one] at h2
 omega
theorem zLC {l : List Int} {i : Nat} {x : Int} (hi : i < l.length) : ze (l.set i x) + B ^ i * (l.getD i 0).toNat = ze l + B ^ i * x.toNat := by
 induction l generalizing i with
 | nil => simp at hi
 | cons y r ih =>
  cases i with
  | zero => simp only [List.set_cons_zero, ze, Nat.pow_zero, Nat.one_mul, List.getD_cons_zero]; omega
  | succ i =>
   have h := ih (i := i) (by simpa using hi)
   simp only [List.set_cons_succ, ze, List.getD_cons_succ, Nat.pow_succ]
   have e1 : B ^ i * B * (r.getD i 0).toNat = B * (B ^ i * (r.getD i 0).toNat) := by rw [Nat.mul_comm (B ^ i) B, Nat.mul_assoc]
   have e2 : B ^ i * B * x.toNat = B * (B ^ i * x.toNat) := by rw [Nat.mul_comm (B ^ i) B, Nat.mul_assoc]
   rw [e1, e2]
   have e3 : B * (ze (r.set i x) + B ^ i * (r.getD i 0).toNat) = B * (ze r + B ^ i * x.toNat) := by rw [h]
   rw [Nat.mul_add, Nat.mul_add] at e3
   omega
theorem Lim.set {l : List Int} (h : Lim l) {i : Nat} {x : Int} (hx : 0 ≤ x ∧ x < 4294967296) : Lim (l.set i x) := fun y hy => by
 rcases List.mem_or_eq_of_mem_set hy with h1 | h1
 ·exact h y h1
 ·subst h1; exact hx
theorem Lim.zeros (k : Nat) : Lim (List.replicate k 0) := fun x hx => by rw [(List.mem_replicate.1 hx).2]; omega
/-- A carry is parted. -/
theorem zH1 (c : Nat) (p : Nat) : p * (c % B) + p * B * (c / B) = p * c := by
 rw [Nat.mul_assoc, ← Nat.mul_add, Nat.mod_add_div]
/-- One more limb, with a carry. -/
theorem zIA {out : List Int} {i c t u : Nat} (hl : out.length = i) (h : ze out + B ^ i * t = u) {d : Nat} (hc : c = t + d) : ze (out ++ [((c % B : Nat) : Int)]) + B ^ (i + 1) * (c / B) = u + B ^ i * d := by
 rw [zD6, hl, Int.toNat_natCast, Nat.pow_succ]
 have := zH1 c (B ^ i)
 have e : B ^ i * c = B ^ i * t + B ^ i * d := by rw [hc, Nat.mul_add]
 omega
theorem zEB (c : Nat) : 0 ≤ ((c % B : Nat) : Int) ∧ ((c % B : Nat) : Int) < 4294967296 := by
 have := Nat.mod_lt c (show 0 < B by decide)
 unfold B at this ⊢; omega
/-- Knuth's estimate: the quotient by the first three and the first two limbs. -/
theorem est_ge {u v U V P q : Nat} (hP : 0 < P) (hu : u < (U + 1) * P) (hv : V * P ≤ v) (hq : q * v ≤ u) : q * V ≤ U := by
 have h1 : q * V * P ≤ q * v := by rw [Nat.mul_assoc]; exact Nat.mul_le_mul_left _ hv
 have h2 : q * V * P < (U + 1) * P := Nat.lt_of_le_of_lt (Nat.le_trans h1 hq) hu
 have := Nat.lt_of_mul_lt_mul_right h2
 omega
theorem est_le {u v U V P g : Nat} (hP : 0 < P) (hu : U * P ≤ u) (hv : v ≤ (V + 1) * P) (hg : g * V ≤ U) (hgV : g ≤ V + 1) (h1 : 1 ≤ g) : (g - 1) * v ≤ u := by
 have a : (g - 1) * v ≤ (g - 1) * ((V + 1) * P) := Nat.mul_le_mul_left _ hv
 have b : (g - 1) * ((V + 1) * P) = (g - 1) * (V + 1) * P := by rw [Nat.mul_assoc]
 have c : (g - 1) * (V + 1) ≤ g * V := by
  obtain ⟨k, rfl⟩ : ∃ k, g = k + 1 := ⟨g - 1, by omega⟩
  simp only [Nat.add_sub_cancel]
  rw [Nat.mul_add, Nat.add_mul]
  omega
 have d : (g - 1) * (V + 1) * P ≤ U * P := Nat.mul_le_mul_right _ (Nat.le_trans c hg)
 omega
theorem zx (l : List Int) (i : Nat) : ze (l.take (i + 1)) = ze (l.take i) + B ^ i * (l.getD i 0).toNat := by
 rcases Nat.lt_or_ge i l.length with h | h
 ·exact zFJ i h
 ·rw [List.take_of_length_le h, List.take_of_length_le (by omega)]
  have : l.getD i 0 = 0 := by simp [List.getD, List.getElem?_eq_none h]
  rw [this]; simp
theorem Lim.get' {l : List Int} (h : Lim l) (i : Nat) : 0 ≤ l.getD i 0 ∧ l.getD i 0 < 4294967296 := by
 rcases Nat.lt_or_ge i l.length with hi | hi
 ·exact h.get hi
 ·have : l.getD i 0 = 0 := by simp [List.getD, List.getElem?_eq_none hi]
  omega
theorem Lim.nat {l : List Int} (h : Lim l) (i : Nat) : ∃ d : Nat, l.getD i 0 = (d : Int) ∧ d < 4294967296 := by
 have := h.get' i
 exact ⟨(l.getD i 0).toNat, by omega, by omega⟩
theorem zRy (l : List Int) (i : Nat) : ze l = ze (l.take i) + B ^ (min i l.length) * ze (l.drop i) := by
 conv => lhs; rw [← List.take_append_drop i l]
 rw [zCx, List.length_take]
theorem zLB (l : List Int) (i : Nat) : ze (l.drop i) = (l.getD i 0).toNat + B * ze (l.drop (i + 1)) := by
 rcases Nat.lt_or_ge i l.length with h | h
 ·rw [zCl l 0 i h, ze]
 ·rw [List.drop_of_length_le h, List.drop_of_length_le (by omega)]
  have : l.getD i 0 = 0 := by simp [List.getD, List.getElem?_eq_none h]
  rw [this]; simp [ze]
theorem zIE {l : List Int} (h : Lim l) {k : Nat} (hv : ze l < B ^ k) : ze (l.take k) = ze l := by
 rcases Nat.lt_or_ge k l.length with hl | hl
 ·have e := zRy l k
  rw [Nat.min_eq_left (by omega)] at e
  have : ze (l.drop k) = 0 := by
   rcases Nat.eq_zero_or_pos (ze (l.drop k)) with h0 | h0
   ·exact h0
   ·exfalso
    have : B ^ k * 1 ≤ B ^ k * ze (l.drop k) := Nat.mul_le_mul_left _ h0
    omega
  rw [this] at e
  omega
 ·rw [List.take_of_length_le hl]
theorem zQ9 {l : List Int} {k i : Nat} (h : i < k) : (l.take k).getD i 0 = l.getD i 0 := by
 simp only [List.getD, List.getElem?_take, h, if_true]
/-- Limbs, cut to their true length. -/
theorem zRt {l : List Int} (hl : Lim l) : l.take (zS (ze l)).length = zS (ze l) := by
 have h := zAe (zAt hl)
 have hsm := zAt (zAR (ze l))
 rw [z6] at hsm
 have hv := zIE hl hsm
 obtain ⟨n, hn⟩ : ∃ n, (zS (ze l)).length = n := ⟨_, rfl⟩
 rw [hn] at h hsm hv ⊢
 rcases Nat.eq_zero_or_pos n with q | q
 ·subst q
  rw [List.take_zero, List.length_eq_zero_iff.1 hn]
 ·have e := zNg (hl.take n) (.inr (fun h9 => ?_))
  ·rw [hv] at e; exact e.symm
  ·rw [List.length_take, Nat.min_eq_left h, zQ9 (by omega)] at h9
   have hlast := zx l (n - 1)
   rw [show n - 1 + 1 = n by omega, hv, h9] at hlast
   have h5 := zAt (hl.take (n - 1))
   rw [List.length_take, Nat.min_eq_left (by omega)] at h5
   have h6 : ze l < B ^ (n - 1) := by rw [hlast]; simpa using h5
   have := zAe h6
   omega
theorem zOT (n i : Nat) : (List.replicate n (0 : Int)).getD i 0 = 0 := by
 simp only [List.getD, List.getElem?_replicate]
 split <;> rfl
theorem bpos (i : Nat) : 0 < B ^ i := Nat.pow_pos (by decide)
/-- One limb of a sum, of a difference. -/
theorem zM2 {out x y : List Int} {i cr d e : Nat} (hl : out.length = i) (h : ze out + B ^ i * cr = ze (x.take i) + ze (y.take i)) (hd : x.getD i 0 = (d : Int)) (he : y.getD i 0 = (e : Int)) :
 ze (out ++ [(((cr + d + e) % 4294967296 : Nat) : Int)]) + B ^ (i + 1) * ((cr + d + e) / 4294967296) = ze (x.take (i + 1)) + ze (y.take (i + 1)) := by
 have := zIA hl h (c := cr + d + e) (d := d + e) (by omega)
 rw [zx, zx, hd, he, Int.toNat_natCast, Int.toNat_natCast]
 rw [Nat.mul_add] at this
 unfold B at *
 omega
theorem zRp {out x y : List Int} {i br d e yv br' : Nat} (hl : out.length = i) (h : ze out + ze (y.take i) = ze (x.take i) + B ^ i * br) (hd : x.getD i 0 = (d : Int)) (he : y.getD i 0 = (e : Int)) (hy : yv + br + e = d + 4294967296 * br') :
 ze (out ++ [(yv : Int)]) + ze (y.take (i + 1)) = ze (x.take (i + 1)) + B ^ (i + 1) * br' := by
 rw [zx, zx, hd, he, Int.toNat_natCast, Int.toNat_natCast, zD6, hl, Int.toNat_natCast, Nat.pow_succ, Nat.mul_assoc]
 have h3 : B ^ i * yv + B ^ i * br + B ^ i * e = B ^ i * d + B ^ i * (B * br') := by rw [← Nat.mul_add, ← Nat.mul_add, ← Nat.mul_add]; exact congrArg _ hy
 omega
/-- One limb of a product. -/
theorem mul_step {out : List Int} {p cr a b o u : Nat} (hp : p < out.length) (h : ze out + B ^ p * cr = u) (ho : out.getD p 0 = (o : Int)) :
 ze (out.set p (((cr + (a * b + o)) % 4294967296 : Nat) : Int)) + B ^ (p + 1) * ((cr + (a * b + o)) / 4294967296) = u + B ^ p * (a * b) := by
 have h1 := zLC (x := (((cr + (a * b + o)) % 4294967296 : Nat) : Int)) hp
 rw [ho, Int.toNat_natCast, Int.toNat_natCast] at h1
 have h2 := zH1 (cr + (a * b + o)) (B ^ p)
 rw [Nat.pow_succ]
 have e : B ^ p * (cr + (a * b + o)) = B ^ p * cr + (B ^ p * (a * b) + B ^ p * o) := by rw [Nat.mul_add, Nat.mul_add]
 rw [e] at h2
 unfold B at *
 omega
theorem zDk {l : List Int} {i j : Nat} {x : Int} (h : i ≠ j) : (l.set i x).getD j 0 = l.getD j 0 := by
 simp only [List.getD, List.getElem?_set_ne h]
theorem zMX {l : List Int} {i : Nat} {x : Int} (h : i < l.length) : (l.set i x).drop i = x :: l.drop (i + 1) := by
 have h2 : i < (l.set i x).length := by simpa using h
 rw [zCl (l.set i x) 0 i h2]
 congr 1
 ·simp [List.getD, h]
 ·rw [List.drop_set_of_lt (by omega)]
theorem p32 : (2 : Nat) ^ 32 = 4294967296 := by decide
theorem zJT {a : Nat} (h : a < 4294967296) : a * 2 ^ 32 < 18446744073709551616 := by
 have e : a * 2 ^ 32 = a * 4294967296 := congrArg (a * ·) p32
 rw [e]; omega
theorem zPC {a b : Nat} (h : b < 4294967296) : a * 2 ^ 32 ||| b = a * 4294967296 + b := by
 have := Nat.two_pow_add_eq_or_of_lt (i := 32) (b := b) (by simpa using h) a
 rw [Nat.mul_comm (2 ^ 32) a] at this
 rw [← this]
/-- Comparing. -/
def zEH (x y : Int) : Int := if x < y then -1 else if y < x then 1 else 0
theorem zIR {x y : Int} (h : x < y) : zEH x y = -1 := if_pos h
theorem zIQ {x y : Int} (h : y < x) : zEH x y = 1 := by unfold zEH; rw [if_neg (by omega), if_pos h]
theorem zPp {x y : Int} (h : x = y) : zEH x y = 0 := by unfold zEH; rw [if_neg (by omega), if_neg (by omega)]
theorem cmp_len (a b : Nat) (h : (zS a).length ≠ (zS b).length) : zEH a b = zEH (zS a).length (zS b).length := by
 have key : ∀ u v : Nat, (zS u).length < (zS v).length → u < v := by
  intro u v huv
  rcases Nat.lt_or_ge u v with q | q
  ·exact q
  ·exfalso
   have h1 := zAt (zAR u)
   rw [z6] at h1
   have h2 : v < B ^ (zS u).length := Nat.lt_of_le_of_lt q h1
   have := zAe h2
   omega
 rcases Nat.lt_or_ge (zS a).length (zS b).length with q | q
 ·rw [zIR (Int.ofNat_lt.2 q), zIR (Int.ofNat_lt.2 (key a b q))]
 ·have q' : (zS b).length < (zS a).length := by omega
  rw [zIQ (Int.ofNat_lt.2 q'), zIQ (Int.ofNat_lt.2 (key b a q'))]
theorem cmp_limb {a b : Nat} (ha : Lim (zS a)) (hb : Lim (zS b)) (hl : (zS a).length = (zS b).length) {i : Nat} (hi : i < (zS a).length) (he : ∀ j, i < j → j < (zS a).length → (zS a).getD j 0 = (zS b).getD j 0) (hne : (zS a).getD i 0 ≠ (zS b).getD i 0) :
 zEH a b = zEH ((zS a).getD i 0) ((zS b).getD i 0) := by
 rcases Int.lt_trichotomy ((zS a).getD i 0) ((zS b).getD i 0) with q | q | q
 ·have := zLU i ha hb hl hi he q
  rw [z6, z6] at this
  rw [zIR q, zIR (Int.ofNat_lt.2 this)]
 ·exact absurd q hne
 ·have := zLU i hb ha hl.symm (by omega) (fun j h1 h2 => (he j h1 (by omega)).symm) q
  rw [z6, z6] at this
  rw [zIQ q, zIQ (Int.ofNat_lt.2 this)]
theorem cmp_same {a b : Nat} (hl : (zS a).length = (zS b).length) (he : ∀ j, j < (zS a).length → (zS a).getD j 0 = (zS b).getD j 0) : zEH a b = 0 := by
 have : zS a = zS b := by
  apply List.ext_getElem hl
  intro i h1 h2
  have := he i h1
  rw [zDj 0 h1, zDj 0 h2] at this
  exact this
 rw [zPp (by rw [natL_inj this])]
/-- What the estimate begins with: at least the quotient. -/
theorem guess_ge {B top v1 v2 u2 g : Nat} (hv1 : 0 < v1) (h2 : u2 < B) (hg : g * (v1 * B + v2) ≤ top * B + u2) : g ≤ top / v1 := by
 rw [Nat.le_div_iff_mul_le hv1]
 have : g * v1 * B ≤ top * B + u2 := by
  refine Nat.le_trans ?_ hg
  rw [Nat.mul_add, Nat.mul_assoc]
  exact Nat.le_add_right _ _
 have : g * v1 * B < (top + 1) * B := by rw [Nat.add_mul]; omega
 have := Nat.lt_of_mul_lt_mul_right this
 omega
/-- The two conditions of the loop, together. -/
theorem zO1 {B top v1 v2 u2 g rest : Nat} (hr : rest + g * v1 = top) (hg : g < B) (h2 : v2 < B) : (rest < B ∧ rest * B + u2 < g * v2) ↔ top * B + u2 < g * (v1 * B + v2) := by
 have e : g * (v1 * B + v2) = g * v1 * B + g * v2 := by rw [Nat.mul_add, Nat.mul_assoc]
 have e2 : top * B = rest * B + g * v1 * B := by rw [← hr, Nat.add_mul]
 rw [e, e2]
 constructor
 ·rintro ⟨_, h⟩; omega
 ·intro h
  refine ⟨?_, by omega⟩
  rcases Nat.lt_or_ge rest B with q | q
  ·exact q
  ·exfalso
   have h3 : B * B ≤ rest * B := Nat.mul_le_mul_right _ q
   have h4 : g * v2 ≤ B * B := Nat.mul_le_mul (by omega) (by omega)
   omega
/-- One limb of a subtraction of a product. -/
theorem sub_step {P w g va u0 c b t y : Nat} (h : w + g * va = u0 + P * (c + b)) {ui : Nat} (b' : Nat) (hx : (y : Int) = (ui : Int) - ((c + t) % B : Nat) - b + B * b') :
 w + P * y + (g * va + P * t) = u0 + P * ui + P * B * ((c + t) / B + b') := by
 have e : P * ((c + t) % B) + P * B * ((c + t) / B) = P * (c + t) := zH1 (c + t) P
 have h1 : (y : Int) + ((c + t) % B : Nat) + b = ui + B * b' := by omega
 have h2 : y + (c + t) % B + b = ui + B * b' := by omega
 have h3 : P * y + P * ((c + t) % B) + P * b = P * ui + P * (B * b') := by rw [← Nat.mul_add, ← Nat.mul_add, h2, Nat.mul_add]
 rw [Nat.mul_add (P * B), Nat.mul_assoc P B b']
 rw [Nat.mul_add] at e h
 omega
/-- What the zBm is: its number and what remains. -/
theorem zOm {u v g w : Nat} {n b : Nat} (hw : w < B ^ n) (hv : v < B ^ n) (hu : u < B ^ n) (hb : b ≤ 1) (h : w + g * v = u + B ^ n * b) (h1 : u / v ≤ g) (h2 : g ≤ u / v + 1) (hv0 : 0 < v) :
 (b = 0 → g = u / v ∧ w = u % v) ∧ (b = 1 → g = u / v + 1 ∧ (w + v) = u % v + B ^ n) := by
 have hd := Nat.div_add_mod u v
 have hm := Nat.mod_lt u hv0
 have hc : v * (u / v) = (u / v) * v := Nat.mul_comm _ _
 constructor
 ·intro h0
  subst h0
  rw [Nat.mul_zero, Nat.add_zero] at h
  have hge : g ≤ u / v := by rw [Nat.le_div_iff_mul_le hv0]; omega
  have : g = u / v := by omega
  subst this
  exact ⟨Z, by omega⟩
 ·intro h0
  subst h0
  rw [Nat.mul_one] at h
  have hg : g = u / v + 1 := by
   rcases Nat.lt_or_ge g (u / v + 1) with q | q
   ·exfalso
    have : g = u / v := by omega
    subst this
    omega
   ·omega
  subst hg
  rw [Nat.add_mul, Nat.one_mul] at h
  exact ⟨Z, by omega⟩
end Go.Ax.Bg
namespace Go.Ax.Tb
/-- strings.Cut at one byte. -/
def zDD (b : UInt8) : List UInt8 → List UInt8 × List UInt8 × Bool
 | [] => ([], [], false)
 | c :: r => if c = b then ([], r, true) else (c :: (zDD b r).1, (zDD b r).2.1, (zDD b r).2.2)
theorem zPy {b : UInt8} {s : List UInt8} (h : b ∉ s) : zDD b s = (s, [], false) := by
 induction s with
 | nil => rfl
 | cons c r ih =>
  simp only [List.mem_cons, not_or] at h
  rw [zDD, if_neg (fun e => h.1 e.symm), ih h.2]
theorem zPx {b : UInt8} {l r : List UInt8} (h : b ∉ l) : zDD b (l ++ b :: r) = (l, r, true) := by
 induction l with
 | nil => rw [List.nil_append, zDD, if_pos rfl]
 | cons c q ih =>
  simp only [List.mem_cons, not_or] at h
  rw [List.cons_append, zDD, if_neg (fun e => h.1 e.symm), ih h.2]
theorem zNJ (b : UInt8) (s : List UInt8) : (zDD b s).1.length + (zDD b s).2.1.length + (if (zDD b s).2.2 then 1 else 0) = s.length := by
 induction s with
 | nil => rfl
 | cons c r ih =>
  rw [zDD]
  split
  ·simp
  ·simp only [List.length_cons]; omega
/-- .. and by the index of the byte. -/
theorem zKG (b : UInt8) (s : List UInt8) : zDD b s = if 0 ≤ Lib.indexByte s b then (s.take (Lib.indexByte s b).toNat, s.drop ((Lib.indexByte s b).toNat + 1), true) else (s, [], false) := by
 induction s with
 | nil => rfl
 | cons c r ih =>
  rw [zDD, Lib.indexByte]
  by_cases hc : c = b
  ·subst hc; simp
  ·have hb : (c == b) = false := by simpa using hc
   simp only [hb, Bool.false_eq_true, if_false, hc]
   rw [ih]
   have hge := Lib.indexByte_ge r b
   by_cases h1 : Lib.indexByte r b = -1
   ·simp [h1]
   ·have h2 : (Lib.indexByte r b == -1) = false := by simpa using h1
    simp only [h2, Bool.false_eq_true, if_false]
    rw [if_pos (by omega), if_pos (by omega)]
    have e : (Lib.indexByte r b + 1).toNat = (Lib.indexByte r b).toNat + 1 := by omega
    rw [e]; rfl
def zBm (c : UInt8) : Prop := 48 ≤ c.toNat ∧ c.toNat ≤ 57
theorem zEI {d : Nat} (h : d < 10) : zBm (UInt8.ofNat (48 + d)) ∧ (UInt8.ofNat (48 + d)).toNat = 48 + d := by
 have e : (UInt8.ofNat (48 + d)).toNat = 48 + d := by simp; omega
 exact ⟨⟨by omega, by omega⟩, e⟩
theorem zB4 (u : Nat) : ∀ c ∈ Lib.decDigits u, zBm c := by
 induction u using Nat.strongRecOn with
 | _ u ih =>
  intro c hc
  rw [Lib.decDigits] at hc
  split at hc
  ·rename_i h
   simp only [List.mem_singleton] at hc
   subst hc; exact (zEI h).1
  ·rw [List.mem_append] at hc
   rcases hc with hc | hc
   ·exact ih _ (by omega) c hc
   ·simp only [List.mem_singleton] at hc
    subst hc; exact (zEI (Nat.mod_lt _ (by decide))).1
theorem zCk (u : Nat) : Lib.decDigits u ≠ [] := by
 rw [Lib.decDigits]
 split <;> simp
theorem itoa_nat (u : Nat) : Lib.itoa (u : Int) = Lib.decDigits u := by
 unfold Lib.itoa
 rw [if_neg (by omega)]; simp
def same (v : Int) : List Int → Nat
 | [] => 0
 | x :: r => if x = v then same v r + 1 else 0
theorem digit_ne {c : UInt8} (h : zBm c) (b : UInt8) (hb : b.toNat < 48 ∨ 57 < b.toNat) : b ≠ c := fun e => by
 subst e; unfold zBm at h; omega
theorem zEm (u : Nat) (b : UInt8) (hb : b.toNat < 48 ∨ 57 < b.toNat) : b ∉ Lib.decDigits u := fun h => digit_ne (zB4 u b h) b hb rfl
end Go.Ax.Tb
namespace Go.Ax.Bg
open Go.Ax.Tb (zBm zEI zB4 zCk)
/-- What digits spell. -/
def decS (a : Nat) (c : UInt8) : Nat := a * 10 + (c.toNat - 48)
def zA7 (acc : Nat) (l : List UInt8) : Nat := l.foldl decS acc
theorem zFs (acc : Nat) : zA7 acc [] = acc := rfl
theorem zDW (acc : Nat) (c : UInt8) (r : List UInt8) : zA7 acc (c :: r) = zA7 (acc * 10 + (c.toNat - 48)) r := by
 unfold zA7; rw [List.foldl_cons, decS]
theorem zGv (l m : List UInt8) (acc : Nat) : zA7 acc (l ++ m) = zA7 (zA7 acc l) m := by
 unfold zA7; rw [List.foldl_append]
theorem zGu (l : List UInt8) (acc : Nat) : zA7 acc l = acc * 10 ^ l.length + zA7 0 l := by
 induction l generalizing acc with
 | nil => rw [zFs, zFs]; simp
 | cons c r ih =>
  rw [zDW, zDW, ih, ih (0 * 10 + _), List.length_cons, Nat.pow_succ]
  generalize c.toNat - 48 = d
  generalize 10 ^ r.length = e
  generalize zA7 0 r = v
  rw [Nat.add_mul, Nat.zero_mul, Nat.zero_add, Nat.mul_assoc, Nat.mul_comm 10 e]
  omega
theorem zLX (l : List UInt8) (c : UInt8) (acc : Nat) : zA7 acc (l ++ [c]) = zA7 acc l * 10 + (c.toNat - 48) := by rw [zGv, zDW, zFs]
theorem zBh (u : Nat) : zA7 0 (Lib.decDigits u) = u := by
 induction u using Nat.strongRecOn with
 | _ u ih =>
  rw [Lib.decDigits]
  split
  ·rename_i h
   have := (zEI h).2
   rw [zDW, zFs, this]; omega
  ·have := (zEI (Nat.mod_lt u (show 0 < 10 by decide))).2
   rw [zLX, ih _ (by omega), this]
   omega
theorem zJw {l : List UInt8} (h : ∀ c ∈ l, zBm c) : zA7 0 l < 10 ^ l.length := by
 induction l with
 | nil => rw [zFs]; simp
 | cons c r ih =>
  have hc := h c (by simp)
  have i := ih (fun x hx => h x (by simp [hx]))
  unfold zBm at hc
  rw [zDW, zGu, List.length_cons, Nat.pow_succ]
  have : (c.toNat - 48) * 10 ^ r.length ≤ 9 * 10 ^ r.length := Nat.mul_le_mul_right _ (by omega)
  rw [Nat.zero_mul, Nat.zero_add]
  generalize 10 ^ r.length = e at *
  generalize (c.toNat - 48) * e = q at *
  omega
theorem zPz {c : UInt8} {r : List UInt8} (h : zBm c) (h0 : c ≠ 48) : 10 ^ r.length ≤ zA7 0 (c :: r) := by
 unfold zBm at h
 have hc : c.toNat ≠ 48 := fun e => h0 (UInt8.toNat_inj.1 e)
 rw [zDW, zGu]
 have : 1 * 10 ^ r.length ≤ (0 * 10 + (c.toNat - 48)) * 10 ^ r.length := Nat.mul_le_mul_right _ (by omega)
 generalize (0 * 10 + (c.toNat - 48)) * 10 ^ r.length = q at *
 omega
theorem snocInd {α : Type} {p : List α → Prop} (h0 : p []) (h1 : ∀ l x, p l → p (l ++ [x])) : ∀ l, p l := by
 intro l
 have key : ∀ (n : Nat) (l : List α), l.length = n → p l := by
  intro n
  induction n with
  | zero => intro l hl; rw [List.length_eq_zero_iff.1 hl]; exact h0
  | succ n ih =>
   intro l hl
   have hne : l ≠ [] := by intro e; subst e; simp at hl
   rw [← List.dropLast_concat_getLast hne]
   exact h1 _ _ (ih _ (by simp [hl]))
 exact key _ l Z
/-- A number's text: digits, not empty, and no 0 ahead of others. -/
def zHi (s : List UInt8) : Prop := s ≠ [] ∧ (∀ c ∈ s, zBm c) ∧ (s.getD 0 0 ≠ 48 ∨ s.length = 1)
theorem zEh (u : Nat) : zHi (Lib.decDigits u) := by
 refine ⟨zCk u, zB4 u, ?_⟩
 induction u using Nat.strongRecOn with
 | _ u ih =>
  rw [Lib.decDigits]
  split
  ·exact .inr Z
  ·left
   rename_i h
   have hne := zCk (u / 10)
   rcases ih (u / 10) (by omega) with h1 | h1
   ·cases hq : Lib.decDigits (u / 10) with
    | nil => exact absurd hq hne
    | cons c r => rw [hq] at h1; simpa using h1
   ·have hlt : u / 10 < 10 := by
     have hl := Lib.decDigits_length (u / 10)
     rw [h1] at hl
     have := Lib.lt_pow_nDigits (u / 10)
     rw [← hl] at this
     simpa using this
    rw [Lib.decDigits_one hlt]
    simp only [List.cons_append, List.getD_cons_zero]
    intro e
    have := congrArg UInt8.toNat e
    rw [(zEI hlt).2] at this
    have : (48 : UInt8).toNat = 48 := rfl
    omega
theorem zFq {s : List UInt8} (h : zHi s) : Lib.decDigits (zA7 0 s) = s := by
 obtain ⟨h1, h2, h3⟩ := h
 revert h1 h2 h3
 refine snocInd (p := fun s => s ≠ [] → (∀ c ∈ s, zBm c) → (s.getD 0 0 ≠ 48 ∨ s.length = 1) → Lib.decDigits (zA7 0 s) = s) ?_ ?_ s
 ·intro h; exact absurd rfl h
 ·intro l c ih _ hd h3
  have hc := hd c (by simp)
  have hcv : UInt8.ofNat (48 + (c.toNat - 48)) = c := by
   unfold zBm at hc
   rw [show 48 + (c.toNat - 48) = c.toNat by omega]
   simp
  rw [zLX]
  cases l with
  | nil =>
   rw [zFs, List.nil_append, Nat.zero_mul, Nat.zero_add]
   rw [Lib.decDigits, dif_pos (by unfold zBm at hc; omega), hcv]
  | cons x r =>
   have hx : x ≠ 48 := by
    rcases h3 with h3 | h3
    ·simpa using h3
    ·simp at h3
   have hxd := hd x (by simp)
   have hge := zPz (r := r) hxd hx
   have hpos : 1 ≤ 10 ^ r.length := Nat.one_le_pow _ _ (by decide)
   have i := ih (by simp) (fun c hc => hd c (by simp at hc ⊢; rcases hc with rfl | hc; exact .inl rfl; exact .inr (.inl hc))) (.inl (by simpa using hx))
   generalize zA7 0 (x :: r) = v at *
   unfold zBm at hc
   rw [Lib.decDigits, dif_neg (by omega)]
   rw [show (v * 10 + (c.toNat - 48)) / 10 = v by omega, show (v * 10 + (c.toNat - 48)) % 10 = c.toNat - 48 by omega, i, hcv]
theorem zFe {a b : Nat} (h : Lib.decDigits a = Lib.decDigits b) : a = b := by rw [← zBh a, ← zBh b, h]
/-- How long a text is. -/
theorem zDE {n k : Nat} (hk : 1 ≤ k) (h : n < 10 ^ k) : (Lib.decDigits n).length ≤ k := by
 have hl := Lib.decDigits_length n
 rcases Nat.lt_or_ge k (Lib.decDigits n).length with hlt | hge
 ·exfalso
  have hc := zEh n
  have hv := zBh n
  cases hq : Lib.decDigits n with
  | nil => exact zCk n hq
  | cons c r =>
   rw [hq] at hc hv hlt
   simp only [List.length_cons] at hlt
   have hne : c ≠ 48 := by
    rcases hc.2.2 with h | h
    ·simpa using h
    ·simp at h; subst h; simp at hlt; omega
   have := zPz (r := r) (hc.2.1 c (by simp)) hne
   rw [hv] at this
   have : 10 ^ k ≤ 10 ^ r.length := Nat.pow_le_pow_right (by decide) (by omega)
   omega
 ·exact hge
theorem zEr (n : Nat) : n < 10 ^ (Lib.decDigits n).length := by
 have := zJw (zB4 n)
 rwa [zBh] at this
/-- Nine digits behind the others. -/
def pad (k m : Nat) : List UInt8 := List.replicate (k - (Lib.decDigits m).length) 48 ++ Lib.decDigits m
theorem zOj (k : Nat) (l : List UInt8) : zA7 0 (List.replicate k 48 ++ l) = zA7 0 l := by
 induction k with
 | zero => rfl
 | succ k ih => rw [List.replicate_succ, List.cons_append, zDW]; exact ih
theorem pad_len {k m : Nat} (hk : 1 ≤ k) (h : m < 10 ^ k) : (pad k m).length = k := by
 have := zDE hk h
 unfold pad; simp; omega
theorem zRQ (k m : Nat) : ∀ c ∈ pad k m, zBm c := by
 intro c hc
 unfold pad at hc
 rcases List.mem_append.1 hc with h | h
 ·rw [(List.mem_replicate.1 h).2]; exact ⟨by decide, by decide⟩
 ·exact zB4 m c h
theorem zMV {n k : Nat} (hk : 1 ≤ k) (h : 10 ^ k ≤ n) : Lib.decDigits n = Lib.decDigits (n / 10 ^ k) ++ pad k (n % 10 ^ k) := by
 have hp : 0 < 10 ^ k := Nat.pow_pos (by decide)
 have hm := Nat.mod_lt n hp
 have hd : n / 10 ^ k ≠ 0 := by have := Nat.div_pos h hp; omega
 have hc := zEh (n / 10 ^ k)
 have hcan : zHi (Lib.decDigits (n / 10 ^ k) ++ pad k (n % 10 ^ k)) := by
  refine ⟨by simp [hc.1], fun c hcm => ?_, .inl ?_⟩
  ·rcases List.mem_append.1 hcm with h | h
   ·exact hc.2.1 c h
   ·exact zRQ _ _ c h
  ·cases hq : Lib.decDigits (n / 10 ^ k) with
   | nil => exact absurd hq hc.1
   | cons c r =>
    rw [hq] at hc
    simp only [List.cons_append, List.getD_cons_zero]
    rcases hc.2.2 with h | h
    ·simpa using h
    ·simp only [List.length_cons, Nat.add_eq_right, List.length_eq_zero_iff] at h
     subst h
     intro e
     subst e
     have := zBh (n / 10 ^ k)
     rw [hq] at this
     exact hd (this.symm.trans (by decide))
 have hv : zA7 0 (Lib.decDigits (n / 10 ^ k) ++ pad k (n % 10 ^ k)) = n := by
  rw [zGv, zBh, zGu, pad_len hk hm]
  have : zA7 0 (pad k (n % 10 ^ k)) = n % 10 ^ k := by unfold pad; rw [zOj, zBh]
  rw [this, Nat.mul_comm]
  exact Nat.div_add_mod n _
 have := zFq hcan
 rw [hv] at this
 exact this
end Go.Ax.Bg
namespace Go.Ax
open Go.Ax.Bg
variable [Pins]
def zGP (l : List Int) : AV := .ro (.ints .u32 l) 0 l.length
def zh (n : Nat) : AV := .ro (.ints .u32 (zS n)) 0 (zS n).length
/-- Limbs cut at their true length are the number's. -/
theorem AEq.lim {l : List Int} {k n : Nat} (h : l.take k = zS n) (hk : k ≤ l.length) : AEq (.ro (.ints .u32 l) 0 k) (zh n) := by
 have hl : (zS n).length = k := by rw [← h, List.length_take, Nat.min_eq_left hk]
 refine AEq.trans AEq.take ?_
 rw [h]
 unfold zh
 rw [hl]
 exact AEq.rfl'
theorem AEq.natNil : AEq .nil (zh 0) := by
 have : zh 0 = .ro (.ints .u32 []) 0 0 := by unfold zh; rw [zBq]; rfl
 rw [this]
 exact AEq.nil
theorem zCU {n : Nat} : 0 < (zS n).length ↔ n ≠ 0 := by
 have _p := ‹Pins›
 constructor
 ·rintro h rfl; rw [zBq] at h; simp at h
 ·intro h; rcases Nat.eq_zero_or_pos (zS n).length with q | q
  ·exact absurd (natL_nil.1 (List.length_eq_zero_iff.1 q)) h
  ·exact q
end Go.Ax
namespace Go.Ax.Bg
/-- So many limbs of a number. -/
def zB5 : Nat → Nat → List Int
 | 0, _ => []
 | k + 1, v => ((v % 4294967296 : Nat) : Int) :: zB5 k (v / 4294967296)
theorem zB6 : ∀ (k v : Nat), (zB5 k v).length = k
 | 0, _ => rfl
 | k + 1, v => by rw [zB5, List.length_cons, zB6]
theorem zFw : ∀ (k v : Nat), Lim (zB5 k v)
 | 0, _ => Lim.nil
 | k + 1, v => by rw [zB5, Lim.cons]; exact ⟨zEB v, zFw k _⟩
theorem zIb : ∀ (k v : Nat), v < B ^ k → ze (zB5 k v) = v
 | 0, v, h => by simp at h; subst h; rfl
 | k + 1, v, h => by
  rw [zB5, ze, Int.toNat_natCast, zIb k]
  ·unfold B; omega
  ·rw [Nat.pow_succ, Nat.mul_comm] at h
   exact Nat.div_lt_of_lt_mul h
theorem zHQ : ∀ {l : List Int} {k v : Nat}, Lim l → l.length = k → ze l = v → l = zB5 k v
 | [], k, v, _, hk, _ => by simp at hk; subst hk; rfl
 | x :: r, k, v, h, hk, hv => by
  rw [Lim.cons] at h
  obtain ⟨m, rfl⟩ : ∃ m, k = m + 1 := ⟨r.length, by simpa using hk.symm⟩
  rw [ze] at hv
  subst hv
  have hx : x.toNat < 4294967296 := by omega
  rw [zB5, Nat.add_mul_mod_self_left, Nat.mod_eq_of_lt hx, Nat.add_mul_div_left _ _ (by decide), Nat.div_eq_of_lt hx, Nat.zero_add]
  rw [← zHQ h.2 (by simpa using hk) rfl]
  congr 1
  omega
theorem zG0 {A U C : List Int} {j i : Nat} (hj : A.length = j) (h : i < U.length) : (A ++ (U ++ C)).getD (j + i) 0 = U.getD i 0 := by
 subst hj
 simp only [List.getD]
 rw [List.getElem?_append_right (by omega), Nat.add_sub_cancel_left, List.getElem?_append_left h]
theorem zQb {A U C : List Int} {j i : Nat} {x : Int} (hj : A.length = j) (h : i < U.length) : (A ++ (U ++ C)).set (j + i) x = A ++ (U.set i x ++ C) := by
 subst hj
 rw [List.set_append_right _ _ (by omega), Nat.add_sub_cancel_left, List.set_append_left _ _ h]
theorem zFm {l : List Int} {i : Nat} {x : Int} (h : i < l.length) : (l.set i x).take (i + 1) = l.take i ++ [x] := by
 have h2 : i < (l.set i x).length := by simpa using h
 rw [zBN (l.set i x) 0 i h2]
 congr 1
 ·rw [List.take_set_of_le (Nat.le_refl _)]
 ·simp [List.getD, h]
/-- The three limbs on top. -/
theorem top3 {U : List Int} {s u0 u1 u2 : Nat} (hs : 2 ≤ s) (hl : U.length = s + 1) (h : Lim U) (h0 : U.getD s 0 = (u0 : Int)) (h1 : U.getD (s - 1) 0 = (u1 : Int)) (h2 : U.getD (s - 2) 0 = (u2 : Int)) :
 ∃ low, low < B ^ (s - 2) ∧ ze U = low + ((u0 * 4294967296 + u1) * 4294967296 + u2) * B ^ (s - 2) := by
 refine ⟨ze (U.take (s - 2)), ?_, ?_⟩
 ·have := zAt (h.take (s - 2))
  rwa [List.length_take, Nat.min_eq_left (by omega)] at this
 ·have e : ze U = ze (U.take (s - 2 + 1 + 1 + 1)) := by rw [List.take_of_length_le (by omega)]
  rw [e, zx, zx, zx, show s - 2 + 1 + 1 = s by omega, show s - 2 + 1 = s - 1 by omega, h0, h1, h2]
  simp only [Int.toNat_natCast]
  have p1 : B ^ (s - 1) = B ^ (s - 2) * 4294967296 := by rw [show s - 1 = s - 2 + 1 by omega, Nat.pow_succ]
  have p0 : B ^ s = B ^ (s - 2) * 4294967296 * 4294967296 := by rw [show s = s - 2 + 1 + 1 by omega, Nat.pow_succ, Nat.pow_succ]; rfl
  rw [p1, p0]
  generalize B ^ (s - 2) = p
  rw [Nat.add_mul, Nat.add_mul, Nat.add_mul]
  rw [show p * 4294967296 * 4294967296 * u0 = u0 * 4294967296 * 4294967296 * p by ac_rfl, show p * 4294967296 * u1 = u1 * 4294967296 * p by ac_rfl, Nat.mul_comm p u2]
  omega
theorem top2 {V : List Int} {s v1 v2 : Nat} (hs : 2 ≤ s) (hl : V.length = s) (h : Lim V) (h1 : V.getD (s - 1) 0 = (v1 : Int)) (h2 : V.getD (s - 2) 0 = (v2 : Int)) :
 ∃ low, low < B ^ (s - 2) ∧ ze V = low + (v1 * 4294967296 + v2) * B ^ (s - 2) := by
 refine ⟨ze (V.take (s - 2)), ?_, ?_⟩
 ·have := zAt (h.take (s - 2))
  rwa [List.length_take, Nat.min_eq_left (by omega)] at this
 ·have e : ze V = ze (V.take (s - 2 + 1 + 1)) := by rw [List.take_of_length_le (by omega)]
  rw [e, zx, zx, show s - 2 + 1 = s - 1 by omega, h1, h2]
  simp only [Int.toNat_natCast]
  have p1 : B ^ (s - 1) = B ^ (s - 2) * 4294967296 := by rw [show s - 1 = s - 2 + 1 by omega, Nat.pow_succ]
  rw [p1]
  generalize B ^ (s - 2) = p
  rw [Nat.add_mul, show p * 4294967296 * v1 = v1 * 4294967296 * p by ac_rfl, Nat.mul_comm p v2]
  omega
theorem est0 {u v U3 V2 P g lu lv : Nat} (hP : 0 < P) (hlu : lu < P) (eu : u = lu + U3 * P) (hlv : lv < P) (ev : v = lv + V2 * P) (hV2 : 4294967296 ≤ V2) (hlt : u < 4294967296 * v) (hg : g ≤ 4294967295) (hgV : g * V2 ≤ U3)
 (hmax : ∀ g', g' ≤ 4294967295 → g' * V2 ≤ U3 → g' ≤ g) : u / v ≤ g ∧ g ≤ u / v + 1 := by
 have hv0 : 0 < v := by
  have : 1 * P ≤ V2 * P := Nat.mul_le_mul_right _ (by omega)
  omega
 have hq : u / v ≤ 4294967295 := by
  have := Nat.div_lt_of_lt_mul (n := v) (k := 4294967296) (m := u) (by rw [Nat.mul_comm]; exact hlt)
  omega
 constructor
 ·refine hmax _ hq (est_ge (u := u) (v := v) hP ?_ ?_ (Nat.div_mul_le_self u v))
  ·rw [Nat.add_mul]; omega
  ·omega
 ·rcases Nat.eq_zero_or_pos g with q | q
  ·rw [q]; exact Nat.zero_le _
  ·have := est_le (u := u) (v := v) (P := P) hP (by omega) (by rw [Nat.add_mul]; omega) hgV (by omega) q
   have h3 : g - 1 ≤ u / v := by rw [Nat.le_div_iff_mul_le hv0]; exact this
   omega
/-- The estimate is the zBm or one more. -/
theorem est {U V : List Int} {s u0 u1 u2 v1 v2 g : Nat} (hs : 2 ≤ s) (hl : U.length = s + 1) (hlv : V.length = s) (h : Lim U) (hv : Lim V) (h0 : U.getD s 0 = (u0 : Int)) (h1 : U.getD (s - 1) 0 = (u1 : Int)) (h2 : U.getD (s - 2) 0 = (u2 : Int))
 (k1 : V.getD (s - 1) 0 = (v1 : Int)) (k2 : V.getD (s - 2) 0 = (v2 : Int)) (htop : 2147483648 ≤ v1) (hlt : ze U < 4294967296 * ze V) (hg : g ≤ 4294967295) (hgV : g * (v1 * 4294967296 + v2) ≤ (u0 * 4294967296 + u1) * 4294967296 + u2)
 (hmax : ∀ g', g' ≤ 4294967295 → g' * (v1 * 4294967296 + v2) ≤ (u0 * 4294967296 + u1) * 4294967296 + u2 → g' ≤ g) : ze U / ze V ≤ g ∧ g ≤ ze U / ze V + 1 := by
 obtain ⟨lu, hlu, eu⟩ := top3 hs hl h h0 h1 h2
 obtain ⟨lv, hlv', ev⟩ := top2 hs hlv hv k1 k2
 exact est0 (bpos _) hlu eu hlv' ev (by omega) hlt hg hgV hmax
theorem and_low (m : Nat) : m &&& 4294967295 = m % 4294967296 := by
 have := Nat.and_two_pow_sub_one_eq_mod m 32
 have e : 2 ^ 32 - 1 = 4294967295 := by decide
 rw [e, p32] at this
 exact this
/-- One limb of the subtraction. -/
theorem zOn {Uc U V : List Int} {i g cr br ui vi yv b' : Nat} (hi : i < Uc.length) (h : ze (Uc.take i) + g * ze (V.take i) = ze (U.take i) + B ^ i * (cr + br)) (hu : U.getD i 0 = (ui : Int)) (hv : V.getD i 0 = (vi : Int))
 (hy : yv + ((cr + g * vi) % 4294967296 + br) = ui + 4294967296 * b') :
 ze ((Uc.set i (yv : Int)).take (i + 1)) + g * ze (V.take (i + 1)) = ze (U.take (i + 1)) + B ^ (i + 1) * ((cr + g * vi) / 4294967296 + b') := by
 rw [zFm hi, zD6, List.length_take, Nat.min_eq_left (by omega), zx, zx, hu, hv, Int.toNat_natCast, Int.toNat_natCast, Int.toNat_natCast, Nat.pow_succ]
 have := sub_step (P := B ^ i) h b' (t := g * vi) (y := yv) (ui := ui) (by unfold B; omega)
 rw [Nat.mul_add, Nat.mul_left_comm g (B ^ i) vi]
 exact this
theorem zQq {a br e : Nat} (ha : a < 4294967296) (he : e < 4294967296) (hb : br ≤ 1) : ∃ yv b' : Nat, yv + (e + br) = a + 4294967296 * b' ∧ b' ≤ 1 ∧ yv < 4294967296 ∧ ((a : Int) - e - br < 0 → b' = 1 ∧ (yv : Int) = a - e - br + 4294967296) ∧ (¬ (a : Int) - e - br < 0 → b' = 0 ∧ (yv : Int) = a - e - br) := by
 rcases Nat.lt_or_ge a (e + br) with q | q
 ·exact ⟨a + 4294967296 - (e + br), 1, by omega, by omega, by omega, fun h => ⟨Z, by omega⟩, fun h => by omega⟩
 ·exact ⟨a - (e + br), 0, by omega, by omega, by omega, fun h => by omega, fun h => ⟨Z, by omega⟩⟩
/-- One limb of the sum in place. -/
theorem zQo {Uc U V : List Int} {i sm ui vi : Nat} (hi : i < Uc.length) (h : ze (Uc.take i) + B ^ i * sm = ze (U.take i) + ze (V.take i)) (hu : U.getD i 0 = (ui : Int)) (hv : V.getD i 0 = (vi : Int)) :
 ze ((Uc.set i (((sm + ui + vi) % 4294967296 : Nat) : Int)).take (i + 1)) + B ^ (i + 1) * ((sm + ui + vi) / 4294967296) = ze (U.take (i + 1)) + ze (V.take (i + 1)) := by
 rw [zFm hi]
 exact zM2 (by simp; omega) h hu hv
theorem zFv : ∀ (a b v : Nat), zB5 (a + b) v = zB5 a v ++ zB5 b (v / B ^ a)
 | 0, b, v => by simp [zB5]
 | a + 1, b, v => by
  rw [show a + 1 + b = a + b + 1 by omega, zB5, zB5, zFv a b, List.cons_append, Nat.pow_succ, Nat.mul_comm (B ^ a), ← Nat.div_div_eq_div_mul]
theorem zGI : ∀ (k v : Nat), ze (zB5 k v) = v % B ^ k
 | 0, v => by simp [zB5, ze, Nat.mod_one]
 | k + 1, v => by
  rw [zB5, ze, Int.toNat_natCast, zGI k, Nat.pow_succ, Nat.mul_comm (B ^ k), Nat.mod_mul]
theorem zOw {k v w : Nat} (h : v % B ^ k = w % B ^ k) : zB5 k v = zB5 k w := by
 have h1 := zHQ (zFw k v) (zB6 k v) (zGI k v)
 have h2 := zHQ (zFw k w) (zB6 k w) (zGI k w)
 rw [h1, h2, h]
/-- The top limb. -/
theorem zHF {v s : Nat} (hs : 1 ≤ s) (h : (zS v).length = s) : ∃ t low : Nat, (zS v).getD (s - 1) 0 = (t : Int) ∧ t < 4294967296 ∧ 0 < t ∧ v = low + B ^ (s - 1) * t ∧ low < B ^ (s - 1) := by
 obtain ⟨t, ht, hb⟩ := (zAR v).nat (s - 1)
 refine ⟨t, ze ((zS v).take (s - 1)), ht, hb, ?_, ?_, ?_⟩
 ·rcases zLs (n := v) with q | q
  ·rw [q] at h; simp at h; omega
  ·rw [h, ht] at q; omega
 ·have := zx (zS v) (s - 1)
  rw [show s - 1 + 1 = (zS v).length by omega, List.take_length, z6, ht, Int.toNat_natCast] at this
  exact this
 ·have := zAt ((zAR v).take (s - 1))
  rwa [List.length_take, Nat.min_eq_left (by omega)] at this
theorem bexp {s : Nat} (hs : 1 ≤ s) : B ^ s = B ^ (s - 1) * 4294967296 := by
 rw [show s = s - 1 + 1 by omega, Nat.pow_succ]; rfl
/-- The divisor, shifted to the top. -/
theorem norm_top {m k s t : Nat} (hs : 1 ≤ s) (h : (zS m).length = s) (ht : (zS m).getD (s - 1) 0 = (t : Int)) (h1 : 2147483648 ≤ t * 2 ^ k) (h2 : t * 2 ^ k < 4294967296) (hk : k ≤ 31) :
 (zS (m * 2 ^ k)).length = s ∧ 2147483648 ≤ (zS (m * 2 ^ k)).getD (s - 1) 0 := by
 obtain ⟨t', low, e, hb, hp, hv, hlow⟩ := zHF hs h
 have : t' = t := by omega
 subst this
 have hP := bpos (s - 1)
 have hpk : 0 < 2 ^ k := Nat.pow_pos (by decide)
 have hd : ∃ q, 4294967296 = q * 2 ^ k := ⟨2 ^ (32 - k), by rw [← Nat.pow_add, show 32 - k + k = 32 by omega]⟩
 obtain ⟨q, hq⟩ := hd
 have h3 : t' + 1 ≤ q := by
  have : t' * 2 ^ k < q * 2 ^ k := by omega
  exact Nat.lt_of_mul_lt_mul_right this
 have h4 : (t' + 1) * 2 ^ k ≤ 4294967296 := by rw [hq]; exact Nat.mul_le_mul_right _ h3
 have hup : m * 2 ^ k < B ^ s := by
  rw [bexp hs]
  have h5 : m < B ^ (s - 1) * (t' + 1) := by rw [Nat.mul_add]; omega
  have h6 : m * 2 ^ k < B ^ (s - 1) * (t' + 1) * 2 ^ k := Nat.mul_lt_mul_of_pos_right h5 hpk
  have h7 : B ^ (s - 1) * ((t' + 1) * 2 ^ k) ≤ B ^ (s - 1) * 4294967296 := Nat.mul_le_mul_left _ h4
  rw [Nat.mul_assoc] at h6
  omega
 have hlo : B ^ (s - 1) * 2147483648 ≤ m * 2 ^ k := by
  have h5 : B ^ (s - 1) * (t' * 2 ^ k) ≤ m * 2 ^ k := by
   rw [← Nat.mul_assoc]; exact Nat.mul_le_mul_right _ (by omega)
  exact Nat.le_trans (Nat.mul_le_mul_left _ h1) h5
 have hlen : (zS (m * 2 ^ k)).length = s := by
  have a := zAe hup
  have b : B ^ (s - 1) ≤ m * 2 ^ k := by
   have : B ^ (s - 1) * 1 ≤ B ^ (s - 1) * 2147483648 := Nat.mul_le_mul_left _ (by decide)
   omega
  have c := zNf b
  omega
 refine ⟨hlen, ?_⟩
 obtain ⟨t2, low2, e2, _, _, hv2, hlow2⟩ := zHF hs hlen
 rw [e2]
 rcases Nat.lt_or_ge t2 2147483648 with z | z
 ·exfalso
  have : B ^ (s - 1) * (t2 + 1) ≤ B ^ (s - 1) * 2147483648 := Nat.mul_le_mul_left _ (by omega)
  rw [Nat.mul_add] at this
  omega
 ·omega
theorem k_more {t k : Nat} (ht : 0 < t) (h : t * 2 ^ k < 4294967296) (hk : k ≤ 31) (h0 : t * 2 ^ k / 2 ^ 31 = 0) : t * 2 ^ (k + 1) < 4294967296 ∧ k + 1 ≤ 31 := by
 have h1 : t * 2 ^ k < 2147483648 := by
  rcases Nat.lt_or_ge (t * 2 ^ k) 2147483648 with q | q
  ·exact q
  ·have := Nat.div_le_div_right (c := 2 ^ 31) q
   rw [h0] at this
   exact absurd this (by decide)
 refine ⟨by rw [Nat.pow_succ, ← Nat.mul_assoc]; omega, ?_⟩
 rcases Nat.lt_or_ge k 31 with q | q
 ·exact q
 ·exfalso
  have : k = 31 := by omega
  subst this
  have : 1 * 2 ^ 31 ≤ t * 2 ^ 31 := Nat.mul_le_mul_right _ ht
  have e : (2 : Nat) ^ 31 = 2147483648 := by decide
  rw [e] at this h1
  omega
theorem k_stop {t k : Nat} (h0 : ¬ t * 2 ^ k / 2 ^ 31 = 0) : 2147483648 ≤ t * 2 ^ k := by
 rcases Nat.lt_or_ge (t * 2 ^ k) 2147483648 with q | q
 ·exact absurd (Nat.div_eq_of_lt (by have e : (2 : Nat) ^ 31 = 2147483648 := by decide
                                     rw [e]; exact q)) h0
 ·exact q
/-- Where the quotient's digits begin. -/
theorem zRY {n ln v s k : Nat} (hn : n < B ^ ln) (hk : k ≤ 31) (hs : 1 ≤ s) (hsl : s ≤ ln) (hv : B ^ (s - 1) * 2147483648 ≤ v) : n * 2 ^ k < v * B ^ (ln + 1 - s) := by
 have hp : 2 ^ k ≤ 2147483648 := Nat.le_trans (Nat.pow_le_pow_right (show 0 < 2 by decide) hk) (by decide)
 have h1 : n * 2 ^ k ≤ n * 2147483648 := Nat.mul_le_mul_left _ hp
 have h2 : B ^ (s - 1) * 2147483648 * B ^ (ln + 1 - s) ≤ v * B ^ (ln + 1 - s) := Nat.mul_le_mul_right _ hv
 have h3 : B ^ (s - 1) * 2147483648 * B ^ (ln + 1 - s) = B ^ ln * 2147483648 := by
  have e : B ^ ln = B ^ (s - 1) * B ^ (ln + 1 - s) := by rw [← Nat.pow_add]; congr 1; omega
  rw [e]; ac_rfl
 omega
theorem top_ge {v s : Nat} (hs : 1 ≤ s) (hl : (zS v).length = s) (h : 2147483648 ≤ (zS v).getD (s - 1) 0) : B ^ (s - 1) * 2147483648 ≤ v := by
 obtain ⟨t, low, e, _, _, hv, _⟩ := zHF hs hl
 have : B ^ (s - 1) * 2147483648 ≤ B ^ (s - 1) * t := Nat.mul_le_mul_left _ (by omega)
 omega
/-- One zBm: the rest. -/
theorem quo_step {W v s j N : Nat} (hv0 : 0 < v) (hv : v < B ^ s) (hW : W < v * B ^ (j + 1)) (hN : j + (s + 1) ≤ N) :
 zB5 N W = zB5 j W ++ (zB5 (s + 1) (W / B ^ j) ++ zB5 (N - (j + (s + 1))) (W / B ^ j / B ^ (s + 1))) ∧ ze (zB5 (s + 1) (W / B ^ j)) = W / B ^ j ∧ W / B ^ j < 4294967296 * v ∧
  ∃ W', zB5 j W ++ (zB5 (s + 1) (W / B ^ j % v) ++ zB5 (N - (j + (s + 1))) (W / B ^ j / B ^ (s + 1))) = zB5 N W' ∧ W' < v * B ^ j ∧ W' + B ^ j * (v * (W / B ^ j / v)) = W := by
 have hP := bpos j
 have h1 : W / B ^ j < 4294967296 * v := by
  refine Nat.div_lt_of_lt_mul ?_
  have : v * B ^ (j + 1) = B ^ j * (4294967296 * v) := by rw [Nat.pow_succ]; unfold B; ac_rfl
  rw [← this]; exact hW
 have h2 : W / B ^ j < B ^ (s + 1) := by
  have : 4294967296 * v ≤ 4294967296 * B ^ s := Nat.mul_le_mul_left _ (by omega)
  rw [Nat.pow_succ, Nat.mul_comm (B ^ s)]
  exact Nat.lt_of_lt_of_le h1 this
 have h3 : W / B ^ j / B ^ (s + 1) = 0 := Nat.div_eq_of_lt h2
 have hr : W / B ^ j % v < v := Nat.mod_lt _ hv0
 have hvs : v < B ^ (s + 1) := Nat.lt_of_lt_of_le hv (Nat.pow_le_pow_right (by decide) (by omega))
 refine ⟨?_, zIb _ _ h2, h1, W % B ^ j + B ^ j * (W / B ^ j % v), ?_, ?_, ?_⟩
 ·rw [← zFv, ← zFv]
  congr 1; omega
 ·have e1 : (W % B ^ j + B ^ j * (W / B ^ j % v)) / B ^ j = W / B ^ j % v := by
   rw [Nat.add_mul_div_left _ _ hP, Nat.div_eq_of_lt (Nat.mod_lt _ hP), Nat.zero_add]
  have e2 : (W % B ^ j + B ^ j * (W / B ^ j % v)) % B ^ j = W % B ^ j := by
   rw [Nat.add_mul_mod_self_left, Nat.mod_mod]
  rw [show N = j + ((s + 1) + (N - (j + (s + 1)))) by omega, zFv j, zFv (s + 1), e1, h3, zOw e2.symm]
  rw [show j + (s + 1 + (N - (j + (s + 1)))) - (j + (s + 1)) = N - (j + (s + 1)) by omega, Nat.div_eq_of_lt (Nat.lt_trans hr hvs)]
 ·have h5 : B ^ j * (W / B ^ j % v + 1) ≤ B ^ j * v := Nat.mul_le_mul_left _ hr
  have h6 := Nat.mod_lt W hP
  rw [Nat.mul_add] at h5
  rw [Nat.mul_comm v]
  omega
 ·have a := Nat.div_add_mod W (B ^ j)
  have b := Nat.div_add_mod (W / B ^ j) v
  have c : B ^ j * (v * (W / B ^ j / v)) + B ^ j * (W / B ^ j % v) = B ^ j * (W / B ^ j) := by rw [← Nat.mul_add, b]
  omega
theorem quo_end {n m k W Q : Nat} (hm : 0 < m) (h : Q * (m * 2 ^ k) + W = n * 2 ^ k) (hW : W < m * 2 ^ k) : Q = n / m ∧ W = n % m * 2 ^ k := by
 have hk : 0 < 2 ^ k := Nat.pow_pos (by decide)
 have h0 : 0 < m * 2 ^ k := Nat.mul_pos hm hk
 have e1 : n * 2 ^ k / (m * 2 ^ k) = n / m := Nat.mul_div_mul_right _ _ hk
 have e2 : n * 2 ^ k % (m * 2 ^ k) = n % m * 2 ^ k := Nat.mul_mod_mul_right ..
 rw [← h] at e1 e2
 rw [Nat.add_comm, Nat.add_mul_div_right _ _ h0, Nat.div_eq_of_lt hW, Nat.zero_add] at e1
 rw [Nat.add_comm, Nat.add_mul_mod_self_right, Nat.mod_eq_of_lt hW] at e2
 exact ⟨e1, e2⟩
/-- A limb shifted back by k bits. -/
theorem zQn {d e k : Nat} (hd : d < 4294967296) (hk : k ≤ 31) : d / 2 ^ k ||| e * 2 ^ (32 - k) % 4294967296 = d / 2 ^ k + e % 2 ^ k * 2 ^ (32 - k) := by
 have hp : 0 < 2 ^ (32 - k) := Nat.pow_pos (by decide)
 have e1 : (4294967296 : Nat) = 2 ^ k * 2 ^ (32 - k) := by rw [← Nat.pow_add, show k + (32 - k) = 32 by omega]
 have e2 : e * 2 ^ (32 - k) % 4294967296 = e % 2 ^ k * 2 ^ (32 - k) := by
  rw [e1]; exact Nat.mul_mod_mul_right ..
 have h1 : d / 2 ^ k < 2 ^ (32 - k) := by
  refine Nat.div_lt_of_lt_mul ?_
  rw [← e1]; exact hd
 rw [e2]
 have := Nat.two_pow_add_eq_or_of_lt h1 (e % 2 ^ k)
 rw [Nat.or_comm, Nat.mul_comm (e % 2 ^ k), ← this, Nat.add_comm]
theorem back_lim {d e k : Nat} (hd : d < 4294967296) (hk : k ≤ 31) : d / 2 ^ k + e % 2 ^ k * 2 ^ (32 - k) < 4294967296 := by
 have e1 : (4294967296 : Nat) = 2 ^ k * 2 ^ (32 - k) := by rw [← Nat.pow_add, show k + (32 - k) = 32 by omega]
 have h1 : d / 2 ^ k < 2 ^ (32 - k) := by
  refine Nat.div_lt_of_lt_mul ?_
  rw [← e1]; exact hd
 have h2 : (e % 2 ^ k + 1) * 2 ^ (32 - k) ≤ 2 ^ k * 2 ^ (32 - k) := Nat.mul_le_mul_right _ (Nat.mod_lt _ (Nat.pow_pos (by decide)))
 rw [Nat.add_mul, ← e1] at h2
 omega
theorem back_val {out r : List Int} {i k d e : Nat} (hk : k ≤ 31) (hl : out.length = i) (hd : r.getD i 0 = (d : Int)) {d0 : Nat} (h : ze out * 2 ^ k + d0 = ze (r.take i) + (d % 2 ^ k) * B ^ i) :
 ze (out ++ [((d / 2 ^ k + e % 2 ^ k * 2 ^ (32 - k) : Nat) : Int)]) * 2 ^ k + d0 = ze (r.take (i + 1)) + (e % 2 ^ k) * B ^ (i + 1) := by
 rw [zD6, hl, Int.toNat_natCast, zx, hd, Int.toNat_natCast, Nat.pow_succ]
 have e1 : (4294967296 : Nat) = 2 ^ (32 - k) * 2 ^ k := by rw [← Nat.pow_add, show 32 - k + k = 32 by omega]
 have e2 := Nat.div_add_mod d (2 ^ k)
 have e3 : B ^ i * (d / 2 ^ k + e % 2 ^ k * 2 ^ (32 - k)) * 2 ^ k = B ^ i * (2 ^ k * (d / 2 ^ k)) + e % 2 ^ k * (B ^ i * B) := by
  rw [show B = 2 ^ (32 - k) * 2 ^ k from e1]
  generalize (2 ^ (32 - k) * 2 ^ k) ^ i = p
  rw [Nat.mul_add, Nat.add_mul]
  congr 1 <;> ac_rfl
 have e4 : B ^ i * (2 ^ k * (d / 2 ^ k)) + (d % 2 ^ k) * B ^ i = B ^ i * d := by
  rw [Nat.mul_comm (d % 2 ^ k), ← Nat.mul_add, e2]
 rw [Nat.add_mul, e3]
 omega
theorem zFi {a b k : Nat} (h : a < b) (hb : (zS b).length ≤ k) : (zS a).length ≤ k := by
 have h1 := zAt (zAR b)
 rw [z6] at h1
 have := zAe (Nat.lt_trans h h1)
 omega
theorem zFT {a b k : Nat} (h : a ≤ b) (hb : (zS b).length ≤ k) : (zS a).length ≤ k := by
 rcases Nat.lt_or_ge a b with q | q
 ·exact zFi q hb
 ·have : a = b := by omega
  subst this; exact hb
theorem zG1 : zS 1 = [1] := by
 rw [zG2 (by decide)]
 have : 1 / B = 0 := by decide
 rw [this, zBq]; rfl
theorem zRM {n : Nat} : n = 1 ↔ (zS n).length = 1 ∧ (zS n).getD 0 0 = 1 := by
 constructor
 ·rintro rfl; rw [zG1]; exact ⟨rfl, rfl⟩
 ·rintro ⟨h1, h2⟩
  have h3 := zx (zS n) 0
  rw [List.take_of_length_le (by omega), z6, h2] at h3
  simpa [ze] using h3
/-- A row of which k elements on each side have changed places. -/
def zGj (l : List (List UInt8)) (k : Nat) : List (List UInt8) := (List.range l.length).map fun i => if i < k ∨ l.length - k ≤ i then l.getD (l.length - 1 - i) [] else l.getD i []
theorem zDp (l : List (List UInt8)) (k : Nat) : (zGj l k).length = l.length := by unfold zGj; simp
theorem zHa (l : List (List UInt8)) (k i : Nat) (hi : i < l.length) : (zGj l k).getD i [] = if i < k ∨ l.length - k ≤ i then l.getD (l.length - 1 - i) [] else l.getD i [] := by
 unfold zGj
 simp only [List.getD, List.getElem?_map, List.getElem?_range hi, Option.map_some, Option.getD_some]
theorem zKM {l m : List (List UInt8)} (h : l.length = m.length) (he : ∀ i, i < l.length → l.getD i [] = m.getD i []) : l = m := by
 apply List.ext_getElem h
 intro i h1 h2
 have := he i h1
 rw [zDj [] h1, zDj [] h2] at this
 exact this
theorem zRc (l : List (List UInt8)) : zGj l 0 = l := by
 refine zKM (zDp l 0) (fun i hi => ?_)
 rw [zDp] at hi
 rw [zHa l 0 i hi, if_neg (by omega)]
theorem zRa (l : List (List UInt8)) {k : Nat} (h : l.length ≤ 2 * k + 1) : zGj l k = l.reverse := by
 refine zKM (by rw [zDp, List.length_reverse]) (fun i hi => ?_)
 rw [zDp] at hi
 have hr : l.reverse.getD i [] = l.getD (l.length - 1 - i) [] := by
  simp only [List.getD]
  rw [List.getElem?_reverse hi]
 rw [zHa l k i hi, hr]
 split
 ·rfl
 ·congr 1; omega
theorem zRb (l : List (List UInt8)) {k : Nat} (h : k + 1 + k < l.length) : ((zGj l k).set k ((zGj l k).getD (l.length - 1 - k) [])).set (l.length - 1 - k) ((zGj l k).getD k []) = zGj l (k + 1) := by
 refine zKM (by simp [zDp]) (fun i hi => ?_)
 simp only [List.length_set, zDp] at hi
 rw [zHa l (k + 1) i hi, zHa l k (l.length - 1 - k) (by omega), if_neg (by omega), zHa l k k (by omega), if_neg (by omega)]
 simp only [List.getD]
 by_cases h1 : i = l.length - 1 - k
 ·subst h1
  rw [List.getElem?_set_self (by simp [zDp]; omega), if_pos (by omega)]
  simp only [Option.getD_some]
  congr 2; omega
 ·rw [List.getElem?_set_ne (Ne.symm h1)]
  by_cases h2 : i = k
  ·subst h2
   rw [List.getElem?_set_self (by rw [zDp]; omega), if_pos (by omega)]
   simp only [Option.getD_some]
  ·rw [List.getElem?_set_ne (Ne.symm h2)]
   have := zHa l k i hi
   simp only [List.getD] at this
   rw [this]
   by_cases h3 : i < k ∨ l.length - k ≤ i
   ·rw [if_pos h3, if_pos (by omega)]
   ·rw [if_neg h3, if_neg (by omega)]
end Go.Ax.Bg
namespace Go.Ax.Bg
open Go.Ax.Tb (zBm)
def dg (c : UInt8) : Bool := decide (48 ≤ c.toNat ∧ c.toNat < 58)
theorem dg_iff {c : UInt8} : dg c = true ↔ zBm c := by
 unfold dg zBm
 simp only [decide_eq_true_eq]
 constructor <;> intro h <;> exact ⟨by omega, by omega⟩
def trR (s : List UInt8) : List UInt8 := (s.reverse.dropWhile dg).reverse
def trL (s : List UInt8) : List UInt8 := s.dropWhile dg
theorem zGx {l m : List UInt8} (h : l.all dg = true) : (l ++ m).dropWhile dg = m.dropWhile dg := by
 induction l with
 | nil => rfl
 | cons x r ih =>
  simp only [List.all_cons, Bool.and_eq_true] at h
  rw [List.cons_append, List.dropWhile_cons_of_pos h.1, ih h.2]
theorem trR_of {s : List UInt8} {k : Nat} (hk : k ≤ s.length) (h : (s.drop k).all dg = true) (h2 : k = 0 ∨ dg (s.getD (k - 1) 0) = false) : trR s = s.take k := by
 unfold trR
 conv => lhs; rw [← List.take_append_drop k s]
 rw [List.reverse_append, zGx (by rw [List.all_reverse]; exact h)]
 rcases h2 with h2 | h2
 ·subst h2; rfl
 ·rcases Nat.eq_zero_or_pos k with q | q
  ·subst q; rfl
  ·have e : s.take k = s.take (k - 1) ++ [s.getD (k - 1) 0] := by
    have := zBN s 0 (k - 1) (by omega)
    rwa [show k - 1 + 1 = k by omega] at this
   rw [e, List.reverse_append, List.reverse_singleton, List.singleton_append, List.dropWhile_cons_of_neg (by rw [h2]; decide)]
   simp
theorem trL_of {s : List UInt8} {k : Nat} (h : (s.take k).all dg = true) (h2 : s.length ≤ k ∨ dg (s.getD k 0) = false) : trL s = s.drop k := by
 unfold trL
 conv => lhs; rw [← List.take_append_drop k s]
 rw [zGx h]
 rcases h2 with h2 | h2
 ·rw [List.drop_of_length_le h2]; rfl
 ·rcases Nat.lt_or_ge k s.length with q | q
  ·rw [zCl s 0 k q, List.dropWhile_cons_of_neg (by rw [h2]; decide)]
  ·rw [List.drop_of_length_le q]; rfl
theorem zOs {l : List UInt8} : l.dropWhile dg = [] ↔ l.all dg = true := by
 induction l with
 | nil => simp
 | cons x r ih =>
  cases h : dg x with
  | true => rw [List.dropWhile_cons_of_pos h, ih]; simp [h]
  | false => rw [List.dropWhile_cons_of_neg (by rw [h]; decide)]; simp [h]
theorem dw_head {l : List UInt8} {x : UInt8} {r : List UInt8} (h : l.dropWhile dg = x :: r) : dg x = false := by
 induction l with
 | nil => cases h
 | cons y q ih =>
  cases hy : dg y with
  | true => rw [List.dropWhile_cons_of_pos hy] at h; exact ih h
  | false =>
   rw [List.dropWhile_cons_of_neg (by rw [hy]; decide)] at h
   cases h; exact hy
theorem trR_nil {s : List UInt8} : trL (trR s) = [] ↔ s.all dg = true := by
 unfold trL trR
 rw [zOs, List.all_reverse]
 constructor
 ·intro h
  cases hq : s.reverse.dropWhile dg with
  | nil => rw [zOs, List.all_reverse] at hq; exact hq
  | cons x r =>
   rw [hq] at h
   have := dw_head hq
   simp [this] at h
 ·intro h
  have : s.reverse.dropWhile dg = [] := by rw [zOs, List.all_reverse]; exact h
  rw [this]; rfl
/-- Up to nine digits as a number. -/
theorem parse_go {l : List UInt8} (hd : ∀ c ∈ l, zBm c) : ∀ (a : Nat), zA7 a l ≤ 4294967295 → Lib.parseUintM 4294967295 a l = .ok (zA7 a l) := by
 induction l with
 | nil => intro a _; rfl
 | cons c r ih =>
  intro a h
  have hc := hd c (by simp)
  unfold zBm at hc
  rw [zDW] at h ⊢
  have h1 : a * 10 + (c.toNat - 48) ≤ 4294967295 := by
   refine Nat.le_trans ?_ h
   rw [zGu r]
   have : (a * 10 + (c.toNat - 48)) * 1 ≤ (a * 10 + (c.toNat - 48)) * 10 ^ r.length := Nat.mul_le_mul_left _ (Nat.one_le_pow _ _ (by decide))
   omega
  have i := ih (fun x hx => hd x (by simp [hx])) _ h
  unfold Lib.parseUintM
  rw [if_pos (by omega), if_neg (by omega), if_neg (by omega)]
  exact i
theorem zFB {l : List UInt8} (h0 : l ≠ []) (hd : ∀ c ∈ l, zBm c) (h9 : l.length ≤ 9) : Lib.parseUintB 32 l = .ok (zA7 0 l) ∧ zA7 0 l < 1000000000 := by
 have hlt := zJw hd
 have hp : 10 ^ l.length ≤ 10 ^ 9 := Nat.pow_le_pow_right (by decide) h9
 have e9 : (10 : Nat) ^ 9 = 1000000000 := by decide
 rw [e9] at hp
 unfold Lib.parseUintB
 rw [if_neg h0]
 have e32 : (2 : Nat) ^ 32 - 1 = 4294967295 := by decide
 rw [e32]
 exact ⟨parse_go hd 0 (by omega), by omega⟩
theorem zLl : ∀ (ls : List (List UInt8)), Lib.join ls [] = ls.flatten
 | [] => rfl
 | x :: r => by
  rw [Lib.join_cons, List.flatten_cons]
  congr 1
  unfold Lib.joinTail
  congr 1
  simp
end Go.Ax.Bg
namespace Go.Ax.Idx
def fct : Nat → Int
 | 0 => 1
 | n + 1 => (n + 1) * fct n
/-- The place of the first element with a property, or -1. -/
def idxF {α : Type} (p : α → Bool) : List α → Int
 | [] => -1
 | x :: r => if p x then 0 else if idxF p r < 0 then -1 else idxF p r + 1
theorem idxF_neg {α : Type} (p : α → Bool) (l : List α) (h : idxF p l < 0) : idxF p l = -1 := by
 cases l with
 | nil => rfl
 | cons x r =>
  simp only [idxF] at h ⊢
  by_cases h1 : p x = true
  ·simp [h1] at h
  ·by_cases h2 : idxF p r < 0
   ·simp [h1, h2]
   ·simp only [h1, h2, if_false, Bool.false_eq_true] at h
    omega
theorem idxF_take {α : Type} (p : α → Bool) (l : List α) (k : Nat) (h : (l.take k).any p = false) (hk : k ≤ l.length) : idxF p l = if idxF p (l.drop k) < 0 then -1 else idxF p (l.drop k) + k := by
 induction k generalizing l with
 | zero =>
  simp only [List.drop_zero]
  split
  ·exact idxF_neg p l (by assumption)
  ·omega
 | succ k ih => cases l with
  | nil => simp at hk
  | cons x r =>
   simp only [List.take_succ_cons, List.any_cons, Bool.or_eq_false_iff] at h
   have := ih r h.2 (by simpa using hk)
   simp only [idxF, h.1, List.drop_succ_cons, Bool.false_eq_true, if_false]
   rw [this]
   split <;> split <;> omega
theorem zIe {α : Type} (p : α → Bool) (l : List α) : decide (0 ≤ idxF p l) = l.any p := by
 induction l with
 | nil => rfl
 | cons x r ih =>
  simp only [idxF, List.any_cons]
  by_cases h1 : p x = true
  ·simp [h1]
  ·simp only [Bool.not_eq_true] at h1
   simp only [h1, Bool.false_eq_true, if_false, Bool.false_or]
   rw [← ih]
   by_cases h2 : idxF p r < 0
   ·rw [if_pos h2]; simp; omega
   ·rw [if_neg h2]; congr 1; simp; omega
/-- How often each kind occurs. -/
def cnt (m : List Int) : List Int := (List.range 7).map fun (i : Nat) => ((m.count (i : Int) : Nat) : Int)
theorem getD_set {l : List Int} {i j : Nat} {v : Int} (hi : i < l.length) : (l.set i v).getD j 0 = if j = i then v else l.getD j 0 := by
 by_cases h : j = i
 ·subst h; simp [List.getD, hi]
 ·simp only [List.getD, h, if_false]
  rw [List.getElem?_set_ne (fun e => h e.symm)]
/-- One less of kind i. -/
def less (l : List Int) (i : Nat) : List Int := l.set i (l.getD i 0 - 1)
theorem zCA {l : List Int} {i : Nat} (hi : i < l.length) : (less l i).set i ((less l i).getD i 0 + 1) = l := by
 unfold less
 rw [getD_set hi, if_pos rfl, List.set_set]
 have : l.getD i 0 - 1 + 1 = l[i] := by rw [zDj 0 hi]; omega
 rw [this, List.set_getElem_self]
end Go.Ax.Idx
namespace Go.Ax.Cd
open Go.Ax.Idx
def eqp (v y : Int) : Bool := decide (v = y)
end Go.Ax.Cd
namespace Go.Ax.Cd
open Go.Ax.Idx
end Go.Ax.Cd
namespace Go.Ax.Cd
open Go.Ax.Idx
end Go.Ax.Cd
namespace Go.Ax.Bg
open Go.Ax.Tb (zBm)
def zFc (s : List UInt8) : Bool := decide (s ≠ []) && s.all dg && (decide (s.getD 0 0 ≠ 48) || decide (s.length = 1))
theorem zDx {s : List UInt8} : zFc s = true ↔ zHi s := by
 unfold zFc zHi
 simp only [Bool.and_eq_true, Bool.or_eq_true, decide_eq_true_eq, List.all_eq_true, dg_iff]
 constructor
 ·rintro ⟨⟨h1, h2⟩, h3⟩; exact ⟨h1, h2, h3⟩
 ·rintro ⟨h1, h2, h3⟩; exact ⟨⟨h1, h2⟩, h3⟩
theorem zKA {s : List UInt8} (h : zHi s) {k : Nat} (hl : s.length ≤ k) : (zS (zA7 0 s)).length ≤ k := by
 refine zAe (Nat.lt_of_lt_of_le (zJw h.2.1) ?_)
 exact Nat.le_trans (Nat.pow_le_pow_right (by decide) hl) (Nat.pow_le_pow_left (by decide) k)
/-- Texts that are not too long spell numbers below this one. -/
def powT : Nat → Nat
 | 0 => 1
 | k + 1 => 10 * powT k
theorem zQN : ∀ k, powT k = 10 ^ k
 | 0 => rfl
 | k + 1 => by rw [powT, zQN k, Nat.pow_succ, Nat.mul_comm]
def TB : Nat := powT 2000
theorem TB_eq : TB = 10 ^ 2000 := zQN 2000
theorem TB_len {n : Nat} (h : n < TB) : (Lib.decDigits n).length ≤ 2000 := by
 rw [TB_eq] at h
 revert h
 generalize hk : 2000 = k
 intro h
 exact zDE (by omega) h
theorem lt_big {n k : Nat} (h : n < 10 ^ k) (hk : k ≤ 2000) : n < TB := by
 rw [TB_eq]
 revert hk
 generalize 2000 = j
 intro hk
 exact Nat.lt_of_lt_of_le h (Nat.pow_le_pow_right (by decide) hk)
theorem zGQ {m n j k : Nat} (hm : m < 10 ^ j) (hn : n < 10 ^ k) : m * n < 10 ^ (j + k) := by
 rw [Nat.pow_add]; exact Nat.mul_lt_mul'' hm hn
theorem add_big {m n k : Nat} (hm : m < 10 ^ k) (hn : n < 10 ^ k) : m + n < 10 ^ (k + 1) := by
 rw [Nat.pow_succ]; omega
end Go.Ax.Bg
namespace Go.Ax.Rt
open Go.Ax.Bg
/-- The quotient of integers, its parts. -/
theorem zKN (n : Int) (d : Nat) (hd : d ≠ 0) : (Rat.divInt n d).num.natAbs = n.natAbs / Nat.gcd n.natAbs d ∧ (Rat.divInt n d).den = d / Nat.gcd n.natAbs d ∧ ((Rat.divInt n d).num < 0 ↔ n < 0) := by
 have e : Rat.divInt n d = Rat.normalize n d hd := by rw [Rat.divInt_ofNat, ← Rat.normalize_eq_mkRat]
 have hg : 0 < Nat.gcd n.natAbs d := Nat.gcd_pos_of_pos_right _ (by omega)
 have hdv : (Nat.gcd n.natAbs d : Int) ∣ n := by
  rw [Int.ofNat_dvd_left]; exact Nat.gcd_dvd_left _ _
 rw [e, Rat.num_normalize, Rat.den_normalize]
 obtain ⟨q, hq⟩ := hdv
 generalize Nat.gcd n.natAbs d = g at *
 refine ⟨?_, Z, ?_⟩
 ·rw [hq, Int.mul_ediv_cancel_left _ (by omega), Int.natAbs_mul, Int.natAbs_natCast, Nat.mul_div_cancel_left _ hg]
 ·rw [hq, Int.mul_ediv_cancel_left _ (by omega)]
  constructor
  ·intro h; exact Int.mul_neg_of_pos_of_neg (by omega) h
  ·intro h
   rcases Int.lt_or_le q 0 with z | z
   ·exact z
   ·exact absurd h (Int.not_lt.2 (Int.mul_nonneg (by omega) z))
theorem zGJ (n d : Int) (hd : d ≠ 0) : (Rat.divInt n d).num.natAbs = n.natAbs / Nat.gcd n.natAbs d.natAbs ∧ (Rat.divInt n d).den = d.natAbs / Nat.gcd n.natAbs d.natAbs ∧ ((Rat.divInt n d).num < 0 ↔ n ≠ 0 ∧ ((n < 0 ∧ ¬ d < 0) ∨ (¬ n < 0 ∧ d < 0))) := by
 rcases Int.lt_or_le d 0 with h | h
 ·obtain ⟨m, rfl⟩ : ∃ m : Nat, d = -(m : Int) := ⟨d.natAbs, by omega⟩
  have e : Rat.divInt n (-(m : Int)) = Rat.divInt (-n) m := Rat.divInt_neg' n m
  obtain ⟨h1, h2, h3⟩ := zKN (-n) m (by omega)
  rw [e]
  rw [Int.natAbs_neg] at h1 h2
  rw [Int.natAbs_neg, Int.natAbs_natCast]
  exact ⟨h1, h2, h3.trans (by omega)⟩
 ·obtain ⟨m, rfl⟩ : ∃ m : Nat, d = (m : Int) := ⟨d.natAbs, by omega⟩
  obtain ⟨h1, h2, h3⟩ := zKN n m (by omega)
  rw [Int.natAbs_natCast]
  exact ⟨h1, h2, h3.trans (by omega)⟩
theorem zKC (p q : Rat) : Rat.divInt (p.num * q.den + q.num * p.den) ((p.den * q.den : Nat) : Int) = p + q := by
 rw [Rat.add_def', Rat.divInt_ofNat]
theorem zKU (p q : Rat) : Rat.divInt (p.num * q.num) ((p.den * q.den : Nat) : Int) = p * q := by
 rw [Rat.mul_def', Rat.divInt_ofNat]
theorem zNN (p q : Rat) (hq : q ≠ 0) : Rat.divInt (p.num * q.den) (q.num * p.den) = p / q := by
 have hn : q.num ≠ 0 := fun h => hq (Rat.num_eq_zero.1 h)
 have hp : (p.den : Int) ≠ 0 := by have := p.den_nz; omega
 have hqd : (q.den : Int) ≠ 0 := by have := q.den_nz; omega
 have h1 : Rat.divInt (p.num * q.den) (q.num * p.den) * q = p := by
  conv => lhs; rhs; rw [← Rat.num_divInt_den q]
  rw [Rat.divInt_mul_divInt]
  conv => rhs; rw [← Rat.num_divInt_den p]
  rw [Rat.divInt_eq_divInt_iff (Int.mul_ne_zero (Int.mul_ne_zero hn hp) hqd) hp]
  ac_rfl
 rw [← h1, Rat.mul_div_cancel hq]
 rw [h1]
def sgn (x : Int) : Int := if x < 0 then -1 else if x = 0 then 0 else 1
def zC7 (p q : Rat) : Int := if p < q then -1 else if p = q then 0 else 1
theorem sgn_cmp (p q : Rat) : sgn (p.num * q.den - q.num * p.den) = zC7 p q := by
 unfold sgn zC7
 have h1 : p < q ↔ p.num * q.den - q.num * p.den < 0 := by rw [Rat.lt_iff]; omega
 have h2 : p = q ↔ p.num * q.den - q.num * p.den = 0 := by rw [Rat.eq_iff_mul_eq_mul]; omega
 simp only [h1, h2]
def zEo (b : Bool) (n : Nat) : Int := if b then -(n : Int) else n
theorem zFE (b : Bool) (n : Nat) : (zEo b n).natAbs = n := by unfold zEo; split <;> omega
theorem zKq (b : Bool) (n : Nat) : decide (zEo b n < 0) = (b && decide (n ≠ 0)) := by
 unfold zEo
 cases b
 ·simp <;> try omega
 ·simp only [if_true, Bool.true_and]
  rw [decide_eq_decide]; omega
theorem zRi (x : Int) : zEo (decide (x < 0)) x.natAbs = x := by
 unfold zEo
 by_cases h : x < 0
 ·simp [h]; omega
 ·simp [h]; omega
end Go.Ax.Rt
namespace Go.Ax.Rt
open Go.Ax.Bg
open Go.Ax.Tb (zBm zB4 zCk zDD zPy zPx zEm)
def zDb : List UInt8 → Bool
 | c :: _ => decide (c = 45)
 | [] => false
def zEZ (s : List UInt8) : List UInt8 := if zDb s then s.drop 1 else s
def zEV (s : List UInt8) : List UInt8 := (zDD 47 (zEZ s)).1
def zEU (s : List UInt8) : List UInt8 := (zDD 47 (zEZ s)).2.1
def zGh (s : List UInt8) : Bool := (zDD 47 (zEZ s)).2.2
/-- rat.Check -/
def zCf (s : List UInt8) : Int :=
 if zFc (zEV s) = false ∨ (zGh s = true ∧ zFc (zEU s) = false) ∨ (zDb s = true ∧ zEV s = [48]) then 5
 else if 2000 < (zEV s).length ∨ 2000 < (zEU s).length then 2
 else if zGh s = true ∧ (zEU s = [48] ∨ zEU s = [49] ∨ Nat.gcd (zA7 0 (zEV s)) (zA7 0 (zEU s)) ≠ 1) then 3 else 0
def zKI (s : List UInt8) : Nat := if zGh s then zA7 0 (zEU s) else 1
def zv (s : List UInt8) : Rat := Rat.divInt (zEo (zDb s) (zA7 0 (zEV s))) (zKI s : Nat)
def zt (q : Rat) : List UInt8 := (if q.num < 0 then [45] else []) ++ (Lib.decDigits q.num.natAbs ++ (if q.den = 1 then [] else 47 :: Lib.decDigits q.den))
def zBp (q : Rat) : Bool := decide ((Lib.decDigits q.num.natAbs).length ≤ 2000) && decide ((Lib.decDigits q.den).length ≤ 2000)
def zH0 (q : Rat) : List UInt8 × Int := if zBp q then (zt q, 0) else ([], 2)
theorem zLW (b : UInt8) : ∀ l : List UInt8, l = (zDD b l).1 ++ (if (zDD b l).2.2 then b :: (zDD b l).2.1 else [])
 | [] => rfl
 | c :: r => by
  rw [zDD]
  split
  ·rename_i h; subst h; simp
  ·have := zLW b r
   simp only [List.cons_append, List.cons.injEq, true_and]
   exact this
structure Parts (s : List UInt8) (q : Rat) : Prop where
 num : q.num = zEo (zDb s) (zA7 0 (zEV s))
 den : q.den = zKI s
 cn : zHi (zEV s)
 cd : zGh s = true → zHi (zEU s) ∧ zA7 0 (zEU s) ≠ 0 ∧ zA7 0 (zEU s) ≠ 1
 ln : (zEV s).length ≤ 2000
 ld : (zEU s).length ≤ 2000
 ng : zDb s = true → zA7 0 (zEV s) ≠ 0
theorem zMm {s : List UInt8} {n : Nat} (hc : zHi s) (hn : n < 10) (h : zA7 0 s = n) : s = [UInt8.ofNat (48 + n)] := by
 rw [← zFq hc, h, Lib.decDigits_one hn]
theorem zHM {s : List UInt8} (h : zGh s = false) : zKI s = 1 := by unfold zKI; rw [h]; rfl
theorem zFt {s : List UInt8} (h : zGh s = true) : zKI s = zA7 0 (zEU s) := by unfold zKI; rw [h]; rfl
theorem zF5 {s : List UInt8} (h : zCf s = 0) : Parts s (zv s) := by
 unfold zCf at h
 split at h
 ·omega
 split at h
 ·omega
 split at h
 ·omega
 rename_i h1 h2 h3
 simp only [not_or, not_and, Bool.not_eq_false] at h1 h2 h3
 obtain ⟨a1, a2, a3⟩ := h1
 have cn := zDx.1 a1
 have cd : zGh s = true → zHi (zEU s) ∧ zA7 0 (zEU s) ≠ 0 ∧ zA7 0 (zEU s) ≠ 1 := fun hd => by
  have c := zDx.1 (a2 hd)
  exact ⟨c, fun e => (h3 hd).1 (zMm c (by decide) e), fun e => (h3 hd).2.1 (zMm c (by decide) e)⟩
 have hd0 : zKI s ≠ 0 := by
  cases e : zGh s
  ·rw [zHM e]; decide
  ·rw [zFt e]; exact (cd e).2.1
 have hg : Nat.gcd (zA7 0 (zEV s)) (zKI s) = 1 := by
  cases e : zGh s
  ·rw [zHM e]; exact Nat.gcd_one_right _
  ·rw [zFt e]; exact Classical.not_not.1 (h3 e).2.2
 obtain ⟨e1, e2, e3⟩ := zKN (zEo (zDb s) (zA7 0 (zEV s))) (zKI s) hd0
 rw [zFE, hg, Nat.div_one] at e1
 rw [zFE, hg, Nat.div_one] at e2
 refine ⟨?_, e2, cn, cd, by omega, by omega, fun hn e => a3 hn (zMm cn (by decide) e)⟩
 show (Rat.divInt _ _).num = _
 have := zFE (zDb s) (zA7 0 (zEV s))
 omega
theorem neg_body {s : List UInt8} : s = (if zDb s then [45] else []) ++ zEZ s := by
 unfold zEZ
 cases s with
 | nil => rfl
 | cons c r =>
  unfold zDb
  by_cases h : c = 45
  ·subst h; rfl
  ·simp [h]
theorem Parts.text {s : List UInt8} {q : Rat} (h : Parts s q) : zt q = s := by
 conv => rhs; rw [neg_body (s := s), zLW 47 (zEZ s)]
 change zt q = _ ++ (zEV s ++ if zGh s then 47 :: zEU s else [])
 unfold zt
 rw [h.num, h.den, zFE, zFq h.cn]
 congr 1
 ·have := zKq (zDb s) (zA7 0 (zEV s))
  cases e : zDb s
  ·rw [e] at this; simp at this
   rw [if_neg (by simpa [e] using this)]; rfl
  ·rw [e] at this
   have hn := h.ng e
   simp [hn] at this
   rw [if_pos this]; rfl
 ·congr 1
  cases e : zGh s
  ·rw [zHM e]; rfl
  ·obtain ⟨c, c0, c1⟩ := h.cd e
   rw [zFt e, if_neg c1, zFq c]; rfl
theorem zNi (q : Rat) : zDb (zt q) = decide (q.num < 0) ∧ zEZ (zt q) = Lib.decDigits q.num.natAbs ++ (if q.den = 1 then [] else 47 :: Lib.decDigits q.den) := by
 have hne := zCk q.num.natAbs
 have h45 := zEm q.num.natAbs 45 (by decide)
 unfold zEZ zt
 by_cases h : q.num < 0
 ·simp [h, zDb]
 ·have : zDb (Lib.decDigits q.num.natAbs ++ (if q.den = 1 then [] else 47 :: Lib.decDigits q.den)) = false := by
   cases e : Lib.decDigits q.num.natAbs with
   | nil => exact absurd e hne
   | cons c r =>
    rw [e] at h45
    have : c ≠ 45 := fun e => h45 (by simp [e])
    simp [zDb, this]
  simp [h, this]
theorem zKH (q : Rat) : zDD 47 (zEZ (zt q)) = (Lib.decDigits q.num.natAbs, (if q.den = 1 then [] else Lib.decDigits q.den), decide (q.den ≠ 1)) := by
 rw [(zNi q).2]
 by_cases h : q.den = 1
 ·rw [if_pos h, if_pos h, List.append_nil, zPy (zEm _ 47 (by decide))]
  simp [h]
 ·rw [if_neg h, if_neg h, zPx (zEm _ 47 (by decide))]
  simp [h]
theorem rat_of {q : Rat} (h : zBp q = true) : zCf (zt q) = 0 ∧ zv (zt q) = q := by
 have e1 : zEV (zt q) = Lib.decDigits q.num.natAbs := by unfold zEV; rw [zKH]
 have e2 : zEU (zt q) = if q.den = 1 then [] else Lib.decDigits q.den := by unfold zEU; rw [zKH]
 have e3 : zGh (zt q) = decide (q.den ≠ 1) := by unfold zGh; rw [zKH]
 have e4 := (zNi q).1
 unfold zBp at h
 rw [Bool.and_eq_true, decide_eq_true_eq, decide_eq_true_eq] at h
 constructor
 ·unfold zCf
  rw [e1, e2, e3, e4, zBh, zDx.2 (zEh _)]
  have g1 : ¬ (true = false ∨ (decide (q.den ≠ 1) = true ∧ zFc (if q.den = 1 then [] else Lib.decDigits q.den) = false) ∨ (decide (q.num < 0) = true ∧ Lib.decDigits q.num.natAbs = [48])) := by
   rintro (g | ⟨g1, g2⟩ | ⟨g1, g2⟩)
   ·cases g
   ·rw [decide_eq_true_eq] at g1
    rw [if_neg g1, zDx.2 (zEh _)] at g2
    cases g2
   ·rw [decide_eq_true_eq] at g1
    have : q.num.natAbs = 0 := zFe (by rw [g2, Lib.decDigits_one (by decide)]; rfl)
    omega
  have g2 : ¬ (2000 < (Lib.decDigits q.num.natAbs).length ∨ 2000 < (if q.den = 1 then [] else Lib.decDigits q.den : List UInt8).length) := by
   rintro (g | g)
   ·omega
   ·split at g
    ·simp at g
    ·omega
  have g3 : ¬ (decide (q.den ≠ 1) = true ∧ ((if q.den = 1 then [] else Lib.decDigits q.den) = [48] ∨ (if q.den = 1 then [] else Lib.decDigits q.den) = [49] ∨ Nat.gcd q.num.natAbs (zA7 0 (if q.den = 1 then [] else Lib.decDigits q.den)) ≠ 1)) := by
   rintro ⟨g, g3⟩
   rw [decide_eq_true_eq] at g
   rw [if_neg g] at g3
   rw [zBh] at g3
   rcases g3 with g3 | g3 | g3
   ·have : q.den = 0 := zFe (by rw [g3, Lib.decDigits_one (by decide)]; rfl)
    exact q.den_nz this
   ·exact g (zFe (by rw [g3, Lib.decDigits_one (by decide)]; rfl))
   ·exact g3 q.reduced
  rw [if_neg g1, if_neg g2, if_neg g3]
 ·unfold zv
  have e5 : zKI (zt q) = q.den := by
   unfold zKI
   rw [e3, e2]
   by_cases g : q.den = 1
   ·simp [g]
   ·simp [g, zBh]
  rw [e1, e4, e5, zBh, zRi]
  exact Rat.num_divInt_den q
/-- rat.CheckAll -/
def zDv : List (List UInt8) → Int
 | [] => 0
 | s :: r => if zCf s = 0 then zDv r else zCf s
theorem zCb : ∀ {l : List (List UInt8)}, zDv l = 0 → ∀ s ∈ l, zCf s = 0
 | [], _, s, h => by simp at h
 | a :: r, h, s, hs => by
  rw [zDv] at h
  split at h
  ·rename_i h1
   rcases List.mem_cons.1 hs with e | e
   ·rw [e]; exact h1
   ·exact zCb h s e
  ·contradiction
theorem zJu : ∀ {l : List (List UInt8)}, (∀ s ∈ l, zCf s = 0) → zDv l = 0
 | [], _ => rfl
 | a :: r, h => by
  rw [zDv, if_pos (h a (by simp))]
  exact zJu (fun s hs => h s (by simp [hs]))
/-- Sums, products and so on of two texts. -/
def zI0 (F : Rat → Rat → Rat) (a b : List UInt8) : List UInt8 × Int := if zDv [a, b] = 0 then zH0 (F (zv a) (zv b)) else ([], zDv [a, b])
def oneR (F : Rat → Rat) (a : List UInt8) : List UInt8 × Int := if zCf a = 0 then zH0 (F (zv a)) else ([], zCf a)
def divR (a b : List UInt8) : List UInt8 × Int := if zDv [a, b] = 0 then (if b = [48] then ([], 18) else zH0 (zv a / zv b)) else ([], zDv [a, b])
def zED (l : List Rat) : List (List UInt8) × Int := if l.all zBp then (l.map zt, 0) else ([], 2)
def zHD : Rat → List Rat → Rat × Int
 | acc, [] => (acc, 0)
 | acc, q :: r => if zBp (acc + q) then zHD (acc + q) r else (acc + q, 2)
def zHE (l : List (List UInt8)) : Rat × Int := if 256 < l.length then (0, 2) else if zDv l = 0 then zHD 0 (l.map zv) else (0, zDv l)
def posE (l : List (List UInt8)) : Int := if (zHE l).2 = 0 ∧ l.any zDb = true then 4 else (zHE l).2
def zEc (l : List (List UInt8)) : Int := if posE l = 0 then (if zC7 (zHE l).1 1 = 0 then 0 else 3) else posE l
def bestK (x : List Rat) : Nat → Nat
 | 0 => 0
 | k + 1 => if 0 < zC7 (x.getD k 0) (x.getD (bestK x k) 0) then k else bestK x k
def bestR (l : List (List UInt8)) : Int × Int := if 256 < l.length then (0, 2) else if l = [] then (0, 8) else if zDv l = 0 then ((bestK (l.map zv) l.length : Nat), 0) else (0, zDv l)
theorem zP6 {q : Rat} (h : zBp q = true) : (zS q.num.natAbs).length ≤ 2000 ∧ (zS q.den).length ≤ 2000 := by
 unfold zBp at h
 rw [Bool.and_eq_true, decide_eq_true_eq, decide_eq_true_eq] at h
 have key : ∀ (n m : Nat), (Lib.decDigits n).length ≤ m → (zS n).length ≤ m := fun n m hl => by
  refine zAe (Nat.lt_of_lt_of_le (zEr n) ?_)
  exact Nat.le_trans (Nat.pow_le_pow_right (by decide) hl) (Nat.pow_le_pow_left (by decide) m)
 exact ⟨key _ _ h.1, key _ _ h.2⟩
end Go.Ax.Rt
namespace Go.Ax.Rt
open Go.Ax.Bg
theorem Parts.fit {s : List UInt8} {q : Rat} (h : Parts s q) : zBp q = true := by
 unfold zBp
 rw [Bool.and_eq_true, decide_eq_true_eq, decide_eq_true_eq, h.num, h.den, zFE, zFq h.cn]
 refine ⟨h.ln, ?_⟩
 cases e : zGh s
 ·rw [zHM e, Lib.decDigits_one (by decide)]; decide
 ·rw [zFt e, zFq (h.cd e).1]; exact h.ld
/-- A text that spells q. -/
def IsQ (s : List UInt8) (q : Rat) : Prop := zCf s = 0 ∧ zv s = q
instance (s : List UInt8) (q : Rat) : Decidable (IsQ s q) := inferInstanceAs (Decidable (_ ∧ _))
theorem IsQ.self {s : List UInt8} (h : zCf s = 0) : IsQ s (zv s) := ⟨h, rfl⟩
theorem IsQ.text {s : List UInt8} {q : Rat} (h : IsQ s q) : zt q = s := by
 have := (zF5 h.1).text
 rwa [h.2] at this
theorem IsQ.fit {s : List UInt8} {q : Rat} (h : IsQ s q) : zBp q = true := by
 have := (zF5 h.1).fit
 rwa [h.2] at this
theorem zGM {q : Rat} (h : zBp q = true) : IsQ (zt q) q := rat_of h
theorem IsQ.out {s : List UInt8} {q : Rat} (h : IsQ s q) : zH0 q = (s, 0) := by
 unfold zH0
 rw [if_pos h.fit, h.text]
theorem IsQ.all2 {a b : List UInt8} {x y : Rat} (ha : IsQ a x) (hb : IsQ b y) : zDv [a, b] = 0 := by
 refine zJu (fun s hs => ?_)
 simp at hs
 rcases hs with rfl | rfl
 ·exact ha.1
 ·exact hb.1
theorem IsQ.two {a b : List UInt8} {x y : Rat} (F : Rat → Rat → Rat) (ha : IsQ a x) (hb : IsQ b y) : zI0 F a b = zH0 (F x y) := by
 unfold zI0
 rw [if_pos (ha.all2 hb), ha.2, hb.2]
theorem IsQ.one {a : List UInt8} {x : Rat} (F : Rat → Rat) (ha : IsQ a x) : oneR F a = zH0 (F x) := by
 unfold oneR
 rw [if_pos ha.1, ha.2]
/-- Numbers of at most so many digits. -/
def D (k : Nat) (q : Rat) : Prop := q.num.natAbs < 10 ^ k ∧ q.den < 10 ^ k
theorem D.mono {j k : Nat} {q : Rat} (h : D j q) (hk : j ≤ k) : D k q :=
 ⟨Nat.lt_of_lt_of_le h.1 (Nat.pow_le_pow_right (by decide) hk), Nat.lt_of_lt_of_le h.2 (Nat.pow_le_pow_right (by decide) hk)⟩
theorem D.fit {k : Nat} {q : Rat} (h : D k q) (hk : k ≤ 2000) : zBp q = true := by
 unfold zBp
 rw [Bool.and_eq_true, decide_eq_true_eq, decide_eq_true_eq]
 exact ⟨TB_len (lt_big h.1 hk), TB_len (lt_big h.2 hk)⟩
theorem IsQ.dig {s : List UInt8} {q : Rat} (h : IsQ s q) {k : Nat} (hk : s.length ≤ k) (h1 : 1 ≤ k) : D k q := by
 have ht := h.text
 have hl : (zt q).length ≤ k := by rw [ht]; exact hk
 unfold zt at hl
 rw [List.length_append, List.length_append] at hl
 refine ⟨Nat.lt_of_lt_of_le (zEr _) (Nat.pow_le_pow_right (by decide) (by omega)), ?_⟩
 by_cases hd : q.den = 1
 ·rw [hd]
  exact Nat.lt_of_lt_of_le (show 1 < 10 ^ 1 by decide) (Nat.pow_le_pow_right (by decide) h1)
 ·rw [if_neg hd, List.length_cons] at hl
  exact Nat.lt_of_lt_of_le (zEr _) (Nat.pow_le_pow_right (by decide) (by omega))
theorem zET {n d : Int} {k : Nat} (hd : d ≠ 0) (h1 : n.natAbs < 10 ^ k) (h2 : d.natAbs < 10 ^ k) : D k (Rat.divInt n d) := by
 obtain ⟨e1, e2, _⟩ := zGJ n d hd
 refine ⟨?_, ?_⟩
 ·rw [e1]; exact Nat.lt_of_le_of_lt (Nat.div_le_self _ _) h1
 ·rw [e2]; exact Nat.lt_of_le_of_lt (Nat.div_le_self _ _) h2
theorem D.add {p q : Rat} {j k : Nat} (hp : D j p) (hq : D k q) : D (j + k + 1) (p + q) := by
 rw [← zKC]
 have a1 := zGQ hp.1 hq.2
 have a2 := zGQ hq.1 hp.2
 rw [Nat.add_comm k j] at a2
 have a3 := zGQ hp.2 hq.2
 refine zET (by have := Nat.mul_ne_zero p.den_nz q.den_nz; omega) ?_ ?_
 ·have h := Int.natAbs_add_le (p.num * q.den) (q.num * p.den)
  rw [Int.natAbs_mul, Int.natAbs_mul, Int.natAbs_natCast, Int.natAbs_natCast] at h
  exact Nat.lt_of_le_of_lt h (add_big a1 a2)
 ·rw [Int.natAbs_natCast]
  exact Nat.lt_of_lt_of_le a3 (Nat.pow_le_pow_right (by decide) (by omega))
theorem D.neg {q : Rat} {k : Nat} (h : D k q) : D k (-q) := by
 refine ⟨?_, h.2⟩
 show (-q.num).natAbs < _
 rw [Int.natAbs_neg]; exact h.1
theorem D.sub {p q : Rat} {j k : Nat} (hp : D j p) (hq : D k q) : D (j + k + 1) (p - q) := by
 rw [Rat.sub_eq_add_neg]; exact hp.add hq.neg
theorem D.mul {p q : Rat} {j k : Nat} (hp : D j p) (hq : D k q) : D (j + k) (p * q) := by
 rw [← zKU]
 refine zET (by have := Nat.mul_ne_zero p.den_nz q.den_nz; omega) ?_ ?_
 ·rw [Int.natAbs_mul]; exact zGQ hp.1 hq.1
 ·rw [Int.natAbs_natCast]; exact zGQ hp.2 hq.2
theorem D.div {p q : Rat} {j k : Nat} (hp : D j p) (hq : D k q) (h0 : q ≠ 0) : D (j + k) (p / q) := by
 have hn : q.num ≠ 0 := fun h => h0 (Rat.num_eq_zero.1 h)
 rw [← zNN p q h0]
 refine zET (Int.mul_ne_zero hn (by have := p.den_nz; omega)) ?_ ?_
 ·rw [Int.natAbs_mul, Int.natAbs_natCast]; exact zGQ hp.1 hq.2
 ·rw [Int.natAbs_mul, Int.natAbs_natCast, Nat.add_comm]; exact zGQ hq.1 hp.2
theorem zJM {s : List UInt8} (h : zCf s = 0) : zDb s = false ↔ 0 ≤ zv s := by
 have hp := zF5 h
 have h1 := zKq (zDb s) (zA7 0 (zEV s))
 rw [← hp.num] at h1
 rw [← Rat.num_nonneg]
 cases e : zDb s
 ·rw [e] at h1; simp at h1; simpa using h1
 ·have h2 : (zv s).num < 0 := by
   have h3 := hp.ng e
   rw [e] at h1
   simpa [h3] using h1
  exact ⟨fun q => absurd q (by decide), fun q => absurd h2 (by omega)⟩
def zAU (f : Nat → Rat) : Nat → Rat
 | 0 => 0
 | n + 1 => zAU f n + f n
theorem zAX {f g : Nat → Rat} : ∀ {n : Nat}, (∀ i, i < n → f i = g i) → zAU f n = zAU g n
 | 0, _ => rfl
 | n + 1, h => by rw [zAU, zAU, zAX (fun i hi => h i (by omega)), h n (by omega)]
theorem zGA : ∀ n : Nat, zAU (fun _ => 0) n = 0
 | 0 => rfl
 | n + 1 => by rw [zAU, zGA n, Rat.add_zero]
theorem zIx (f g : Nat → Rat) : ∀ n : Nat, zAU (fun i => f i + g i) n = zAU f n + zAU g n
 | 0 => by rw [zAU, zAU, zAU, Rat.add_zero]
 | n + 1 => by
  rw [zAU, zAU, zAU, zIx f g n]
  rw [Rat.add_assoc, Rat.add_assoc, ← Rat.add_assoc (zAU g n), Rat.add_comm (zAU g n) (f n), Rat.add_assoc]
theorem zDq (c : Rat) (f : Nat → Rat) : ∀ n : Nat, zAU (fun i => c * f i) n = c * zAU f n
 | 0 => by rw [zAU, zAU, Rat.mul_zero]
 | n + 1 => by rw [zAU, zAU, zDq c f n, Rat.mul_add]
theorem zC4 (c : Rat) (f : Nat → Rat) : ∀ n : Nat, zAU (fun i => f i * c) n = zAU f n * c
 | 0 => by rw [zAU, zAU, Rat.zero_mul]
 | n + 1 => by rw [zAU, zAU, zC4 c f n, Rat.add_mul]
theorem zMA (f : Nat → Nat → Rat) (m : Nat) : ∀ n : Nat, zAU (fun i => zAU (fun j => f i j) m) n = zAU (fun j => zAU (fun i => f i j) n) m
 | 0 => by
  show (0 : Rat) = zAU (fun j => 0) m
  rw [zGA]
 | n + 1 => by
  rw [zAU, zMA f m n, ← zIx]
  exact zAX (fun i _ => rfl)
theorem zFZ {f : Nat → Rat} : ∀ {n : Nat}, (∀ i, i < n → 0 ≤ f i) → 0 ≤ zAU f n
 | 0, _ => Rat.le_refl
 | n + 1, h => by rw [zAU]; exact Rat.add_nonneg (zFZ (fun i hi => h i (by omega))) (h n (by omega))
theorem zPX {j : Nat} {f : Nat → Rat} : ∀ {n : Nat}, (∀ i, i < n → D j (f i)) → D (1 + n * (j + 1)) (zAU f n)
 | 0, _ => by
  rw [Nat.zero_mul]
  exact ⟨by show (0 : Rat).num.natAbs < _; decide, by show (0 : Rat).den < _; decide⟩
 | n + 1, h => by
  rw [zAU]
  have := (zPX (n := n) (fun i hi => h i (by omega))).add (h n (by omega))
  refine this.mono ?_
  rw [Nat.add_mul]; omega
/-- The sum of the products. -/
def zAM (a b : List Rat) : Rat := zAU (fun i => a.getD i 0 * b.getD i 0) a.length
def zBo (m : List (List Rat)) (k : Nat) : List Rat := m.map (fun row => row.getD k 0)
def zC5 (m : List (List Rat)) (w : Nat) : List (List Rat) := (List.range w).map (zBo m)
def mulQ (a b : List (List Rat)) (w : Nat) : List (List Rat) := a.map (fun row => (zC5 b w).map (zAM row))
theorem zDg (m : List (List Rat)) (k i : Nat) : (zBo m k).getD i 0 = (m.getD i []).getD k 0 := by
 unfold zBo
 by_cases h : i < m.length
 ·simp [List.getD, h]
 ·simp [List.getD, h]
theorem zCH (m : List (List Rat)) (k : Nat) : (zBo m k).length = m.length := by simp [zBo]
theorem zQr (m : List (List Rat)) {w k : Nat} (hk : k < w) : (zC5 m w).getD k [] = zBo m k := by
 simp [zC5, List.getD, hk]
theorem zLV (m : List (List Rat)) (w : Nat) : (zC5 m w).length = w := by simp [zC5]
theorem zCK {α β : Type} (f : α → β) (l : List α) (d : α) (e : β) (i : Nat) (hi : i < l.length) : (l.map f).getD i e = f (l.getD i d) := by simp [List.getD, hi]
theorem zBE {a b : List Rat} {n : Nat} (h : a.length = n) : zAM a b = zAU (fun i => a.getD i 0 * b.getD i 0) n := by unfold zAM; rw [h]
theorem zOp {a b : List Rat} {j k : Nat} (ha : ∀ x ∈ a, D j x) (hb : ∀ x ∈ b, D k x) (hl : a.length ≤ b.length) : D (1 + a.length * (j + k + 1)) (zAM a b) := by
 refine zPX (fun i hi => (ha _ (by simp [List.getD, hi])).mul (hb _ (by simp [List.getD, show i < b.length by omega])))
abbrev zn := List UInt8
def vecE (v : List zn) : Int := if 40 < v.length then 2 else zDv v
def zIs (w : Nat) : List (List zn) → Int
 | [] => 0
 | r :: rs => if r.length = w then (if vecE r = 0 then zIs w rs else vecE r) else 3
def zAJ (m : List (List zn)) : Nat := (m.getD 0 []).length
/-- matrix.Check -/
def zGi (m : List (List zn)) : Int := if 40 < m.length then 2 else zIs (zAJ m) m
def inM (m : List (List zn)) : List (List Rat) := m.map (fun r => r.map zv)
def outM (q : List (List Rat)) : List (List zn) × Int := if q.all (fun r => r.all zBp) then (q.map (fun r => r.map zt), 0) else ([], 2)
def mulR (a b : List (List zn)) : List (List zn) × Int := if zGi a ≠ 0 then ([], zGi a) else if zGi b ≠ 0 then ([], zGi b) else if zAJ a = b.length then outM (mulQ (inM a) (inM b) (zAJ b)) else ([], 3)
def zAw (m : List (List zn)) : List (List zn) := (List.range (zAJ m)).map (fun k => m.map (fun r => r.getD k []))
def zGc (m : List (List zn)) : List (List zn) × Int := if zGi m ≠ 0 then ([], zGi m) else (zAw m, 0)
theorem zMH {v : List zn} (h : vecE v = 0) : v.length ≤ 40 ∧ zDv v = 0 := by
 unfold vecE at h
 split at h
 ·cases h
 ·exact ⟨by omega, h⟩
theorem zKo {w : Nat} : ∀ {m : List (List zn)}, zIs w m = 0 → ∀ r ∈ m, r.length = w ∧ vecE r = 0
 | [], _, r, hr => by simp at hr
 | a :: m, h, r, hr => by
  rw [zIs] at h
  split at h
  ·rename_i h1
   split at h
   ·rename_i h2
    rcases List.mem_cons.1 hr with rfl | hr
    ·exact ⟨h1, h2⟩
    ·exact zKo h r hr
   ·contradiction
  ·cases h
theorem zN5 {w : Nat} : ∀ {m : List (List zn)}, (∀ r ∈ m, r.length = w ∧ vecE r = 0) → zIs w m = 0
 | [], _ => rfl
 | a :: m, h => by
  rw [zIs, if_pos (h a (by simp)).1, if_pos (h a (by simp)).2]
  exact zN5 (fun r hr => h r (by simp [hr]))
/-- A valid matrix of so many rows and columns. -/
structure IsM (m : List (List zn)) (p q : Nat) : Prop where
 rows : m.length = p
 cols : ∀ r ∈ m, r.length = q
 sp : p ≤ 40
 sq : m ≠ [] → q ≤ 40
 ok : ∀ r ∈ m, ∀ s ∈ r, zCf s = 0
theorem zEu {m : List (List zn)} (h : zGi m = 0) : IsM m m.length (zAJ m) := by
 unfold zGi at h
 split at h
 ·cases h
 ·have h1 := zKo h
  refine ⟨Z, fun r hr => (h1 r hr).1, by omega, fun hne => ?_, fun r hr s hs => zCb (zMH (h1 r hr).2).2 s hs⟩
  obtain ⟨a, m', rfl⟩ := List.exists_cons_of_ne_nil hne
  have h2 := h1 a (by simp)
  have := (zMH h2.2).1
  omega
theorem zMh {m : List (List zn)} {p q : Nat} (h : IsM m p q) : zGi m = 0 := by
 unfold zGi
 rw [if_neg (by have := h.rows; have := h.sp; omega)]
 cases m with
 | nil => rfl
 | cons a m' =>
  have hw : zAJ (a :: m') = q := h.cols a (by simp)
  rw [hw]
  refine zN5 (fun r hr => ⟨h.cols r hr, ?_⟩)
  unfold vecE
  rw [if_neg (by have := h.cols r hr; have := h.sq (by simp); omega)]
  exact zJu (fun s hs => h.ok r hr s hs)
theorem IsM.wid {m : List (List zn)} {p q : Nat} (h : IsM m p q) (hne : m ≠ []) : zAJ m = q := by
 obtain ⟨a, m', rfl⟩ := List.exists_cons_of_ne_nil hne
 exact h.cols a (by simp)
theorem zEA (m : List (List zn)) : (inM m).length = m.length := by simp [inM]
theorem zKR {m : List (List zn)} {p q : Nat} (h : IsM m p q) : ∀ r ∈ inM m, r.length = q := by
 intro r hr
 obtain ⟨x, hx, rfl⟩ := List.mem_map.1 hr
 rw [List.length_map]; exact h.cols x hx
/-- Short texts. -/
def zJX (n k : Nat) (m : List (List zn)) : Bool := decide (m.length ≤ n) && m.all (fun v => decide (v.length ≤ n) && v.all (fun s => decide (s.length ≤ k)))
theorem zHb {n k : Nat} {m : List (List zn)} (h : zJX n k m = true) : m.length ≤ n ∧ ∀ v ∈ m, v.length ≤ n ∧ ∀ s ∈ v, s.length ≤ k := by
 unfold zJX at h
 simp only [Bool.and_eq_true, decide_eq_true_eq, List.all_eq_true] at h
 exact ⟨h.1, fun v hv => ⟨(h.2 v hv).1, fun s hs => (h.2 v hv).2 s hs⟩⟩
theorem inM_D {m : List (List zn)} {p q k : Nat} (h : IsM m p q) (hk : ∀ v ∈ m, ∀ s ∈ v, s.length ≤ k) (h1 : 1 ≤ k) : ∀ r ∈ inM m, ∀ x ∈ r, D k x := by
 intro r hr x hx
 obtain ⟨y, hy, rfl⟩ := List.mem_map.1 hr
 obtain ⟨s, hs, rfl⟩ := List.mem_map.1 hx
 exact (IsQ.self (h.ok y hy s hs)).dig (hk y hy s hs) h1
/-- The product of short valid matrices. -/
structure Prod (a b : List (List zn)) (t : List (List zn)) (p q r K : Nat) : Prop where
 res : mulR a b = (t, 0)
 ok : IsM t p r
 val : inM t = mulQ (inM a) (inM b) r
 dig : ∀ x ∈ inM t, ∀ y ∈ x, D K y
theorem zPb (m : List (List zn)) : (zAw m).length = zAJ m := by simp [zAw]
theorem zLj {m : List (List zn)} {p q : Nat} (h : IsM m p q) (hp : p ≠ 0) : IsM (zAw m) q p := by
 have hne : m ≠ [] := by rintro rfl; exact hp h.rows.symm
 have hw := h.wid hne
 refine ⟨by rw [zPb, hw], fun r hr => ?_, h.sq hne, fun _ => h.sp, fun r hr s hs => ?_⟩
 ·obtain ⟨k, _, rfl⟩ := List.mem_map.1 hr
  rw [List.length_map, h.rows]
 ·obtain ⟨k, hk, rfl⟩ := List.mem_map.1 hr
  obtain ⟨x, hx, rfl⟩ := List.mem_map.1 hs
  have hk' : k < x.length := by rw [h.cols x hx, ← hw]; simpa using hk
  have : x.getD k [] = x[k] := by simp [List.getD, hk']
  rw [this]
  exact h.ok x hx _ (List.getElem_mem hk')
theorem zLi {m : List (List zn)} {p q : Nat} (h : IsM m p q) (hp : p ≠ 0) : inM (zAw m) = zC5 (inM m) q := by
 have hne : m ≠ [] := by rintro rfl; exact hp h.rows.symm
 have hw := h.wid hne
 unfold inM zAw zC5
 rw [List.map_map, hw]
 refine List.map_congr_left (fun k hk => ?_)
 have hk' : k < q := by simpa using hk
 unfold zBo
 simp only [Function.comp, List.map_map]
 refine List.map_congr_left (fun r hr => ?_)
 have : k < r.length := by rw [h.cols r hr]; exact hk'
 simp [List.getD, this]
def zIy : Rat → List Rat → Rat
 | acc, [] => acc
 | acc, q :: r => zIy (acc + q) r
theorem zMC : ∀ (qs : List Rat) (acc : Rat), (zHD acc qs).2 = 0 → (zHD acc qs).1 = zIy acc qs
 | [], acc, _ => rfl
 | q :: r, acc, h => by
  rw [zHD] at h ⊢
  rw [zIy]
  split at h
  ·rename_i hf; rw [if_pos hf]; exact zMC r _ h
  ·cases h
end Go.Ax.Rt
