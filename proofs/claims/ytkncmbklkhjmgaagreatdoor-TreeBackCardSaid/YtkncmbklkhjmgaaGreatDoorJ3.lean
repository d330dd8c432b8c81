import Derived.Lib.Bytealg
import Derived.Laws.Externs
import Derived.Laws.CopyRow
import Derived.OpenShut
import Derived.Laws.StructEq
import Derived.ChangeKeysEq
import Derived.WideLaws
import Derived.Laws.Bits64
import Derived.Laws.BitsLemmas
import Derived.Lib.AppendStr
import Derived.Lib.UnsafeStr
import Derived.Lib.Builder
import Derived.Laws.Small
import Derived.MapKept
import Derived.Laws.IdiomStrings
import Derived.Lib.LaidTab
import Derived.Lib.ItoaNum
import Derived.Stop.LaidErr
import Derived.Test.YtkncmbklkhjmgaaGreatDoorProg
import Derived.Lib.AtoiAll
import Derived.Test.YtkncmbklkhjmgaaGreatDoorJ2
set_option linter.unusedVariables false
set_option linter.unusedSimpArgs false
set_option maxRecDepth 100000
set_option maxHeartbeats 4000000
namespace Go.Ax
variable [Pins]
open Go.RowKit
/-- One more object, of which there is nothing yet. -/
theorem Rep.nowhere1 {c : Ctx} {w : World} {a : Act} {σ : Nat → Option Blk} {S : Nat → Prop} {n : Nat} {fr : Fr} {H : zH} (hr : Rep c w a σ S n fr H) {o : AObj} (ho : o.c.len = 0) : Rep c w a (upσ σ H.length .nowhere) S n fr (H ++ [some o]) := by
 have hext : ∀ h B, σ h = some B → upσ σ H.length .nowhere h = some B := by
  intro h B hB
  unfold upσ
  split
  ·rename_i he; rw [he, hr.hr.dom _ (Nat.le_refl _)] at hB; cases hB
  ·exact hB
 have hv : ∀ {x v}, VR w S σ x v → VR w S (upσ σ H.length .nowhere) x v := fun h => h.mono (fun _ h => h) (fun _ _ => rfl) _ hext
 have hset : ∀ (h' : Nat) (o' : AObj), (H ++ [some o])[h']? = some (some o') → (h' = H.length ∧ o' = o) ∨ (h' < H.length ∧ H[h']? = some (some o')) := by
  intro h' o' ho
  by_cases he : h' < H.length
  ·rw [List.getElem?_append_left he] at ho; exact .inr ⟨he, ho⟩
  ·by_cases he2 : h' = H.length
   ·subst he2; simp at ho; exact .inl ⟨rfl, ho.symm⟩
   ·have : (H ++ [some o]).length ≤ h' := by simp; omega
    rw [List.getElem?_eq_none this] at ho; cases ho
 have hnone : ∀ h, h < H.length → upσ σ H.length .nowhere h = σ h := fun h hl => by simp [upσ, Nat.ne_of_lt hl]
 have hat : upσ σ H.length .nowhere H.length = some .nowhere := by simp [upσ]
 refine ⟨⟨?_, ?_, hr.hr.small, fun h hl => ?_⟩, ⟨hr.kp.os, hr.kp.output, hr.kp.tape, hr.kp.size, hr.kp.block, hr.kp.S1, hr.kp.S2, fun h hf => by rw [hnone h (hr.kp.fixlt h hf)]; exact hr.kp.fixed h hf, fun h hf => by have := hr.kp.fixlt h hf; simp; omega, ?_⟩, hr.defers, hr.size, fun t v hl => ⟨(hr.slots t v hl).1, hv (hr.slots t v hl).2⟩⟩
 ·intro h' o' ho'
  rcases hset h' o' ho' with ⟨rfl, rfl⟩ | ⟨hlt, ho'⟩
  ·exact .inl ⟨hat, ho⟩
  ·rcases hr.hr.live h' o' ho' with ⟨hn, hl0⟩ | ⟨b', C', cu, g1, g2, g3, g4, g5, g6, g7⟩
   ·exact .inl ⟨hext _ _ hn, hl0⟩
   ·right
    refine ⟨b', C', cu, hext _ _ g1, g2.mono Y hv, g3, g4, g5, g6, fun i j hi hj => ?_⟩
    obtain ⟨v, e1, e2, e3⟩ := g7 i j hi hj
    exact ⟨v, e1, hv e2, e3⟩
 ·intro h1 h2 o1 o2 b s1 C1 s2 C2 q1 q2 e1 e2
  rcases hset h1 o1 q1 with ⟨rfl, rfl⟩ | ⟨l1, q1'⟩
  ·rw [hat] at e1; cases e1
  ·rcases hset h2 o2 q2 with ⟨rfl, rfl⟩ | ⟨l2, q2'⟩
   ·rw [hat] at e2; cases e2
   ·rw [hnone h1 l1] at e1
    rw [hnone h2 l2] at e2
    exact hr.hr.dist h1 h2 o1 o2 b s1 C1 s2 C2 q1' q2' e1 e2
 ·simp only [List.length_append, List.length_cons, List.length_nil] at hl
  have : ¬ h = H.length := by omega
  simp only [upσ, this, if_false]
  exact hr.hr.dom h (by omega)
 ·intro h' o' b s C ho hb
  rcases hset h' o' ho with ⟨rfl, rfl⟩ | ⟨hlt, ho'⟩
  ·rw [hat] at hb; cases hb
  ·rw [hnone h' hlt] at hb
   exact hr.kp.own h' o' b s C ho' hb
/-- Cells, told otherwise. -/
theorem Rep.recell {c : Ctx} {w : World} {a : Act} {σ : Nat → Option Blk} {S : Nat → Prop} {n : Nat} {fr : Fr} {H : zH} (hr : Rep c w a σ S n fr H) {h : Nat} {o : AObj} (hh : H[h]? = some (some o)) {c' : Cells} (h1 : c'.len = o.c.len) (h2 : c'.kd = o.c.kd)
 (h3 : ∀ i j v, i < o.c.len → j < o.c.sz → VR w S σ (o.c.at i j) v → VR w S σ (c'.at i j) v) : Rep c w a σ S n fr (H.set h (some ⟨o.ty, c'⟩)) := by
 have hlt : h < H.length := (List.getElem?_eq_some_iff.1 hh).1
 have hset : ∀ (h' : Nat) (o' : AObj), (H.set h (some ⟨o.ty, c'⟩))[h']? = some (some o') → ∃ o0 : AObj, H[h']? = some (some o0) ∧ o'.ty = o0.ty ∧ o'.c.len = o0.c.len ∧ o'.c.kd = o0.c.kd ∧ ∀ i j v, i < o0.c.len → j < o0.c.sz → VR w S σ (o0.c.at i j) v → VR w S σ (o'.c.at i j) v := by
  intro h' o' ho
  by_cases he : h' = h
  ·subst he
   simp only [List.getElem?_set_self hlt, Option.some.injEq] at ho
   subst ho
   exact ⟨o, hh, Y, h1, h2, h3⟩
  ·rw [List.getElem?_set_ne (Ne.symm he)] at ho
   exact ⟨o', ho, Y, Y, Y, fun _ _ _ _ _ h => h⟩
 refine ⟨⟨fun h' o' ho => ?_, fun h1 h2 o1 o2 b s C s' C' q1 q2 e1 e2 => ?_, hr.hr.small, fun h' hl => hr.hr.dom h' (by simpa using hl)⟩, ⟨hr.kp.os, hr.kp.output, hr.kp.tape, hr.kp.size, hr.kp.block, hr.kp.S1, hr.kp.S2, hr.kp.fixed, fun h' hf => by simpa using hr.kp.fixlt h' hf, fun h' o' b s C q e => ?_⟩, hr.defers, hr.size, hr.slots⟩
 ·obtain ⟨o0, h1, h2, h3, h4, h5⟩ := hset h' o' ho
  rw [h3, kd_sz h4]
  rcases hr.hr.live h' o0 h1 with g | ⟨b, C, cur, g1, g2, g3, g4, g5, g6, g7⟩
  ·exact .inl g
  ·exact .inr ⟨b, C, cur, g1, g2.kd h2 h4, g3, g4, g5, g6, fun i j hi hj => by
    obtain ⟨v, e1, e2, e3⟩ := g7 i j hi hj
    exact ⟨v, e1, h5 i j v hi hj e2, e3⟩⟩
 ·obtain ⟨p, p1, _⟩ := hset h1 o1 q1
  obtain ⟨p', p1', _⟩ := hset h2 o2 q2
  exact hr.hr.dist h1 h2 p p' b s C s' C' p1 p1' e1 e2
 ·obtain ⟨p, p1, _⟩ := hset h' o' q
  exact hr.kp.own h' p b s C p1 e
section
variable {P : Program} {fn : Func} {c : Ctx} {fr : Fr} {H : zH} {k : List It}
end
/-- What a value is told as, once the objects of HF are only read. -/
def FzTo (HF : zH) (x y : AV) : Prop := y = x ∨ y = .any ∨ (y = x.frz HF ∧ inB HF x)
def fzk (HF : zH) (fr : Fr) : Fr → Prop
 | [] => True
 | (t, y) :: r => (∃ x, zAH t fr = some x ∧ FzTo HF x y) ∧ fzk HF fr r
theorem look_fzk {HF : zH} {fr L : Fr} {t : Nat} {y : AV} (h : fzk HF fr L) (hl : zAH t L = some y) : ∃ x, zAH t fr = some x ∧ FzTo HF x y := by
 have _p := ‹Pins›
 induction L with
 | nil => simp [zAH] at hl
 | cons p r ih =>
  obtain ⟨u, x⟩ := p
  obtain ⟨h1, h2⟩ := h
  simp only [zAH] at hl
  by_cases he : t = u
  ·subst he; simp at hl; subst hl; exact h1
  ·have hb : Nat.beq t u = false := zAi he
   simp [hb] at hl
   exact ih h2 hl
/-- Objects that nobody writes any more join the region. -/
theorem Rep.freeze {c : Ctx} {w : World} {a : Act} {σ : Nat → Option Blk} {S : Nat → Prop} {n : Nat} {fr L : Fr} {H : zH} (hr : Rep c w a σ S n fr H) (HF H' : zH) (hsub : subH HF H) (hrl : ∀ (h : Nat) (o : AObj), HF[h]? = some (some o) → zj o.c)
 (hlen : H'.length = H.length)
 (hH : ∀ (h : Nat) (o' : AObj), H'[h]? = some (some o') → (∀ o : AObj, HF[h]? ≠ some (some o)) ∧ ∃ o : AObj, H[h]? = some (some o) ∧ o'.ty = o.ty ∧ o'.c.len = o.c.len ∧ o'.c.kd = o.c.kd ∧ ∀ i j, i < o.c.len → j < o.c.sz → FzTo HF (o.c.at i j) (o'.c.at i j))
 (hL : fzk HF fr L) : ∃ S', Rep c w a σ S' n L H' := by
 have hlive : zHe w S σ HF := fun h o ho => hr.hr.live h o (hsub h o ho)
 let S' : Nat → Prop := fun b => S b ∨ ∃ h o s C, HF[h]? = some (some o) ∧ σ h = some (.at b s C)
 have hup : ∀ {σ1 : Nat → Option Blk} {x v}, VR w S σ1 x v → VR w S' σ1 x v := fun h => h.mono (fun _ h => .inl h) (fun _ _ => rfl) _ (fun _ _ h => h)
 have hfz : ∀ {x y v}, FzTo HF x y → VR w S σ x v → VR w S' σ y v := by
  intro x y v h hv
  rcases h with rfl | rfl | ⟨rfl, hin⟩
  ·exact hup hv
  ·exact .any _ _
  ·exact VR.freeze hlive hrl (fun _ h => .inl h) (fun h o b s C h1 h2 => .inr ⟨h, o, s, C, h1, h2⟩) hv σ hin
 refine ⟨S', ⟨fun h o' ho' => ?_, fun h1 h2 o1 o2 b s C s' C' q1 q2 e1 e2 => ?_, fun b hb => ?_, fun h hl => hr.hr.dom h (by omega)⟩, ⟨hr.kp.os, hr.kp.output, hr.kp.tape, hr.kp.size, hr.kp.block, fun b hb => .inl (hr.kp.S1 b hb), fun b hb => ?_, hr.kp.fixed, fun h hf => by rw [hlen]; exact hr.kp.fixlt h hf, fun h o b s C q e => ?_⟩, hr.defers, hr.size, fun t y hy => ?_⟩
 ·obtain ⟨hno, o, h1, h2, h3, h4, h5⟩ := hH h o' ho'
  rw [h3, kd_sz h4]
  rcases hr.hr.live h o h1 with g | ⟨b, C, cur, g1, g2, g3, g4, g5, g6, g7⟩
  ·exact .inl g
  ·refine .inr ⟨b, C, cur, g1, (g2.mono Y hup).kd h2 h4, g3, g4, g5, ?_, fun i j hi hj => ?_⟩
   ·rintro (hs | ⟨h', o2, s2, C2, q1, q2⟩)
    ·exact g6 hs
    ·have := hr.hr.dist h h' o o2 b _ C s2 C2 h1 (hsub h' o2 q1) g1 q2
     subst this
     exact hno o2 q1
   ·obtain ⟨v, e1, e2, e3⟩ := g7 i j hi hj
    exact ⟨v, e1, hfz (h5 i j hi hj) e2, e3⟩
 ·obtain ⟨_, p, p1, _⟩ := hH h1 o1 q1
  obtain ⟨_, p', p1', _⟩ := hH h2 o2 q2
  exact hr.hr.dist h1 h2 p p' b s C s' C' p1 p1' e1 e2
 ·rcases hb with hs | ⟨h, o, s, C, q1, q2⟩
  ·exact hr.hr.small b hs
  ·obtain ⟨_, cu, g, _⟩ := hr.obj (hsub h o q1) q2
   exact g.lt
 ·rcases hb with hs | ⟨h, o, s, C, q1, q2⟩
  ·exact hr.kp.S2 b hs
  ·rcases hr.kp.own h o b s C (hsub h o q1) q2 with g | g
   ·exact .inr (.inl g)
   ·exact .inr (.inr g)
 ·obtain ⟨_, p, p1, _⟩ := hH h o q
  exact hr.kp.own h p b s C p1 e
 ·obtain ⟨x, hx, hf⟩ := look_fzk hL hy
  exact ⟨(hr.slots t x hx).1, hfz hf (hr.slots t x hx).2⟩
section
variable {P : Program} {fn : Func} {c : Ctx} {fr : Fr} {H : zH} {k : List It}
theorem zHg {x : Code} (HF H' : zH) (L : Fr) (hsub : subH HF H) (hrl : ∀ (h : Nat) (o : AObj), HF[h]? = some (some o) → zj o.c) (hlen : H'.length = H.length)
 (hH : ∀ (h : Nat) (o' : AObj), H'[h]? = some (some o') → (∀ o : AObj, HF[h]? ≠ some (some o)) ∧ ∃ o : AObj, H[h]? = some (some o) ∧ o'.ty = o.ty ∧ o'.c.len = o.c.len ∧ o'.c.kd = o.c.kd ∧ ∀ i j, i < o.c.len → j < o.c.sz → FzTo HF (o.c.at i j) (o'.c.at i j))
 (hL : fzk HF fr L) (hk : Ax P fn c (.code x k) L H') : Ax P fn c (.code x k) fr H := by
 intro w a σ S hr
 obtain ⟨S', hr'⟩ := hr.freeze HF H' hsub hrl hlen hH hL
 exact hk w a σ S' hr'
theorem zBx {x : Code} (H' : zH) (he : H = H') (hk : Ax P fn c (.code x k) fr H') : Ax P fn c (.code x k) fr H := he ▸ hk
theorem zBe {all : Array Oper} {fuel : Nat} {listed : Array Bool} (t : Nat) {v : AV} (y : AV) (hl : zAH t fr = some v) (h : AEq v y) (hk : Ax P fn c (.any all fuel listed k) ((t, y) :: fr) H) : Ax P fn c (.any all fuel listed k) fr H :=
 fun w a σ S hr => hk w a σ S (hr.slot hl h)
end
end Go.Ax
namespace Go.Ax
variable [Pins]
open Go.RowKit
section
variable {ind : Bool} {P : Program} {fn : Func} {c : Ctx} {fr : Fr} {H : zH} {k : List It}
variable {d : Option Nat} {ty : TypeId} {pos : String} {after : Array Edge} {gu : Option (Nat × Bool)}
theorem zG5 {g : Operand} {args : List Operand} {ats : Array TypeId} {f : FuncId} {fx : Func} {e : Array Value → Sem Value} {ags : List AV} {r : AV} (hg : ev fr g = some (.fn f [])) (ha : evs fr args = some ags)
 (hf : P.funcs[f]? = some fx) (hname : (fx.name == "runtime.NumGoroutine") = false) (hb : fx.body.isNone = true) (hn : Extern.findNext fx = none) (he : Extern.find fx = some e)
 (hrun : ∀ w S σ vals, VRs w S σ ags vals → ∃ x, VR w S σ r x ∧ ∀ w', (e vals).run P w' = .ok x w') :
 QOp ind P fn c fr H ⟨d, .call { callee := .value g, args := args.toArray, argTypes := ats }, ty, pos, after, gu⟩ r := by
 intro w a σ S hr
 have h1 := hr.evAt hg
 obtain ⟨e1, e2⟩ := zEE hr args ags ha
 generalize hz : a.eval g = z at h1
 cases h1 with
 | fn _ _ _ vs hl hv =>
  have hvs : vs = #[] := by
   have : vs.size = 0 := by simpa using hl
   exact Array.eq_empty_of_size_eq_zero this
  subst hvs
  have hv0 : VRs w S σ ags (args.map a.eval).toArray := by
   refine ⟨by simp [e1], fun i hi => ?_⟩
   have := e2 i hi
   have hlt : i < args.length := by omega
   have eb : (args.map a.eval).toArray.getD i undef = (args.map a.eval).getD i undef := by simp [List.getD, hlt]
   rw [eb]; exact this
  obtain ⟨x, hx2, hall⟩ := hrun w S σ _ hv0
  refine ⟨x, hx2, fun w' _ => ?_⟩
  have hc := run_callFunc_extern (P := P) hf hname hb hn he (args.map a.eval).toArray w'
  rw [hall w'] at hc
  simp only [execOp, resolve, hz, Deferred.ofValue, Sem.run_bind, Sem.run_pure, Result.andThen_ok, invoke, List.map_toArray, Array.empty_append, Array.append_empty] at hc ⊢
  exact hc
theorem VRs.strByte {w : World} {S : Nat → Prop} {σ : Nat → Option Blk} {s : List UInt8} {b : Int} {vals : Array Value} (h : VRs w S σ [.str s, .int .u8 b] vals) : vals = #[zD2 s, .int .u8 b] := by
 have _p := ‹Pins›
 obtain ⟨h1, h2⟩ := h
 have a := h2 0 (by simp)
 have b' := h2 1 (by simp)
 apply Array.ext
 ·simpa using h1
 ·intro i hi1 hi2
  have hlt : i < 2 := by simpa using hi2
  match i, hlt with
  | 0, _ =>
   simp only [List.getD_cons_zero, Array.getD, hi1, dite_true] at a
   generalize hv : vals[0] = v at *
   have hv' : vals.getInternal 0 hi1 = v := hv
   rw [hv'] at a
   cases a; rfl
  | 1, _ =>
   simp only [List.getD_cons_succ, List.getD_cons_zero, Array.getD, hi1, dite_true] at b'
   generalize hv : vals[1] = v at *
   have hv' : vals.getInternal 1 hi1 = v := hv
   rw [hv'] at b'
   cases b'; rfl
/-- internal/bytealg.IndexByteString -/
theorem zJW {g x y : Operand} {ats : Array TypeId} {f : FuncId} {fx : Func} {s : List UInt8} {b : Int} (hg : ev fr g = some (.fn f [])) (hx : ev fr x = some (.str s)) (hy : ev fr y = some (.int .u8 b))
 (hf : P.funcs[f]? = some fx) (hname : (fx.name == "runtime.NumGoroutine") = false) (hb : fx.body.isNone = true) (hn : Extern.findNext fx = none) (he : Extern.find fx = some Extern.BytealgIndexByte.indexByte) :
 QOp ind P fn c fr H ⟨d, .call { callee := .value g, args := #[x, y], argTypes := ats }, ty, pos, after, gu⟩ (.int .i64 (Lib.indexByte s b.toNat.toUInt8)) :=
 zG5 (args := [x, y]) (ags := [.str s, .int .u8 b]) hg (by simp [evs, hx, hy]) hf hname hb hn he (fun w S σ vals hv => ⟨_, .int _ _ _, fun w' => by rw [hv.strByte]; exact Lib.run_indexByteString _ _ _⟩)
/-- internal/bytealg.CountString -/
theorem zJS {g x y : Operand} {ats : Array TypeId} {f : FuncId} {fx : Func} {s : List UInt8} {b : Int} (hg : ev fr g = some (.fn f [])) (hx : ev fr x = some (.str s)) (hy : ev fr y = some (.int .u8 b))
 (hf : P.funcs[f]? = some fx) (hname : (fx.name == "runtime.NumGoroutine") = false) (hb : fx.body.isNone = true) (hn : Extern.findNext fx = none) (he : Extern.find fx = some Extern.BytealgCount.count) :
 QOp ind P fn c fr H ⟨d, .call { callee := .value g, args := #[x, y], argTypes := ats }, ty, pos, after, gu⟩ (.int .i64 (s.count b.toNat.toUInt8 : Nat)) :=
 zG5 (args := [x, y]) (ags := [.str s, .int .u8 b]) hg (by simp [evs, hx, hy]) hf hname hb hn he (fun w S σ vals hv => ⟨_, .int _ _ _, fun w' => by rw [hv.strByte]; exact Lib.run_countString _ _ _⟩)
end
theorem AEq.tup2 {x x' y : AV} (h : AEq x x') : AEq (.tup [x, y]) (.tup [x', y]) := by
 have _p := ‹Pins›
 intro w S σ v hv
 cases hv with
 | tup _ _ vs hl hv =>
  refine .tup _ _ _ hl (fun i hi => ?_)
  have := hv i hi
  match i, hi with
  | 0, _ => exact h _ _ _ _ this
  | 1, _ => exact this
theorem zK.res {P : Program} {f : FuncId} {args : List AV} {H : zH} {fix : Nat → Prop} {K K' : AV → zH → Prop} (hc : zK P f args H fix K) (hK : ∀ r H', K r H' → ∃ r', AEq r r' ∧ K' r' H') : zK P f args H fix K' := by
 refine ⟨hc.1, fun w σ S vals h0 h1 h2 h3 => Calls.mono (hc.2 w σ S vals h0 h1 h2 h3) fun e w' he => ?_⟩
 obtain ⟨v, r, σ', S', H', g1, g2, g3, g4, g5⟩ := he
 obtain ⟨r', hr1, hr2⟩ := hK _ _ g5
 exact ⟨v, r', σ', S', H', g1, g2, hr1 _ _ _ _ g3, ⟨g4.os, g4.output, g4.tape, g4.size, g4.block, g4.S1, g4.S2, g4.fixed, g4.fixlt, g4.own⟩, hr2⟩
def AEqs : List AV → List AV → Prop
 | [], [] => True
 | x :: r, y :: q => AEq x y ∧ AEqs r q
 | _, _ => False
theorem AEqs.length : ∀ {a b : List AV}, AEqs a b → a.length = b.length
 | [], [], _ => have _p := ‹Pins›; rfl
 | _ :: r, _ :: q, h => by simp [AEqs.length h.2]
 | [], _ :: _, h => h.elim
 | _ :: _, [], h => h.elim
theorem AEqs.get : ∀ {a b : List AV}, AEqs a b → ∀ i, i < a.length → AEq (a.getD i .any) (b.getD i .any)
 | [], [], _, i, hi => by have _p := ‹Pins›; simp at hi
 | x :: r, y :: q, h, 0, _ => h.1
 | x :: r, y :: q, h, i + 1, hi => by simpa using AEqs.get h.2 i (by simpa using hi)
 | [], _ :: _, h, _, _ => h.elim
 | _ :: _, [], h, _, _ => h.elim
theorem zN.res {P : Program} {f : FuncId} {args : List AV} {r r' : AV} (hc : zN P f args r) (h : AEq r r') : zN P f args r' :=
 fun H => (hc H).res fun _ _ ⟨h1, h2⟩ => ⟨r', h1 ▸ h, rfl, h2⟩
end Go.Ax
namespace Go.Ax
variable [Pins]
open Go.RowKit
section
variable {ind : Bool} {P : Program} {fn : Func} {c : Ctx} {fr : Fr} {H : zH} {k : List It}
variable {d : Option Nat} {ty : TypeId} {pos : String} {after : Array Edge} {g : Option (Nat × Bool)}
/-- The address of an array's element (of one cell). -/
theorem zFa {x ix : Operand} {t e : TypeId} {n h i j jx : Nat} {kk : IntKind} {m : Int} (ht : P.underlying t = some (.array n e)) (hs : (P.info? e).map (·.size) = some 1) (hx : ev fr x = some (.ptr h i j)) (hi : ev fr ix = some (.int kk m)) (hj : j + m.toNat = jx) (hb : 0 ≤ m ∧ m < n) :
 QOp ind P fn c fr H ⟨d, .indexAddr t x ix, ty, pos, after, g⟩ (.ptr h i jx) := by
 intro w a σ S hr
 have h1 := hr.evAt hx
 have h2 := hr.evInt hi
 subst hj
 generalize hz : a.eval x = z at h1
 cases h1 with
 | ptr _ _ _ _ b s C hσ =>
  refine ⟨_, .ptr _ h i (j + m.toNat) b s C hσ, fun w' _ => ?_⟩
  cases hq : P.info? e with
  | none => simp [hq] at hs
  | some inf =>
   have hsz : inf.size = 1 := by simpa [hq] using hs
   simp [execOp, hz, h2, Instr.indexAt, Instr.sureAddr, asIntOf, run_underlying ht, hb, sizeOf, typeInfo, hq, hsz, Addr.add_lit, Nat.add_assoc]
theorem zJV {x ix : Operand} {t e : TypeId} {n i j jx : Nat} {cl : Cells} {kk : IntKind} {m : Int} (ht : P.underlying t = some (.array n e)) (hs : (P.info? e).map (·.size) = some 1) (hx : ev fr x = some (.rp cl i j)) (hi : ev fr ix = some (.int kk m)) (hj : j + m.toNat = jx) (hb : 0 ≤ m ∧ m < n) :
 QOp ind P fn c fr H ⟨d, .indexAddr t x ix, ty, pos, after, g⟩ (.rp cl i jx) := by
 intro w a σ S hr
 have h1 := hr.evAt hx
 have h2 := hr.evInt hi
 subst hj
 generalize hz : a.eval x = z at h1
 cases h1 with
 | rp _ _ _ _ b o val hS hc hvv h1' =>
  refine ⟨.pointer (some ⟨b, o + m.toNat, none⟩), .rp _ _ _ _ _ _ (fun e => val (m.toNat + e)) hS (fun e he => ?_) (fun e he => ?_) (fun e he => h1' _ (by omega)), fun w' _ => ?_⟩
  ·have := hc (m.toNat + e) (by omega)
   rwa [← Nat.add_assoc] at this
  ·have := hvv (m.toNat + e) (by omega)
   rwa [← Nat.add_assoc] at this
  ·cases hq : P.info? e with
   | none => simp [hq] at hs
   | some inf =>
    have hsz : inf.size = 1 := by simpa [hq] using hs
    simp [execOp, hz, h2, Instr.indexAt, Instr.sureAddr, asIntOf, run_underlying ht, hb, sizeOf, typeInfo, hq, hsz, Addr.add_lit]
/-- Reading a whole struct or array. -/
theorem zEs {x : Operand} {t : TypeId} {u : TypeDesc} {h i : Nat} {ob : AObj} {inf : TypeInfo} {L : List AV} (ht : P.underlying t = some u) (hu : zAk u = true) (hinf : P.info? t = some inf) (hsz : inf.size = ob.c.sz) (hx : ev fr x = some (.ptr h i 0)) (hh : H[h]? = some (some ob))
 (hL : (List.range ob.c.sz).map (ob.c.at i) = L) (hi : i < ob.c.len) : QOp false P fn c fr H ⟨d, .load t x, ty, pos, after, g⟩ (.agg L) := by
 intro w a σ S hr
 have h1 := hr.evAt hx
 subst hL
 generalize hz : a.eval x = z at h1
 cases h1 with
 | ptr _ _ _ _ b s C hσ =>
  obtain ⟨hs', cur, g1, g2, g3, g4, g5, g6⟩ := hr.obj hh hσ
  subst hs'
  have hcell : ∀ w' : World, w'.heap = w.heap → ∀ j, j < ob.c.sz → ∃ y, w'.cell? ⟨b, i * ob.c.sz + j, none⟩ = some y ∧ VR w S σ (ob.c.at i j) y ∧ y.oneCell' = true := by
   intro w' hw j hj
   obtain ⟨y, e1, e2, e3⟩ := g6 i j hi hj
   obtain ⟨mk, g1, _, _⟩ := g1.cells (by omega)
   exact ⟨y, by simp [World.cell?, hw, g1, e1], e2, e3⟩
  let cs : List Value := (List.range ob.c.sz).map (fun j => (w.cell? ⟨b, i * ob.c.sz + j, none⟩).getD undef)
  refine ⟨.agg cs.toArray, .agg _ _ _ (by simp [cs]) (fun j hj => ?_) (fun j hj => ?_), fun w' hw => ?_⟩
  ·have hj' : j < ob.c.sz := by simpa using hj
   obtain ⟨y, e1, e2, _⟩ := hcell w rfl j hj'
   simpa [cs, Array.getD, hj', e1, List.getD] using e2
  ·have hj' : j < ob.c.sz := by simpa using hj
   obtain ⟨y, e1, _, e3⟩ := hcell w rfl j hj'
   simpa [cs, Array.getD, hj', e1] using e3
  ·have hw := hw.resolve_left (by decide)
   have hl := run_loadCells_list (P := P) w' ⟨b, i * ob.c.sz, none⟩ cs (fun j v hv => by
    have hj : j < ob.c.sz := by simpa [cs] using (List.getElem?_eq_some_iff.1 hv).1
    obtain ⟨y, e1, _, _⟩ := hcell w rfl j hj
    simp only [cs, List.getElem?_map, List.getElem?_range hj, Option.map_some, Option.some.injEq] at hv
    subst hv
    rw [e1, Addr.add_lit]
    have := World.cell?_of_block (w := w) (w' := w') (a := ⟨b, i * ob.c.sz + j, none⟩) (by rw [hw])
    rw [this, e1]; rfl)
   have hcl : cs.length = inf.size := by simp [cs, hsz]
   rw [hcl] at hl
   have hz' : a.eval x = .pointer (some ⟨b, i * ob.c.sz, none⟩) := by rw [hz]; simp
   simp [execOp, hz', Instr.loadAt, Instr.sureAddr, loadVar, zB7 ht, hu, sizeOf, typeInfo, hinf, hl]
theorem zCb {x : Operand} {t : TypeId} {u : TypeDesc} {i : Nat} {cl : Cells} {inf : TypeInfo} {L : List AV} (ht : P.underlying t = some u) (hu : zAk u = true) (hinf : P.info? t = some inf) (hsz : inf.size = cl.sz) (hx : ev fr x = some (.rp cl i 0))
 (hL : (List.range cl.sz).map (cl.at i) = L) : QOp false P fn c fr H ⟨d, .load t x, ty, pos, after, g⟩ (.agg L) := by
 intro w a σ S hr
 have h1 := hr.evAt hx
 subst hL
 generalize hz : a.eval x = z at h1
 cases h1 with
 | rp _ _ _ _ b o val hS hc hvv h1' =>
  let cs : List Value := (List.range cl.sz).map val
  refine ⟨.agg cs.toArray, .agg _ _ _ (by simp [cs]) (fun j hj => ?_) (fun j hj => ?_), fun w' hw => ?_⟩
  ·have hj' : j < cl.sz := by simpa using hj
   have := (hvv j (by omega)).mono (w' := w) (fun _ h => h) (fun _ _ => rfl) σ (fun _ _ h => by cases h)
   simpa [cs, Array.getD, hj', List.getD] using this
  ·have hj' : j < cl.sz := by simpa using hj
   have := h1' j (by omega)
   simpa [cs, Array.getD, hj'] using this
  ·have hw := hw.resolve_left (by decide)
   have hl := run_loadCells_list (P := P) w' ⟨b, o, none⟩ cs (fun j v hv => by
    have hj : j < cl.sz := by simpa [cs] using (List.getElem?_eq_some_iff.1 hv).1
    simp only [cs, List.getElem?_map, List.getElem?_range hj, Option.map_some, Option.some.injEq] at hv
    subst hv
    rw [Addr.add_lit]
    have := World.cell?_of_block (w := w) (w' := w') (a := ⟨b, o + j, none⟩) (by rw [hw])
    rw [this]; exact hc j (by omega))
   have hcl : cs.length = inf.size := by simp [cs, hsz]
   rw [hcl] at hl
   simp [execOp, hz, Instr.loadAt, Instr.sureAddr, loadVar, zB7 ht, hu, sizeOf, typeInfo, hinf, hl]
/-- The address of a field. -/
theorem zJ {x : Operand} {s : TypeId} {fs : Array Field} {f h i j jx : Nat} {fd : Field} {inf : TypeInfo} (ht : P.underlying s = some (.struct fs)) (hf : fs[f]? = some fd) (hi : P.info? fd.type = some inf) (hne : Nat.beq inf.size 0 = false) (hx : ev fr x = some (.ptr h i j)) (hj : j + fd.offset = jx) :
 QOp ind P fn c fr H ⟨d, .fieldAddr s x f, ty, pos, after, g⟩ (.ptr h i jx) := by
 intro w a σ S hr
 have h1 := hr.evAt hx
 subst hj
 have hne' : ¬ inf.size = 0 := fun e => by rw [e] at hne; cases hne
 generalize hz : a.eval x = z at h1
 cases h1 with
 | ptr _ _ _ _ b sz C hσ =>
  refine ⟨_, .ptr _ h i (j + fd.offset) b sz C hσ, fun w' _ => ?_⟩
  simp [execOp, hz, Instr.fieldAt, run_underlying ht, hf, Instr.sureAddr, fieldPlace, sizeOf, typeInfo, hi, hne', Addr.add_lit, Nat.add_assoc]
theorem zCz {x : Operand} {s : TypeId} {fs : Array Field} {f i j jx : Nat} {cl : Cells} {fd : Field} {inf : TypeInfo} (ht : P.underlying s = some (.struct fs)) (hf : fs[f]? = some fd) (hi : P.info? fd.type = some inf) (hne : Nat.beq inf.size 0 = false) (hx : ev fr x = some (.rp cl i j)) (hj : j + fd.offset = jx) :
 QOp ind P fn c fr H ⟨d, .fieldAddr s x f, ty, pos, after, g⟩ (.rp cl i jx) := by
 intro w a σ S hr
 have h1 := hr.evAt hx
 subst hj
 have hne' : ¬ inf.size = 0 := fun e => by rw [e] at hne; cases hne
 generalize hz : a.eval x = z at h1
 cases h1 with
 | rp _ _ _ _ b o val hS hc hvv h1' =>
  refine ⟨.pointer (some ⟨b, o + fd.offset, none⟩), .rp _ _ _ _ _ _ (fun e => val (fd.offset + e)) hS (fun e he => ?_) (fun e he => ?_) (fun e he => h1' _ (by omega)), fun w' _ => ?_⟩
  ·have := hc (fd.offset + e) (by omega)
   rwa [← Nat.add_assoc] at this
  ·have := hvv (fd.offset + e) (by omega)
   rwa [← Nat.add_assoc] at this
  ·simp [execOp, hz, Instr.fieldAt, run_underlying ht, hf, Instr.sureAddr, fieldPlace, sizeOf, typeInfo, hi, hne', Addr.add_lit]
/-- A pointer that is not nil. -/
theorem zAW {x : Operand} {h i j : Nat} (hx : ev fr x = some (.ptr h i j)) : QOp ind P fn c fr H ⟨d, .nilCheck x, ty, pos, after, g⟩ (.ptr h i j) := by
 intro w a σ S hr
 have h1 := hr.evAt hx
 generalize hz : a.eval x = z at h1
 cases h1 with
 | ptr _ _ _ _ b s C hσ => exact ⟨_, .ptr _ h i j b s C hσ, fun w' _ => by simp [execOp, hz]⟩
theorem zHZ {x : Operand} {cl : Cells} {i j : Nat} (hx : ev fr x = some (.rp cl i j)) : QOp ind P fn c fr H ⟨d, .nilCheck x, ty, pos, after, g⟩ (.rp cl i j) := by
 intro w a σ S hr
 have h1 := hr.evAt hx
 generalize hz : a.eval x = z at h1
 cases h1 with
 | rp _ _ _ _ b o val hS hc hvv h1' => exact ⟨_, .rp _ _ _ _ _ _ val hS hc hvv h1', fun w' _ => by simp [execOp, hz]⟩
/-- A store of a whole struct or array. -/
theorem zA0 {all : Array Oper} {t : TypeId} {x y : Operand} {ty : TypeId} {pos : String} {after : Array Edge} {rest : List Oper} {h i : Nat} {ob : AObj} {L : List AV} {c' : Cells}
 (hx : ev fr x = some (.ptr h i 0)) (hy : ev fr y = some (.agg L)) (hs : (P.info? t).map (·.size) = some ob.c.sz) (hh : H[h]? = some (some ob)) (hl : L.length = ob.c.sz) (hi : i < ob.c.len)
 (h1 : c'.len = ob.c.len) (h2 : c'.sz = ob.c.sz) (h3 : ∀ i' j', i' < ob.c.len → j' < ob.c.sz → c'.at i' j' = if i' = i then L.getD j' .any else ob.c.at i' j')
 (hk : Ax P fn c (.ops false all rest k) fr (H.set h (some ⟨ob.ty, c'⟩))) (hz0 : ob.c.sz ≠ 0 := by (intro hh; cases hh)) : Ax P fn c (.ops false all (⟨none, .store t x y, ty, pos, after, none⟩ :: rest) k) fr H := by
 refine ax_w0 (fun w a σ S hr => ?_) hk
 have e1 := hr.evAt hx
 have e2 := hr.evAt hy
 generalize hz : a.eval x = z at e1
 generalize hzy : a.eval y = u at e2
 cases e2 with
 | agg _ _ vs hvl hvv hv1 =>
  cases e1 with
  | ptr _ _ _ _ b s C hσ =>
   obtain ⟨hs', cur, g1, g2, g3, g4, g5, g6⟩ := hr.obj hh hσ
   subst hs'
   obtain ⟨mk, g1, hmk, hrow⟩ := g1.cells hz0
   have hfit : i * ob.c.sz + ob.c.sz ≤ cur.size := by
    rw [g2]
    have : (i + 1) * ob.c.sz ≤ C * ob.c.sz := Nat.mul_le_mul_right _ (by omega)
    rw [Nat.add_mul] at this; omega
   have hvsz : vs.size = ob.c.sz := by rw [hvl, hl]
   have hst := zBG P b (i * ob.c.sz) ob.ty mk vs.toList 0 cur w g1 hmk (by simp [hvsz]; exact hfit) (fun v hv => by
    obtain ⟨j, hj, rfl⟩ := List.getElem_of_mem hv
    have hj' : j < vs.size := by simpa using hj
    have := hv1 j (by rw [← hvl]; exact hj')
    simpa [Array.getD, hj'] using this)
   simp only [Nat.add_zero] at hst
   generalize hcur : (cur.toList.take (i * ob.c.sz) ++ vs.toList ++ cur.toList.drop (i * ob.c.sz + vs.toList.length)).toArray = cur' at hst
   have hlen' : cur'.size = cur.size := by rw [← hcur]; simp [hvsz]; omega
   have hat : ∀ p, p < cur.size → cur'[p]? = if i * ob.c.sz ≤ p ∧ p < i * ob.c.sz + ob.c.sz then vs[p - i * ob.c.sz]? else cur[p]? := by
    intro p hp
    rw [← hcur]
    simp only [List.getElem?_toArray, List.append_assoc]
    by_cases c1 : p < i * ob.c.sz
    ·rw [List.getElem?_append_left (by simp; omega), List.getElem?_take, if_pos c1, if_neg (by omega)]; simp
    ·rw [List.getElem?_append_right (by simp; omega)]
     have ht : (cur.toList.take (i * ob.c.sz)).length = i * ob.c.sz := by simp; omega
     rw [ht]
     by_cases c2 : p < i * ob.c.sz + ob.c.sz
     ·rw [List.getElem?_append_left (by simp [hvsz]; omega), if_pos ⟨by omega, c2⟩]; simp
     ·rw [List.getElem?_append_right (by simp [hvsz]; omega), if_neg (by omega)]
      simp only [Array.length_toList, hvsz, List.getElem?_drop, Array.getElem?_toList]
      congr 1; omega
   refine ⟨w.setRow b cur', σ, S, ?_, hr.setRow hh hσ hrow h2 (by omega) (by rw [hlen', g2]) (fun i' j' hi' hj' => ?_)⟩
   ·simp only [Nat.add_zero] at hz
    simp only [execOp, hz, hzy, Instr.storeAt, Instr.sureAddr, storeVar, Sem.run_bind, Sem.run_pure, Result.andThen_ok, zEm hs, Value.cells, hvsz]
    simp [hst]
   ·rw [h1] at hi'
    rw [h2] at hj' ⊢
    rw [h3 i' j' hi' hj']
    have hp : i' * ob.c.sz + j' < cur.size := by
     rw [g2]
     have : (i' + 1) * ob.c.sz ≤ C * ob.c.sz := Nat.mul_le_mul_right _ (by omega)
     rw [Nat.add_mul] at this; omega
    rw [hat _ hp]
    by_cases he : i' = i
    ·subst he
     rw [if_pos rfl, if_pos ⟨by omega, by omega⟩]
     have hjv : j' < vs.size := by omega
     refine ⟨vs.getD j' undef, by simp [Array.getD, hjv], hvv j' (by omega), hv1 j' (by omega)⟩
    ·rw [if_neg he]
     have hne : ¬ (i * ob.c.sz ≤ i' * ob.c.sz + j' ∧ i' * ob.c.sz + j' < i * ob.c.sz + ob.c.sz) := by
      rintro ⟨q1, q2⟩
      rcases Nat.lt_or_gt_of_ne he with hlt | hlt
      ·have : (i' + 1) * ob.c.sz ≤ i * ob.c.sz := Nat.mul_le_mul_right _ hlt
       rw [Nat.add_mul] at this; omega
      ·have : (i + 1) * ob.c.sz ≤ i' * ob.c.sz := Nat.mul_le_mul_right _ hlt
       rw [Nat.add_mul] at this; omega
     rw [if_neg hne]
     exact g6 i' j' hi' hj'
end
end Go.Ax
namespace Go.Ax
variable [Pins]
open Go.RowKit
section
variable {P : Program} {fn : Func} {c : Ctx} {fr : Fr} {H : zH} {k : List It}
theorem zFp {w : World} {a : Act} {σ : Nat → Option Blk} {S : Nat → Prop} {n : Nat} (hr : Rep c w a σ S n fr H) {all : Array Oper} {d : Option Nat} {op : Op} {ty : TypeId} {pos : String} {after : Array Edge} {j t : Nat} {p : Bool}
 (hy : zGO all j = some t) (hb : zAH t fr = some (.tup [])) : Region.wanted ⟨d, op, ty, pos, after, some (j, p)⟩ (yielded all a.tmps) = false := by
 obtain ⟨h1, h2⟩ := hr.slots t _ hb
 have h3 : t < a.tmps.size := by rw [hr.size]; exact h1
 generalize hz : a.tmps.getD t undef = z at h2
 cases h2
 rename_i vs hl hv
 have h4 : a.tmps[t]? = some (.tuple vs) := by
  simp only [Array.getD, h3, dite_true] at hz
  simp only [Array.getElem?_eq_getElem h3]
  exact congrArg some hz
 unfold zGO at hy
 simp only [Region.wanted, yielded, hy, Option.bind_some, h4]
 cases p <;> rfl
theorem zFo {w : World} {S : Nat → Prop} {σ : Nat → Option Blk} : VR w S σ (.tup []) undef := have _p := ‹Pins›; .tup _ _ _ rfl (fun i hi => absurd hi (Nat.not_lt_zero _))
/-- An operation that is passed over leaves nothing in its slot. -/
theorem zAz {q : Bool} {all : Array Oper} {d : Nat} {op : Op} {ty : TypeId} {pos : String} {after : Array Edge} {rest : List Oper} {j t : Nat} {p b : Bool}
 (hy : zGO all j = some t) (hb : zAH t fr = some (.bool b)) (hne : (b == p) = false) (h : Ax P fn c (.ops q all rest k) ((d, .tup []) :: fr) H) : Ax P fn c (.ops q all (⟨some d, op, ty, pos, after, some (j, p)⟩ :: rest) k) fr H := by
 cases q with
 | false =>
  intro hd w a σ S hr
  obtain ⟨hd1, hd2⟩ := zAw hd
  simp only [wpList, zEo hr hy hb, hne, Bool.false_eq_true, if_false]
  exact h hd2 w _ σ S (hr.put zFo (hd1 d Y))
 | true =>
  intro hd w a σ S hr
  obtain ⟨hd1, hd2⟩ := zAw hd
  simp only [wpQuiet, zEo hr hy hb, hne, Bool.false_eq_true, if_false]
  exact h hd2 w _ σ S (hr.put zFo (hd1 d Y))
theorem zEr {q : Bool} {all : Array Oper} {d : Nat} {op : Op} {ty : TypeId} {pos : String} {after : Array Edge} {rest : List Oper} {j t : Nat} {p : Bool}
 (hy : zGO all j = some t) (hb : zAH t fr = some (.tup [])) (h : Ax P fn c (.ops q all rest k) ((d, .tup []) :: fr) H) : Ax P fn c (.ops q all (⟨some d, op, ty, pos, after, some (j, p)⟩ :: rest) k) fr H := by
 cases q with
 | false =>
  intro hd w a σ S hr
  obtain ⟨hd1, hd2⟩ := zAw hd
  simp only [wpList, zFp hr hy hb, Bool.false_eq_true, if_false]
  exact h hd2 w _ σ S (hr.put zFo (hd1 d Y))
 | true =>
  intro hd w a σ S hr
  obtain ⟨hd1, hd2⟩ := zAw hd
  simp only [wpQuiet, zFp hr hy hb, Bool.false_eq_true, if_false]
  exact h hd2 w _ σ S (hr.put zFo (hd1 d Y))
end
end Go.Ax
namespace Go.Ax
variable [Pins]
open Go.RowKit
section
variable {P : Program} {fn : Func} {c : Ctx} {fr : Fr} {H : zH} {k : List It}
end
end Go.Ax
namespace Go.Ax
variable [Pins]
mutual
def zCi (n : Nat) : AV → Bool
 | .sl h _ _ => Nat.blt h n
 | .ptr h _ _ => Nat.blt h n
 | .fn _ l => zBJ n l
 | .agg l => zBJ n l
 | .tup l => zBJ n l
 | .mp h => Nat.blt h n
 | _ => true
def zBJ (n : Nat) : List AV → Bool
 | [] => true
 | v :: r => zCi n v && zBJ n r
end
theorem zCj {n : Nat} {l : List AV} (h : zBJ n l = true) (i : Nat) (hi : i < l.length) : zCi n (l.getD i .any) = true := by
 have _p := ‹Pins›
 induction l generalizing i with
 | nil => simp at hi
 | cons v r ih =>
  simp only [zBJ, Bool.and_eq_true] at h
  cases i with
  | zero => exact h.1
  | succ i => simpa using ih h.2 i (by simpa using hi)
theorem VR.cutv {w : World} {S : Nat → Prop} {σ : Nat → Option Blk} {n : Nat} {x : AV} {v : Value} (h : VR w S σ x v) : zCi n x = true → ∀ σ' : Nat → Option Blk, (∀ h, h < n → σ' h = σ h) → VR w S σ' x v := by
 induction h with
 | int => intros; constructor
 | bool => intros; constructor
 | str => intros; constructor
 | nil => intros; constructor
 | ro0 => intros; constructor
 | ro σ c i len b o cap val hSb hlen hc hv h1 ih => intro _ σ' _; exact .ro _ _ _ _ _ _ _ val hSb hlen hc hv h1
 | sl σ h i len b s C cap hσ hlen hcap => intro hb σ' hs; exact .sl _ _ _ _ _ _ _ _ (by rw [hs h (Nat.le_of_ble_eq_true hb)]; exact hσ) hlen hcap
 | sl0 σ h hσ => intro hb σ' hs; exact .sl0 _ _ (by rw [hs h (Nat.le_of_ble_eq_true hb)]; exact hσ)
 | rp σ c i j b o val hSb hc hv h1 ih => intro _ σ' _; exact .rp _ _ _ _ _ _ val hSb hc hv h1
 | ptr σ h i j b s C hσ => intro hb σ' hs; exact .ptr _ _ _ _ _ _ _ (by rw [hs h (Nat.le_of_ble_eq_true hb)]; exact hσ)
 | nilp => intros; constructor
 | fn σ f cap vs hl hv ih => intro hn σ' hs; exact .fn _ _ _ _ hl (fun i hi => ih i hi (zCj hn i hi) _ hs)
 | nilfn => intros; constructor
 | iface => intros; constructor
 | nilif => intros; constructor
 | agg σ l vs hl hv h1 ih => intro hn σ' hs; exact .agg _ _ _ hl (fun i hi => ih i hi (zCj hn i hi) _ hs) h1
 | tup σ l vs hl hv ih => intro hn σ' hs; exact .tup _ _ _ hl (fun i hi => ih i hi (zCj hn i hi) _ hs)
 | mp σ h b hσ => intro hb σ' hs; exact .mp _ _ _ (by rw [hs h (Nat.le_of_ble_eq_true hb)]; exact hσ)
 | rom σ ks vs b es clock e hSb hb hn hl hd he hk hv => intro _ σ' _; exact .rom _ _ _ b es clock e hSb hb hn hl hd he hk hv
 | any => intros; constructor
theorem Lays.cutv {w : World} {S : Nat → Prop} {σ σ' : Nat → Option Blk} {o : AObj} {b : Nat} {cur : Array Value} {C n : Nat} (h : Lays w S σ o b cur C) (hc : ∀ ks vs, o.c = .mp ks vs → zBJ n ks = true ∧ zBJ n vs = true) (hs : ∀ h, h < n → σ' h = σ h) : Lays w S σ' o b cur C := by
 have _p := ‹Pins›
 cases h with
 | row mk h hm hC => exact .row mk h hm hC
 | map ks vs es clock hc' hC h hn hl hd he =>
  obtain ⟨b1, b2⟩ := hc ks vs hc'
  exact .map ks vs es clock hc' hC h hn hl hd (fun i hi => let ⟨e, e1, e2, e3⟩ := he i hi; ⟨e, e1, e2.cutv (zCj b1 i hi) _ hs, e3.cutv (zCj b2 i (by omega)) _ hs⟩)
def zFu (n : Nat) : Fr → Bool
 | [] => true
 | (_, v) :: r => zCi n v && zFu n r
theorem zJw {n : Nat} {fr : Fr} (hb : zFu n fr = true) {t : Nat} {v : AV} (hl : zAH t fr = some v) : zCi n v = true := by
 have _p := ‹Pins›
 induction fr with
 | nil => simp [zAH] at hl
 | cons p r ih =>
  obtain ⟨u, x⟩ := p
  simp only [zFu, Bool.and_eq_true] at hb
  simp only [zAH] at hl
  cases hq : Nat.beq t u with
  | true => rw [hq] at hl; simp at hl; subst hl; exact hb.1
  | false => rw [hq] at hl; exact ih hb.2 (by simpa using hl)
def cutσ (n : Nat) (σ : Nat → Option Blk) (h : Nat) : Option Blk := if h < n then σ h else none
section
variable {P : Program} {fn : Func} {c : Ctx} {fr : Fr} {H : zH} {k : List It}
end
/-- Any contract, at arguments told otherwise. -/
theorem zK.args {P : Program} {f : FuncId} {ags ags' : List AV} {H : zH} {fix : Nat → Prop} {K : AV → zH → Prop} (hc : zK P f ags' H fix K) (h : AEqs ags ags') : zK P f ags H fix K := by
 unfold zK at hc ⊢
 refine ⟨hc.1, fun w σ S vals hp hr hf hv => hc.2 w σ S vals hp hr hf ⟨hv.1.trans h.length, fun j hj => ?_⟩⟩
 rw [← h.length] at hj
 exact h.get j hj _ _ _ _ (hv.2 j hj)
end Go.Ax
namespace Go.Ax
variable [Pins]
def zBI (n : Nat) : Cells → Prop
 | .mp ks vs => zBJ n ks = true ∧ zBJ n vs = true
 | c => ∀ i j, i < c.len → j < c.sz → zCi n (c.at i j) = true
theorem zBI.row {n : Nat} {c : Cells} (h : zBI n c) : ∀ i j, i < c.len → j < c.sz → zCi n (c.at i j) = true := by
 have _p := ‹Pins›
 cases c <;> first | exact h | exact fun i j hi => absurd hi (Nat.not_lt_zero _)
theorem zBI.mp {n : Nat} {c : Cells} (h : zBI n c) {ks vs : List AV} (hc : c = .mp ks vs) : zBJ n ks = true ∧ zBJ n vs = true := by have _p := ‹Pins›; subst hc; exact h
theorem Rep.cutP {c : Ctx} {w : World} {a : Act} {σ : Nat → Option Blk} {S : Nat → Prop} {n : Nat} {fr : Fr} {H H0 H1 : zH} (hr : Rep c w a σ S n fr H) (hH : H = H0 ++ H1) (hf : ∀ h, c.fix h → h < H0.length)
 (hbH : ∀ (h : Nat) (o : AObj), H0[h]? = some (some o) → zBI H0.length o.c) (hbF : zFu H0.length fr = true) : Rep c w a (cutσ H0.length σ) S n fr H0 := by
 subst hH
 have hs : ∀ h, h < H0.length → cutσ H0.length σ h = σ h := fun h hl => if_pos hl
 have hget : ∀ {h : Nat} {o : AObj}, H0[h]? = some (some o) → h < H0.length ∧ (H0 ++ H1)[h]? = some (some o) := by
  intro h o ho
  have hl : h < H0.length := (List.getElem?_eq_some_iff.1 ho).1
  exact ⟨hl, by rw [List.getElem?_append_left hl]; exact ho⟩
 refine ⟨⟨fun h o ho => ?_, fun h h' o o' b s C s' C' q1 q2 e1 e2 => ?_, hr.hr.small, fun h hl => if_neg (by omega)⟩, ⟨hr.kp.os, hr.kp.output, hr.kp.tape, hr.kp.size, hr.kp.block, hr.kp.S1, hr.kp.S2, fun h hh => by rw [hs h (hf h hh)]; exact hr.kp.fixed h hh, hf, fun h o b s C q e => ?_⟩, hr.defers, hr.size, fun t v hl => ⟨(hr.slots t v hl).1, (hr.slots t v hl).2.cutv (zJw hbF hl) _ hs⟩⟩
 ·obtain ⟨hl, ho'⟩ := hget ho
  rw [hs h hl]
  rcases hr.hr.live h o ho' with g | ⟨b, C, cur, g1, g2, g3, g4, g5, g6, g7⟩
  ·exact .inl g
  ·refine .inr ⟨b, C, cur, g1, g2.cutv (fun ks vs hc => (hbH h o ho).mp hc) hs, g3, g4, g5, g6, fun i j hi hj => ?_⟩
   obtain ⟨v, k1, k2, k3⟩ := g7 i j hi hj
   exact ⟨v, k1, k2.cutv ((hbH h o ho).row i j hi hj) _ hs, k3⟩
 ·obtain ⟨hl, ho⟩ := hget q1
  obtain ⟨hl', ho'⟩ := hget q2
  rw [hs h hl] at e1
  rw [hs h' hl'] at e2
  exact hr.hr.dist h h' o o' b s C s' C' ho ho' e1 e2
 ·obtain ⟨hl, ho⟩ := hget q
  rw [hs h hl] at e
  exact hr.kp.own h o b s C ho e
section
variable {P : Program} {fn : Func} {c : Ctx} {fr : Fr} {H : zH} {k : List It}
theorem zBa {x : Code} (H0 H1 : zH) (L : Fr) (hH : H = H0 ++ H1) (hL : zBS fr L) (hf : ∀ h, c.fix h → h < H0.length) (hbH : ∀ (h : Nat) (o : AObj), H0[h]? = some (some o) → zBI H0.length o.c) (hbF : zFu H0.length L = true)
 (hk : Ax P fn c (.code x k) L H0) : Ax P fn c (.code x k) fr H :=
 fun w a σ S hr => hk w a _ S ((hr.weaken hL).cutP hH hf hbH hbF)
theorem zIq {all : Array Oper} {rest : List Oper} (H0 H1 : zH) (L : Fr) (hH : H = H0 ++ H1) (hL : zBS fr L) (hf : ∀ h, c.fix h → h < H0.length) (hbH : ∀ (h : Nat) (o : AObj), H0[h]? = some (some o) → zBI H0.length o.c) (hbF : zFu H0.length L = true)
 (hk : Ax P fn c (.ops false all rest k) L H0) : Ax P fn c (.ops false all rest k) fr H :=
 fun hd w a σ S hr => hk hd w a _ S ((hr.weaken hL).cutP hH hf hbH hbF)
variable {ind : Bool} {d : Option Nat} {t t' ty : TypeId} {pos : String} {after : Array Edge} {g : Option (Nat × Bool)}
/-- Words of bits. -/
def andB (k : IntKind) (m n : Int) : Int := k.wrap ((BitVec.ofInt k.bits m &&& BitVec.ofInt k.bits n).toNat : Int)
def orB (k : IntKind) (m n : Int) : Int := k.wrap ((BitVec.ofInt k.bits m ||| BitVec.ofInt k.bits n).toNat : Int)
def shrB (k : IntKind) (m n : Int) : Int := m.fdiv (2 ^ (min n.toNat k.bits))
def shlB (k : IntKind) (m n : Int) : Int := k.wrap (m * 2 ^ (min n.toNat k.bits))
theorem q_and {x y : Operand} {k : IntKind} {m n : Int} (hx : ev fr x = some (.int k m)) (hy : ev fr y = some (.int k n)) :
 QOp ind P fn c fr H ⟨d, .binOp .and t x y t', ty, pos, after, g⟩ (.int k (andB k m n)) := by
 intro w a σ S hr
 have h1 := hr.evInt hx
 have h2 := hr.evInt hy
 refine ⟨_, .int _ _ _, fun w' _ => ?_⟩
 simp [execOp, h1, h2, zi, binOp, Op.intBits, andB]
theorem q_or {x y : Operand} {k : IntKind} {m n : Int} (hx : ev fr x = some (.int k m)) (hy : ev fr y = some (.int k n)) :
 QOp ind P fn c fr H ⟨d, .binOp .or t x y t', ty, pos, after, g⟩ (.int k (orB k m n)) := by
 intro w a σ S hr
 have h1 := hr.evInt hx
 have h2 := hr.evInt hy
 refine ⟨_, .int _ _ _, fun w' _ => ?_⟩
 simp [execOp, h1, h2, zi, binOp, Op.intBits, orB]
theorem q_shr {x y : Operand} {k k' : IntKind} {m n : Int} (hx : ev fr x = some (.int k m)) (hy : ev fr y = some (.int k' n)) (hn : 0 ≤ n) :
 QOp ind P fn c fr H ⟨d, .binOp .shr t x y t', ty, pos, after, g⟩ (.int k (shrB k m n)) := by
 intro w a σ S hr
 have h1 := hr.evInt hx
 have h2 := hr.evInt hy
 refine ⟨_, .int _ _ _, fun w' _ => ?_⟩
 have h3 : ¬ n < 0 := by omega
 simp [execOp, h1, h2, zi, binOp, Op.shift, shrB, h3]
theorem q_shl {x y : Operand} {k k' : IntKind} {m n : Int} (hx : ev fr x = some (.int k m)) (hy : ev fr y = some (.int k' n)) (hn : 0 ≤ n) :
 QOp ind P fn c fr H ⟨d, .binOp .shl t x y t', ty, pos, after, g⟩ (.int k (shlB k m n)) := by
 intro w a σ S hr
 have h1 := hr.evInt hx
 have h2 := hr.evInt hy
 refine ⟨_, .int _ _ _, fun w' _ => ?_⟩
 have h3 : ¬ n < 0 := by omega
 simp [execOp, h1, h2, zi, binOp, Op.shift, shlB, h3]
end
end Go.Ax
namespace Go.Ax
variable [Pins]
open Go.RowKit
def nilOf : AV → Option Bool
 | .nilp => some true
 | .ptr _ _ _ => some false
 | .rp _ _ _ => some false
 | _ => none
theorem zDz {P : Program} {op : BinOp} {t : TypeId} {x y : Operand} {a b : Option Addr} {w : World} : (eqGuard op t x y (.pointer a) (.pointer b)).run P w = .ok () w := by
 have _p := ‹Pins›
 unfold eqGuard
 split <;> rfl
theorem zGQ {P : Program} (w : World) {t e : TypeId} (a : Option Addr) (h : P.underlying t = some (.pointer e)) : (binOp .eql t (.pointer a) (.pointer none)).run P w = .ok (.bool a.isNone) w := by
 have _p := ‹Pins›
 have h1 : ∀ d : Nat, (Op.equalIn (d + 1) t (.pointer a) (.pointer none)).run P w = .ok a.isNone w := fun d => by
  cases a with
  | none => simp [Op.equalIn, run_underlying h]
  | some a => simp [Op.equalIn, run_underlying h]
 simp only [binOp]
 simp [Op.equal, Op.maxDepth, h1 9999]
section
variable {P : Program} {fn : Func} {c : Ctx} {fr : Fr} {H : zH} {k : List It} {ind : Bool} {d : Option Nat} {ty : TypeId} {pos : String} {after : Array Edge} {g : Option (Nat × Bool)}
theorem vr_nilOf {w : World} {S : Nat → Prop} {σ : Nat → Option Blk} {v : AV} {z : Value} {b : Bool} (h : VR w S σ v z) (hv : nilOf v = some b) : ∃ a : Option Addr, z = .pointer a ∧ a.isNone = b := by
 have _p := ‹Pins›
 cases h <;> simp [nilOf] at hv <;> subst hv <;> exact ⟨_, rfl, rfl⟩
theorem zLZ {x y : Operand} {t t' e : TypeId} {v : AV} {b : Bool} (ht : P.underlying t = some (.pointer e)) (hx : ev fr x = some v) (hv : nilOf v = some b) (hy : ev fr y = some .nilp) : QOp ind P fn c fr H ⟨d, .binOp .eql t x y t', ty, pos, after, g⟩ (.bool b) := by
 intro w a σ S hr
 have h1 := hr.evAt hx
 have h2 := hr.evAt hy
 generalize hz : a.eval x = z at h1
 generalize hzy : a.eval y = zy at h2
 cases h2
 obtain ⟨ad, rfl, rfl⟩ := vr_nilOf h1 hv
 refine ⟨_, .bool _ _, fun w' _ => ?_⟩
 simp only [execOp, hz, hzy, Sem.run_bind, zDz, Result.andThen_ok, zGQ w' ad ht]
 rfl
end
end Go.Ax
namespace Go.Ax
variable [Pins]
open Go.ChangeShapes Go.WideShapes Go.ChangeAt Go.RowKit
section
variable {H : Type} {enc : TypeId × Value → H} {P : Program} {W : World}
abbrev allS (W : World) : Nat → Prop := fun b => b < W.heap.size
/-- One after the other, cells are told by abstract values. -/
def zCO (W : World) (l : List AV) (cs : List Value) : Prop :=
 l.length = cs.length ∧ ∀ i, i < cs.length → VR W (allS W) (fun _ => none) (l.getD i .any) (cs.getD i undef) ∧ (cs.getD i undef).oneCell' = true
/-- A reader: type t, n cells, told by e of some a that is ok. -/
def Rd {α : Type} (enc : TypeId × Value → H) (P : Program) (W : World) (t : TypeId) (n : Nat) (e : α → List AV) (ok : α → Prop) : Prop :=
 ∀ fuel cs x, DataW.trod enc P W 0 (fun _ => true) true fuel t cs = some x → ∃ a, ok a ∧ cs.length = n ∧ zCO W (e a) cs
theorem zGk {W : World} {v : AV} {c : Value} (h : VR W (allS W) (fun _ => none) v c) (h1 : c.oneCell' = true) : zCO W [v] [c] := by
 have _p := ‹Pins›
 refine ⟨Y, fun i hi => ?_⟩
 have : i = 0 := by simpa using hi
 subst this
 exact ⟨h, h1⟩
theorem Rd.int {t : TypeId} {k : IntKind} (ht : P.underlying t = some (.int k)) : Rd enc P W t 1 (fun n : Int => [AV.int k n]) (fun n => (Lit.int k n).wf = true) := by
 intro fuel cs x h
 obtain ⟨n, rfl, _, hw⟩ := DataW.trod_int ht h
 exact ⟨n, hw, Y, zGk (.int _ _ _) Y⟩
theorem Rd.str {t : TypeId} (ht : P.underlying t = some .string) : Rd enc P W t 1 (fun s : List UInt8 => [AV.str s]) (fun s => s.length ≤ 9223372036854775807) := by
 intro fuel cs x h
 obtain ⟨s, rfl, _, hs⟩ := DataW.trod_string ht h
 have e : Value.string s = zD2 s.data.toList := by
  show Value.string s = Value.string ⟨s.data.toList.toArray⟩
  rw [Array.toArray_toList]
 refine ⟨s.data.toList, ?_, Y, ?_⟩
 ·unfold maxLen at hs; simpa using hs
 ·rw [e]; exact zGk (.str _ _) rfl
/-- The row that a list's elements make, each of n cells. -/
def rowE {α : Type} (d : α) (n : Nat) (e : α → List AV) (l : List α) : Cells := .fn l.length n (fun i j => (e (l.getD i d)).getD j .any)
theorem Rd.slice {α : Type} {t t' : TypeId} {n : Nat} {e : α → List AV} {ok : α → Prop} (d : α) (ht : P.underlying t = some (.slice t')) (hc : P.cellsOf t' = n) (hn : Nat.blt 0 n = true) (h : Rd enc P W t' n e ok) :
 Rd enc P W t 1 (fun l : List α => [AV.ro (rowE d n e l) 0 l.length]) (fun l => l.length ≤ 9223372036854775807 ∧ ∀ a ∈ l, ok a) := by
 have hn := Nat.le_of_ble_eq_true hn
 intro fuel cs x hx
 rcases DataW.trod_slice ht hx with ⟨rfl, _⟩ | ⟨a, len, cap, elems, rest, m, _, rfl, _, _, hl, hm, hlen, hel, _, _⟩
 ·exact ⟨[], ⟨Nat.zero_le _, fun a ha => by simp at ha⟩, Y, zGk (.ro0 _ _ _ _ _) Y⟩
 subst hc
 have each : ∀ i, i < len → ∃ z : α × List Value, ok z.1 ∧ W.cells? 0 (a.add (i * P.cellsOf t')) (P.cellsOf t') = some z.2 ∧ zCO W (e z.1) z.2 := by
  intro i hi
  have h1 := hel i hi
  have h2 : elems[i]? = some (elems[i]'(by omega)) := List.getElem?_eq_getElem _
  rw [h2, Option.bind_eq_some_iff] at h1
  obtain ⟨cs', hcs, hy⟩ := h1
  obtain ⟨z, hz, hzl, hzr⟩ := h _ _ _ hy
  exact ⟨(z, cs'), hz, hcs, hzr⟩
 cases len with
 | zero => exact ⟨[], ⟨Nat.zero_le _, fun a ha => by simp at ha⟩, rfl, zGk (.ro0 _ _ _ _ _) rfl⟩
 | succ len =>
  have ha : a = ⟨a.block, a.off, none⟩ ∧ a.block < W.heap.size := by
   obtain ⟨z, _, hcs, _⟩ := each 0 (Nat.succ_pos _)
   obtain ⟨_, hl2, hce⟩ := World.cells?_some hcs
   have h0 := hce 0 hn
   have hz0 : z.2[0]? = some (z.2[0]'(by omega)) := List.getElem?_eq_getElem _
   rw [hz0] at h0
   simp only [Nat.zero_mul] at h0
   have e0 : ∀ q : Addr, q.add 0 = q := by intro q; simp [Addr.add]
   rw [e0, e0] at h0
   have hsp : a = ⟨a.block, a.off, none⟩ := by
    have hb := h0
    unfold World.cell? at hb
    split at hb
    ·cases hsp : a.spot with
     | none => cases a; simp_all
     | some s => simp [hsp] at hb
    ·cases hb
   refine ⟨hsp, ?_⟩
   rcases Nat.lt_or_ge a.block W.heap.size with hh | hh
   ·exact hh
   ·rw [hsp] at h0
    unfold World.cell? at h0
    have : W.heap[a.block]? = none := by simp [hh]
    simp [this] at h0
  let f : Nat → α × List Value := fun i => if hi : i < len + 1 then Classical.choose (each i hi) else (d, [])
  have hf : ∀ i, i < len + 1 → ok (f i).1 ∧ W.cells? 0 (a.add (i * P.cellsOf t')) (P.cellsOf t') = some (f i).2 ∧ zCO W (e (f i).1) (f i).2 := by
   intro i hi
   have := Classical.choose_spec (each i hi)
   simp only [f, hi, dite_true]
   exact this
  let l : List α := (List.range (len + 1)).map (fun i => (f i).1)
  have hll : l.length = len + 1 := by simp [l]
  have hlg : ∀ i, i < len + 1 → l.getD i d = (f i).1 := by intro i hi; simp [l, List.getD, hi]
  refine ⟨l, ⟨by unfold maxLen at hm; omega, fun b hb => ?_⟩, Y, ?_⟩
  ·obtain ⟨i, hi, rfl⟩ := List.mem_map.1 hb
   exact (hf i (List.mem_range.1 hi)).1
  ·refine zGk ?_ Y
   rw [ha.1, hll]
   refine .ro _ _ _ _ _ _ _ (fun i j => (f i).2.getD j undef) ha.2 hl (fun i j hi hj => ?_) (fun i j hi hj => ?_) (fun i j hi hj => ?_)
   all_goals
    obtain ⟨g1, g2, g3, g4⟩ := hf i hi
    obtain ⟨_, q2, q3⟩ := World.cells?_some g2
    have hj' : j < (f i).2.length := by rw [q2]; exact hj
   ·have h3 := q3 j hj
    rw [List.getElem?_eq_getElem hj'] at h3
    rw [ha.1, add_plain, add_plain] at h3
    show W.cell? ⟨a.block, a.off + i * P.cellsOf t' + j, none⟩ = some ((f i).2.getD j undef)
    rw [h3, List.getD, List.getElem?_eq_getElem hj']; rfl
   ·show VR W (allS W) (fun _ => none) ((e (l.getD (0 + i) d)).getD j .any) _
    rw [Nat.zero_add, hlg i hi]
    exact (g4 j hj').1
   ·exact (g4 j hj').2
/-- One part behind the other. -/
theorem zCO.append {l l' : List AV} {cs cs' : List Value} (h : zCO W l cs) (h' : zCO W l' cs') : zCO W (l ++ l') (cs ++ cs') := by
 have _p := ‹Pins›
 refine ⟨by simp [h.1, h'.1], fun i hi => ?_⟩
 by_cases hlt : i < cs.length
 ·have e1 : (l ++ l').getD i .any = l.getD i .any := by simp [List.getD, List.getElem?_append, h.1, hlt]
  have e2 : (cs ++ cs').getD i undef = cs.getD i undef := by simp [List.getD, List.getElem?_append, hlt]
  rw [e1, e2]; exact h.2 i hlt
 ·have e1 : (l ++ l').getD i .any = l'.getD (i - cs.length) .any := by simp [List.getD, List.getElem?_append, h.1, hlt]
  have e2 : (cs ++ cs').getD i undef = cs'.getD (i - cs.length) undef := by simp [List.getD, List.getElem?_append, hlt]
  rw [e1, e2]; exact h'.2 _ (by simp at hi; omega)
/-- Readers of some cells in a row: the fields of a struct from one on. -/
def RdF {α : Type} (enc : TypeId × Value → H) (P : Program) (W : World) (fs : List Field) (o n : Nat) (e : α → List AV) (ok : α → Prop) : Prop :=
 ∀ fuel (cs : List Value) (m : Nat), cs.length = m → o + n = m → (∀ f ∈ fs, ∃ x, DataW.trod enc P W 0 (fun _ => true) true fuel f.type ((cs.drop f.offset).take (P.cellsOf f.type)) = some x) → ∃ a, ok a ∧ zCO W (e a) (cs.drop o)
theorem RdF.nil {o : Nat} : RdF enc P W [] o 0 (fun _ : Unit => []) (fun _ => True) := by
 have _p := ‹Pins›
 intro fuel cs m h1 h2 _
 refine ⟨(), trivial, ?_⟩
 rw [List.drop_of_length_le (by omega)]
 exact ⟨Y, fun i hi => by simp at hi⟩
theorem RdF.cons {α β : Type} {f : Field} {fs : List Field} {o n m : Nat} {e : α → List AV} {ok : α → Prop} {e' : β → List AV} {ok' : β → Prop} (ho : f.offset = o) (hc : P.cellsOf f.type = n) (h : Rd enc P W f.type n e ok) (h' : RdF enc P W fs (o + n) m e' ok') :
 RdF enc P W (f :: fs) o (n + m) (fun a : α × β => e a.1 ++ e' a.2) (fun a => ok a.1 ∧ ok' a.2) := by
 intro fuel cs k h1 h2 h3
 obtain ⟨x, hx⟩ := h3 f (by simp)
 obtain ⟨a, ha, hl, hr⟩ := h _ _ _ hx
 obtain ⟨b, hb, hr'⟩ := h' fuel cs k h1 (by omega) (fun g hg => h3 g (by simp [hg]))
 refine ⟨(a, b), ⟨ha, hb⟩, ?_⟩
 rw [ho, hc] at hr
 have e1 : cs.drop o = (cs.drop o).take n ++ cs.drop (o + n) := by rw [← List.drop_drop, List.take_append_drop]
 rw [e1]
 exact hr.append hr'
theorem Rd.struct {α : Type} {t : TypeId} {fs : Array Field} {n : Nat} {e : α → List AV} {ok : α → Prop} (ht : P.underlying t = some (.struct fs)) (hc : P.cellsOf t = n) (h : RdF enc P W fs.toList 0 n e ok) : Rd enc P W t n e ok := by
 have _p := ‹Pins›
 intro fuel cs x hx
 obtain ⟨xs, m, _, _, hl, hxl, hf⟩ := DataW.trod_struct ht hx
 obtain ⟨a, ha, hr⟩ := h m cs n (by omega) (by omega) (fun f hf' => by
  obtain ⟨i, hi, rfl⟩ := List.getElem_of_mem hf'
  have h1 := hf i fs.toList[i] (by simp at hi; simp [hi])
  have h2 : xs[i]? = some (xs[i]'(by simp at hi; omega)) := List.getElem?_eq_getElem _
  rw [h2] at h1
  exact ⟨_, h1⟩)
 exact ⟨a, ha, by omega, by simpa using hr⟩
/-- The same, told by another list of abstract values. -/
theorem zCO.conv {l l' : List AV} {cs : List Value} (h : zCO W l cs) (hl : l'.length = l.length) (he : ∀ i, i < l.length → AEq (l.getD i .any) (l'.getD i .any)) : zCO W l' cs :=
 have _p := ‹Pins›; ⟨hl.trans h.1, fun i hi => ⟨he i (by rw [h.1]; exact hi) _ _ _ _ (h.2 i hi).1, (h.2 i hi).2⟩⟩
theorem Rd.map {α β : Type} {t : TypeId} {n : Nat} {e : α → List AV} {ok : α → Prop} {e' : β → List AV} {ok' : β → Prop} (h : Rd enc P W t n e ok) (f : α → β) (hok : ∀ a, ok a → ok' (f a)) (hl : ∀ a, (e' (f a)).length = (e a).length)
 (he : ∀ a i, i < (e a).length → AEq ((e a).getD i .any) ((e' (f a)).getD i .any)) : Rd enc P W t n e' ok' := by
 intro fuel cs x hx
 obtain ⟨a, ha, h1, h2⟩ := h fuel cs x hx
 exact ⟨f a, hok a ha, h1, h2.conv (hl a) (he a)⟩
theorem zMJ (k : IntKind) (l : List Int) : AEq (.ro (rowE 0 1 (fun n : Int => [AV.int k n]) l) 0 l.length) (.ro (.ints k l) 0 l.length) := by
 refine AEq.ro Y (fun d j hd hj => ?_)
 have hj0 : j = 0 := Nat.lt_one_iff.1 hj
 subst hj0
 rfl
theorem zMK (l : List (List UInt8)) : AEq (.ro (rowE [] 1 (fun s : List UInt8 => [AV.str s]) l) 0 l.length) (.ro (.strs l) 0 l.length) := by
 refine AEq.ro Y (fun d j hd hj => ?_)
 have hj0 : j = 0 := Nat.lt_one_iff.1 hj
 subst hj0
 rfl
theorem Rd.ints {t t' : TypeId} {k : IntKind} (ht : P.underlying t = some (.slice t')) (hc : P.cellsOf t' = 1) (hk : P.underlying t' = some (.int k)) :
 Rd enc P W t 1 (fun l : List Int => [AV.ro (.ints k l) 0 l.length]) (fun l => l.length ≤ 9223372036854775807 ∧ ∀ n ∈ l, (Lit.int k n).wf = true) :=
 (Rd.slice 0 ht hc rfl (Rd.int hk)).map id (fun _ h => h) (fun _ => rfl) (fun l i hi => by
  have : i = 0 := by simpa using hi
  subst this
  exact zMJ k l)
theorem Rd.strs {t t' : TypeId} (ht : P.underlying t = some (.slice t')) (hc : P.cellsOf t' = 1) (hk : P.underlying t' = some .string) :
 Rd enc P W t 1 (fun l : List (List UInt8) => [AV.ro (.strs l) 0 l.length]) (fun l => l.length ≤ 9223372036854775807 ∧ ∀ s ∈ l, s.length ≤ 9223372036854775807) :=
 (Rd.slice [] ht hc rfl (Rd.str hk)).map id (fun _ h => h) (fun _ => rfl) (fun l i hi => by
  have : i = 0 := by simpa using hi
  subst this
  exact zMK l)
/-- An argument that is one cell. -/
theorem Rd.one {α : Type} {t : TypeId} {e : α → List AV} {ok : α → Prop} {v : Value} {d : DataW H} {p : List MemPlace} (h : Rd enc P W t 1 e ok) (hv : v.cells = #[v]) (hd : DataW.Trod enc P W 0 (fun _ => true) true t v d p) :
 ∃ a, ok a ∧ VR W (allS W) (fun _ => none) ((e a).getD 0 .any) v := by
 have _p := ‹Pins›
 obtain ⟨fuel, hx⟩ := hd
 rw [hv] at hx
 obtain ⟨a, ha, _, hr⟩ := h _ _ _ hx
 exact ⟨a, ha, (hr.2 0 Nat.zero_lt_one).1⟩
end
end Go.Ax
namespace Go.Ax
variable [Pins]
open Go.RowKit
section
variable {H : Type} {enc : TypeId × Value → H} {P : Program} {W : World}
end
end Go.Ax
namespace Go.Ax
variable [Pins]
open Go.RowKit
section
variable {P : Program} {fn : Func} {c : Ctx} {fr : Fr} {H H0 : zH} {k : List It} {M : M}
/-- Whatever order came before: one rest, over what is known then. -/
theorem zBf {all : Array Oper} {fuel : Nat} {listed : Array Bool} (L : Fr) (h1 : (∀ fr, zBS fr L → Ax P fn c (.any all fuel listed k) fr H) → Ax P fn c M fr H0) (h2 : Ax P fn c (.any all fuel listed k) L H) : Ax P fn c M fr H0 :=
 h1 (fun _ hk w a σ S hr => h2 w a σ S (hr.weaken hk))
theorem zAD {x : Code} (L : Fr) (h1 : (∀ fr, zBS fr L → Ax P fn c (.code x k) fr H) → Ax P fn c M fr H0) (h2 : Ax P fn c (.code x k) L H) : Ax P fn c M fr H0 :=
 h1 (fun _ hk w a σ S hr => h2 w a σ S (hr.weaken hk))
end
theorem zI7 {HF : zH} {fr : Fr} : ∀ {L : Fr}, zBS fr L → fzk HF fr L
 | [], _ => have _p := ‹Pins›; trivial
 | (t, v) :: r, h => ⟨⟨v, h.1, .inl rfl⟩, zI7 h.2⟩
theorem zLN (t : Nat) (v : AV) (L : Fr) : zAH t ((t, v) :: L) = some v := by
 have _p := ‹Pins›
 show (bif Nat.beq t t then some v else _) = _
 rw [Nat.beq_refl]; rfl
end Go.Ax
namespace Go.Ax
variable [Pins]
open Go.RowKit
section
variable {P : Program} {fn : Func} {c : Ctx} {fr : Fr} {H : zH} {k : List It} {ind : Bool} {d : Option Nat} {ty : TypeId} {pos : String} {after : Array Edge} {g : Option (Nat × Bool)}
/-- An error against nil. -/
def nilIf : AV → Option Bool
 | .iface => some false
 | .nilif => some true
 | _ => none
theorem zJn {w : World} {S : Nat → Prop} {σ : Nat → Option Blk} {v : AV} {z : Value} {b : Bool} (h : VR w S σ v z) (hv : nilIf v = some b) : (b = true ∧ z = .nilIface) ∨ (b = false ∧ ∃ t x, z = .iface t x) := by
 have _p := ‹Pins›
 cases h <;> simp [nilIf] at hv <;> subst hv
 ·exact .inr ⟨Y, _, _, Y⟩
 ·exact .inl ⟨Y, Y⟩
theorem run_eqIf {P : Program} {t : TypeId} {ms : Array (String × TypeId)} (ht : P.underlying t = some (.interface ms)) {w : World} {z : Value} {b : Bool} (h : (b = true ∧ z = .nilIface) ∨ (b = false ∧ ∃ t x, z = .iface t x)) (d : Nat) : (Op.equalIn (d + 1) t z .nilIface).run P w = .ok b w := by
 have _p := ‹Pins›
 rcases h with ⟨rfl, rfl⟩ | ⟨rfl, u, x, rfl⟩
 ·simp [Op.equalIn, run_underlying ht]
 ·simp [Op.equalIn, run_underlying ht]
theorem zJd {P : Program} {t : TypeId} {x : Operand} {z : Value} {w : World} : (eqGuard .eql t x (.const .nilIface) z .nilIface).run P w = .ok () w ∧ (eqGuard .neq t x (.const .nilIface) z .nilIface).run P w = .ok () w := by
 have _p := ‹Pins›
 cases z <;> simp [eqGuard]
theorem zF2 {x : Operand} {t t' : TypeId} {ms : Array (String × TypeId)} {v : AV} {b : Bool} (ht : P.underlying t = some (.interface ms)) (hx : ev fr x = some v) (hv : nilIf v = some b) : QOp ind P fn c fr H ⟨d, .binOp .eql t x (.const .nilIface) t', ty, pos, after, g⟩ (.bool b) := by
 intro w a σ S hr
 have h1 := hr.evAt hx
 generalize hz : a.eval x = z at h1
 have hn : a.eval (.const .nilIface) = .nilIface := rfl
 refine ⟨_, .bool _ _, fun w' _ => ?_⟩
 have hb : (binOp .eql t z .nilIface).run P w' = .ok (.bool b) w' := by
  have := run_eqIf ht (w := w') (zJn h1 hv) 9999
  rcases zJn h1 hv with ⟨rfl, rfl⟩ | ⟨rfl, u, q, rfl⟩
  ·simp only [binOp]; simp [Op.equal, Op.maxDepth, this]
  ·simp only [binOp]; simp [Op.equal, Op.maxDepth, this]
 simp only [execOp, hz, hn, Sem.run_bind, zJd.1, Result.andThen_ok, hb]
 rfl
end
end Go.Ax
namespace Go.Ax
variable [Pins]
open Go.RowKit
/-- A kind without sign holds the numbers below M. -/
def UK (k : IntKind) (M : Nat) : Prop := ∀ n : Int, k.wrap n = n % (M : Int)
theorem zAQ : UK .u64 18446744073709551616 := have _p := ‹Pins›; fun n => IntKind.wrap_u64 n
theorem zC5 : UK .u32 4294967296 := have _p := ‹Pins›; fun n => IntKind.wrap_u32 n
theorem UK.in {k : IntKind} {M : Nat} (h : UK k M) {m : Nat} (hm : m < M) : k.wrap (m : Int) = (m : Int) := by have _p := ‹Pins›; rw [h]; exact Int.emod_eq_of_lt (by omega) (by omega)
theorem UK.low {k : IntKind} {M : Nat} (h : UK k M) (m : Nat) : k.wrap (m : Int) = ((m % M : Nat) : Int) := by have _p := ‹Pins›; rw [h]; simp
section
variable {P : Program} {fn : Func} {c : Ctx} {fr : Fr} {H : zH} {k : List It} {ind : Bool} {d : Option Nat} {ty : TypeId} {pos : String} {after : Array Edge} {g : Option (Nat × Bool)}
/-- What it yields, told otherwise. -/
theorem QOp.res {o : Oper} {v v' : AV} (h : QOp ind P fn c fr H o v) (e : v = v') : QOp ind P fn c fr H o v' := e ▸ h
theorem zp {x : Operand} {src dst : TypeId} {kk k' : IntKind} {u : TypeDesc} {m M : Nat} (hs : P.underlying src = some u) (hd : P.underlying dst = some (.int k')) (hx : ev fr x = some (.int kk (m : Nat))) (hk : UK k' M) (hm : m < M) :
 QOp ind P fn c fr H ⟨d, .convert src dst x, ty, pos, after, g⟩ (.int k' (m : Nat)) := (zKX hs hd hx).res (congrArg (AV.int k') (hk.in hm))
theorem zDr {x : Operand} {src dst : TypeId} {kk k' : IntKind} {u : TypeDesc} {m M : Nat} (hs : P.underlying src = some u) (hd : P.underlying dst = some (.int k')) (hx : ev fr x = some (.int kk (m : Nat))) (hk : UK k' M) :
 QOp ind P fn c fr H ⟨d, .convert src dst x, ty, pos, after, g⟩ (.int k' (m % M : Nat)) := (zKX hs hd hx).res (congrArg (AV.int k') (hk.low m))
theorem zDs {x y : Operand} {t t' : TypeId} {k k' : IntKind} {m s : Nat} (hx : ev fr x = some (.int k (m : Nat))) (hy : ev fr y = some (.int k' (s : Nat))) (hb : Nat.ble s k.bits = true) :
 QOp ind P fn c fr H ⟨d, .binOp .shr t x y t', ty, pos, after, g⟩ (.int k (m / 2 ^ s : Nat)) := by
 refine (q_shr hx hy (by omega)).res (congrArg (AV.int k) ?_)
 have hs : s ≤ k.bits := Nat.le_of_ble_eq_true hb
 unfold shrB
 rw [Int.toNat_natCast, Nat.min_eq_left hs, Int.fdiv_eq_ediv_of_nonneg _ (Int.pow_nonneg (by decide))]
 simp
theorem zHA {x y : Operand} {t t' : TypeId} {k k' : IntKind} {m s M : Nat} (hx : ev fr x = some (.int k (m : Nat))) (hy : ev fr y = some (.int k' (s : Nat))) (hb : s ≤ k.bits) (hk : UK k M) (hm : m * 2 ^ s < M) :
 QOp ind P fn c fr H ⟨d, .binOp .shl t x y t', ty, pos, after, g⟩ (.int k (m * 2 ^ s : Nat)) := by
 refine (q_shl hx hy (by omega)).res (congrArg (AV.int k) ?_)
 unfold shlB
 rw [Int.toNat_natCast, Nat.min_eq_left hb]
 have : ((m : Int) * 2 ^ s) = ((m * 2 ^ s : Nat) : Int) := by simp
 rw [this]; exact hk.in hm
theorem bvu {k : IntKind} {M : Nat} (hk : UK k M) (hM : M = 2 ^ k.bits) {m : Nat} (hm : m < M) : (BitVec.ofInt k.bits (m : Int)).toNat = m := by
 have _p := ‹Pins›
 subst hM
 simp [BitVec.toNat_ofInt, Nat.mod_eq_of_lt hm]
theorem zJb {x y : Operand} {t t' : TypeId} {k : IntKind} {m n M : Nat} (hx : ev fr x = some (.int k (m : Nat))) (hy : ev fr y = some (.int k (n : Nat))) (hk : UK k M) (hM : M = 2 ^ k.bits) (hm : m < M) (hn : n < M) :
 QOp ind P fn c fr H ⟨d, .binOp .or t x y t', ty, pos, after, g⟩ (.int k (m ||| n : Nat)) := by
 refine (q_or hx hy).res (congrArg (AV.int k) ?_)
 unfold orB
 rw [BitVec.toNat_or, bvu hk hM hm, bvu hk hM hn]
 exact hk.in (by subst hM; exact Nat.or_lt_two_pow hm hn)
theorem q_uand {x y : Operand} {t t' : TypeId} {k : IntKind} {m n M : Nat} (hx : ev fr x = some (.int k (m : Nat))) (hy : ev fr y = some (.int k (n : Nat))) (hk : UK k M) (hM : M = 2 ^ k.bits) (hm : m < M) (hn : n < M) :
 QOp ind P fn c fr H ⟨d, .binOp .and t x y t', ty, pos, after, g⟩ (.int k (m &&& n : Nat)) := by
 refine (q_and hx hy).res (congrArg (AV.int k) ?_)
 unfold andB
 rw [BitVec.toNat_and, bvu hk hM hm, bvu hk hM hn]
 exact hk.in (by subst hM; exact Nat.and_lt_two_pow m hn)
theorem zDL {x y : Operand} {t t' : TypeId} {k : IntKind} {m n M : Nat} (hx : ev fr x = some (.int k (m : Nat))) (hy : ev fr y = some (.int k (n : Nat))) (hk : UK k M) (hm : m + n < M) :
 QOp ind P fn c fr H ⟨d, .binOp .add t x y t', ty, pos, after, g⟩ (.int k (m + n : Nat)) := by
 refine (zIf hx hy Y).res (congrArg (AV.int k) ?_)
 have : (m : Int) + (n : Int) = ((m + n : Nat) : Int) := by simp
 rw [this]; exact hk.in hm
theorem zF3 {x y : Operand} {t t' : TypeId} {k : IntKind} {m n M : Nat} (hx : ev fr x = some (.int k (m : Nat))) (hy : ev fr y = some (.int k (n : Nat))) (hk : UK k M) (hm : m * n < M) :
 QOp ind P fn c fr H ⟨d, .binOp .mul t x y t', ty, pos, after, g⟩ (.int k (m * n : Nat)) := by
 refine (zIf hx hy Y).res (congrArg (AV.int k) ?_)
 have : (m : Int) * (n : Int) = ((m * n : Nat) : Int) := by simp
 rw [this]; exact hk.in hm
theorem zKd {x y : Operand} {t t' : TypeId} {k : IntKind} {m n M : Nat} (hx : ev fr x = some (.int k (m : Nat))) (hy : ev fr y = some (.int k (n : Nat))) (hk : UK k M) (hm : m < M) (hn : n ≤ m) :
 QOp ind P fn c fr H ⟨d, .binOp .sub t x y t', ty, pos, after, g⟩ (.int k (m - n : Nat)) := by
 refine (zIf hx hy Y).res (congrArg (AV.int k) ?_)
 have : (m : Int) - (n : Int) = ((m - n : Nat) : Int) := by omega
 rw [this]; exact hk.in (by omega)
theorem q_urem {x y : Operand} {t t' : TypeId} {k : IntKind} {m n : Nat} (hx : ev fr x = some (.int k (m : Nat))) (hy : ev fr y = some (.int k (n : Nat))) (hn : 0 < n) :
 QOp ind P fn c fr H ⟨d, .binOp .rem t x y t', ty, pos, after, g⟩ (.int k (m % n : Nat)) :=
 (q_rem hx hy ⟨by omega, by omega⟩).res (congrArg (AV.int k) (by simp))
theorem q_uquo {x y : Operand} {t t' : TypeId} {k : IntKind} {m n M : Nat} (hx : ev fr x = some (.int k (m : Nat))) (hy : ev fr y = some (.int k (n : Nat))) (hk : UK k M) (hm : m < M) (hn : 0 < n) :
 QOp ind P fn c fr H ⟨d, .binOp .quo t x y t', ty, pos, after, g⟩ (.int k (m / n : Nat)) := by
 refine (q_quok hx hy (by omega)).res (congrArg (AV.int k) ?_)
 have : (m : Int).tdiv (n : Int) = ((m / n : Nat) : Int) := by simp
 rw [this]; exact hk.in (Nat.lt_of_le_of_lt (Nat.div_le_self _ _) hm)
end
end Go.Ax
namespace Go.Ax
variable [Pins]
open Go.RowKit
theorem zFg {P : Program} (w : World) (t u ty e : TypeId) (inf : TypeInfo) (ht : P.underlying t = some (.slice e)) (hu : P.underlying u = some .string) (hi : P.info? e = some inf) (hs1 : inf.size = 1) (g n cap : Nat) (cur : Array Value) {mk : Nat × Nat} (hg : w.heap[g]? = some (.cells cur e mk)) (hm : mk.2 ≤ mk.1 ∨ cur.size ≤ mk.1)
 (s : ByteArray) (hroom : n + s.size ≤ cap) (hfit : n + s.size ≤ cur.size) :
 (Builtin.append_ #[t, u] ty #[.slice (some ⟨g, 0, none⟩) n cap, .string s]).run P w =
  .ok (.slice (some ⟨g, 0, none⟩) (n + s.size) cap) (w.setRow g (cur.toList.take n ++ Lib.strCells s ++ cur.toList.drop (n + s.size)).toArray) := by
 have _p := ‹Pins›
 have hf := Lib.run_firstCells_string (P := P) w 1 s
 have hst := zBG P g n e mk (Lib.strCells s) 0 cur w hg hm (by simpa [Lib.strCells_length] using hfit) (Lib.strCells_oneCell s)
 simp only [Nat.add_zero, Lib.strCells_length] at hst
 simp [Builtin.append_, run_underlying ht, run_underlying hu, sizeOf, typeInfo, hi, hs1, Builtin.lenOf, hroom, hf, Addr.add_lit, hst]
section
variable {P : Program} {fn : Func} {c : Ctx} {fr : Fr} {H : zH} {k : List It}
/-- x = append(x, y...): x an object of one's own. -/
theorem zHR {all : Array Oper} {d : Nat} {t u e : TypeId} {x y : Operand} {ty : TypeId} {pos : String} {after : Array Edge} {rest : List Oper} {inf : TypeInfo} {z : Value} {h n : Nat} {o : AObj} {s : List UInt8} {c' : Cells}
 (ht : P.underlying t = some (.slice e)) (hi : P.info? e = some inf) (hz : inf.zero = some z) (hszz : inf.size = o.c.sz) (hzs : z.cells.size = o.c.sz) (hpos : Nat.blt 0 o.c.sz = true)
 (hx : ev fr x = some (.sl h 0 n)) (hh : H[h]? = some (some o)) (hoty : o.ty = e) (hn : o.c.len = n) (hy : ev fr y = some (.str s)) (hu : P.underlying u = some .string) (hsz1 : o.c.sz = 1) (p1 : c'.sz = o.c.sz) (p3 : c'.len = o.c.len + s.length) (p4 : ∀ i' j, i' < o.c.len → j < o.c.sz → c'.at i' j = o.c.at i' j) (p5 : ∀ d j, d < s.length → j < o.c.sz → c'.at (o.c.len + d) j = .int .u8 ((s.getD d 0).toNat : Nat))
 (hb : (n + s.length) * inf.bytes ≤ 140737488355328 ∧ n + s.length ≤ 9223372036854775807) (hnr : ∀ i j, i < c'.len → j < c'.sz → (c'.at i j).forget h = c'.at i j) (hfix : ¬ c.fix h)
 (hk : Ax P fn c (.ops false all rest k) ((d, .sl h 0 (n + s.length)) :: zBO h fr) ((zAe h H).set h (some ⟨e, c'⟩))) : Ax P fn c (.ops false all (⟨some d, .call { callee := .builtin .append, args := #[x, y], argTypes := #[t, u] }, ty, pos, after, none⟩ :: rest) k) fr H := by
 refine ax_w (fun w a σ S hr => ?_) hk
 subst hoty
 have hpos' : 0 < o.c.sz := Nat.le_of_ble_eq_true hpos
 have h1 := hr.evAt hx
 have h2 := hr.evAt hy
 have hexec : ∀ r w', (Builtin.append_ #[t, u] ty #[a.eval x, a.eval y]).run P w = .ok r w' → (execOp a.eval ⟨some d, .call { callee := .builtin .append, args := #[x, y], argTypes := #[t, u] }, ty, pos, after, none⟩).run P w = .ok (.value r) w' := by
  intro r w' h
  simp [execOp, resolve, invoke, builtin, h]
 generalize hzx : a.eval x = vx at h1 hexec
 generalize hzy : a.eval y = vy at h2 hexec
 cases h2
 obtain ⟨m, hm⟩ : ∃ m, s.length = m := ⟨_, rfl⟩
 have hsz : (⟨s.toArray⟩ : ByteArray).size = m := by rw [← hm]; simp [ByteArray.size]
 obtain ⟨news, hnews⟩ : ∃ news, Lib.strCells ⟨s.toArray⟩ = news := ⟨_, rfl⟩
 have q1 : news.length = m * o.c.sz := by rw [hsz1, ← hnews, Lib.strCells_length, hsz, Nat.mul_one]
 have q3 : ∀ u ∈ news, u.oneCell' = true := by rw [← hnews]; exact Lib.strCells_oneCell _
 have q4 : ∀ d j, d < m → j < o.c.sz → ∃ v, news[d * o.c.sz + j]? = some v ∧ VR w S σ (.int .u8 ((s.getD d 0).toNat : Nat)) v := by
  intro d j hd hj
  rw [hsz1] at hj ⊢
  obtain rfl : j = 0 := by omega
  refine ⟨.int .u8 ((s.getD d 0).toNat : Nat), ?_, .int _ _ _⟩
  rw [← hnews]
  simp [Lib.strCells, List.getD, show d < s.length by omega]
 rw [hm] at p3 p5 hb ⊢
 -- what the old cells and the new ones give
 cases h1 with
 | sl _ _ _ _ b s C cap hσ hlen hcap =>
  subst hn
  obtain ⟨hs', cur, g1, g2, g3, g4, g5, g6⟩ := hr.obj hh hσ
  subst hs'
  have hcapC : cap = C := by omega
  subst hcapC
  obtain ⟨mk, g1, hmk, g3⟩ := g1.cells (by omega)
  have holds : ∀ i' j, i' < o.c.len → j < o.c.sz → ∃ u, (cur.toList.take (o.c.len * o.c.sz))[i' * o.c.sz + j]? = some u ∧ VR w S σ (c'.at i' j) u ∧ u.oneCell' = true := by
   intro i' j hi' hj
   obtain ⟨u, e1, e2, e3⟩ := g6 i' j hi' hj
   have hlt : i' * o.c.sz + j < o.c.len * o.c.sz := by
    have : (i' + 1) * o.c.sz ≤ o.c.len * o.c.sz := Nat.mul_le_mul_right _ (by omega)
    rw [Nat.add_mul] at this; omega
   refine ⟨u, ?_, by rw [p4 i' j hi' hj]; exact e2, e3⟩
   rw [List.getElem?_take, if_pos hlt]
   simpa using e1
  have hnle : o.c.len * o.c.sz ≤ cur.size := by rw [g2]; exact Nat.mul_le_mul_right _ hlen
  ·by_cases hroom : o.c.len + m ≤ cap
   ·have hfit : o.c.len * o.c.sz + news.length ≤ cur.size := by rw [q1, g2, ← Nat.add_mul]; exact Nat.mul_le_mul_right _ hroom
    have hrun := zFg (P := P) w t u ty o.ty inf ht hu hi (by rw [hszz, hsz1]) b o.c.len cap cur g1 hmk ⟨s.toArray⟩ (by rw [hsz]; exact hroom) (by rw [hsz]; rw [q1, hsz1] at hfit; omega)
    rw [hsz, hnews, show cur.toList.take o.c.len = cur.toList.take (o.c.len * o.c.sz) by rw [hsz1, Nat.mul_one], show cur.toList.drop (o.c.len + m) = cur.toList.drop (o.c.len * o.c.sz + news.length) by rw [q1, hsz1, Nat.mul_one, Nat.mul_one]] at hrun
    have hL : (cur.toList.take (o.c.len * o.c.sz)).length = o.c.len * o.c.sz := by simp; omega
    refine ⟨_, _, _, S, hexec _ _ (by simpa [zD2] using hrun), hr.movedM (w' := w.setRow b (cur.toList.take (o.c.len * o.c.sz) ++ news ++ cur.toList.drop (o.c.len * o.c.sz + news.length)).toArray) (c' := c') (C := cap) hh Y Y Y (by simp) p1 (fun b' _ hb' => setRow_other w b b' _ hb') (setRow_heap w b cur _ _ _ g1) ?_ g3 (by omega) (.inr hσ) (.inr hσ) (fun i' j hi' hj => ?_) hnr ?_, ?_⟩
    ·rw [p1, ← g2]; simp; omega
    ·rw [p3] at hi'
     rw [p1] at hj ⊢
     by_cases hlo : i' < o.c.len
     ·obtain ⟨u, e1, e2, e3⟩ := holds i' j hlo hj
      refine ⟨u, ?_, e2, e3⟩
      have hlt : i' * o.c.sz + j < o.c.len * o.c.sz := by
       have : (i' + 1) * o.c.sz ≤ o.c.len * o.c.sz := Nat.mul_le_mul_right _ (by omega)
       rw [Nat.add_mul] at this; omega
      simp only [List.getElem?_toArray, List.append_assoc]
      rw [List.getElem?_append_left (by omega)]
      exact e1
     ·obtain ⟨u, e1, e2⟩ := q4 (i' - o.c.len) j (by omega) hj
      refine ⟨u, ?_, ?_, q3 u (List.mem_of_getElem? e1)⟩
      ·have hidx : i' * o.c.sz + j = o.c.len * o.c.sz + ((i' - o.c.len) * o.c.sz + j) := by
        rw [← Nat.add_assoc, ← Nat.add_mul]; congr 2; omega
       have hlt : (i' - o.c.len) * o.c.sz + j < news.length := (List.getElem?_eq_some_iff.1 e1).1
       simp only [List.getElem?_toArray, List.append_assoc]
       rw [hidx, List.getElem?_append_right (by omega), hL, Nat.add_sub_cancel_left, List.getElem?_append_left hlt]
       exact e1
      ·have := p5 (i' - o.c.len) j (by omega) hj
       rw [show o.c.len + (i' - o.c.len) = i' by omega] at this
       rw [this]; exact e2
    ·have hsz : (cur.toList.take (o.c.len * o.c.sz) ++ news ++ cur.toList.drop (o.c.len * o.c.sz + news.length)).toArray.size = cur.size := by simp; omega
     rw [hsz]; exact hmk
    ·have := VR.sl (w := w.setRow b (cur.toList.take (o.c.len * o.c.sz) ++ news ++ cur.toList.drop (o.c.len * o.c.sz + news.length)).toArray) (S := S) (upσ σ h (.at b c'.sz cap)) h 0 (o.c.len + m) b c'.sz cap cap (by simp [upσ]) hroom (by omega)
     simpa using this
   ·have hxs : (cur.toList.take (o.c.len * o.c.sz)).length = o.c.len * inf.size := by rw [hszz]; simp; omega
    have hrun := Lib.run_append_grow_string (P := P) w t u ty o.ty inf z ht hu hi hz ⟨b, 0, none⟩ o.c.len cap (cur.toList.take (o.c.len * o.c.sz)) hxs (fun j u hu => ?_) ⟨s.toArray⟩ (by omega) (by omega) (by rw [hsz]; exact growslice_fits (by omega) hb.1)
    rotate_left
    ·rw [List.getElem?_take] at hu
     split at hu
     ·simp [World.cell?, Addr.add_lit, g1]; simpa using hu
     ·cases hu
    rw [hsz, hnews] at hrun
    have hge := grownCap_ge w (o.c.len + m) cap o.ty
    have hle := grownCap_le_maxLen w (o.c.len + m) cap o.ty (by unfold maxLen; omega)
    generalize grownCap w (o.c.len + m) cap o.ty = G at hrun hge hle
    generalize hxx : cur.toList.take (o.c.len * o.c.sz) = xs at hrun holds hxs
    rw [hszz] at hxs
    refine ⟨_, w.drew.alloc (.cells (xs.toArray ++ news.toArray ++ Builtin.zeroCells z.cells (G - (o.c.len + m))) o.ty), _, S, hexec _ _ (by rw [Nat.zero_mul]; exact hrun), Rep.moved (w := w) (c' := c') (C := G) (b := w.heap.size) (cur := xs.toArray ++ news.toArray ++ Builtin.zeroCells z.cells (G - (o.c.len + m))) hr hh Y Y Y (by simp) p1 (fun b' hb' _ => Below.heap_alloc w.drew (.cells (xs.toArray ++ news.toArray ++ Builtin.zeroCells z.cells (G - (o.c.len + m))) o.ty) b' hb') (heap_alloc_new w.drew _) ?_ hle (by omega) (.inl (Nat.le_refl _)) (.inl hfix) (fun i' j hi' hj => ?_) hnr, ?_⟩
    ·simp only [Array.size_append, List.size_toArray, size_zeroCells, hxs, q1, hzs, p1, ← Nat.add_mul]
     congr 1; omega
    ·rw [p3] at hi'
     rw [p1] at hj ⊢
     by_cases hlo : i' < o.c.len
     ·obtain ⟨u, e1, e2, e3⟩ := holds i' j hlo hj
      refine ⟨u, ?_, e2, e3⟩
      have hlt := (List.getElem?_eq_some_iff.1 e1).1
      rw [Array.append_assoc, Array.getElem?_append_left (by simpa using hlt)]
      simpa using e1
     ·obtain ⟨u, e1, e2⟩ := q4 (i' - o.c.len) j (by omega) hj
      refine ⟨u, ?_, ?_, q3 u (List.mem_of_getElem? e1)⟩
      ·have hidx : i' * o.c.sz + j = o.c.len * o.c.sz + ((i' - o.c.len) * o.c.sz + j) := by
        rw [← Nat.add_assoc, ← Nat.add_mul]; congr 2; omega
       have hlt : (i' - o.c.len) * o.c.sz + j < news.length := (List.getElem?_eq_some_iff.1 e1).1
       rw [Array.append_assoc, hidx, Array.getElem?_append_right (by simp [hxs]), Array.getElem?_append_left (by simp [hxs]; exact hlt)]
       simp [hxs]
       exact e1
      ·have := p5 (i' - o.c.len) j (by omega) hj
       rw [show o.c.len + (i' - o.c.len) = i' by omega] at this
       rw [this]; exact e2
    ·have := VR.sl (w := w.drew.alloc (.cells (xs.toArray ++ news.toArray ++ Builtin.zeroCells z.cells (G - (o.c.len + m))) o.ty)) (S := S) (upσ σ h (.at w.heap.size c'.sz G)) h 0 (o.c.len + m) w.heap.size c'.sz G G (by simp [upσ]) hge (by omega)
     simpa using this
 | sl0 _ _ hσ =>
  have hl0 : o.c.len = 0 := hn
  ·by_cases hm0 : m = 0
   ·subst hm0
    have hrun : (Builtin.append_ #[t, u] ty #[.slice none 0 0, .string ⟨s.toArray⟩]).run P w = .ok (.slice none 0 0) w := by
     have hs0 : s = [] := List.length_eq_zero_iff.1 hm
     subst hs0
     simp [Builtin.append_, run_underlying ht, run_underlying hu, sizeOf, typeInfo, hi, Builtin.lenOf, Builtin.firstCells, ByteArray.size]
    refine ⟨_, w, σ, S, hexec _ _ hrun, hr.nowhere hh hσ p1 (by omega), ?_⟩
    exact .sl0 _ _ hσ
   ·have hrun := run_append_nil_string (P := P) w t u ty o.ty inf z ht hu hi hz ⟨s.toArray⟩ (by omega) (by omega) (by
     rw [hsz]
     have hb1 := hb.1
     rw [Nat.zero_add] at hb1
     omega)
    rw [hsz, show ((⟨s.toArray⟩ : ByteArray).data.map (fun b => Value.int .u8 b.toNat)) = news.toArray by rw [← hnews]; simp [Lib.strCells]] at hrun
    have hge := grownCap_ge w m 0 o.ty
    have hle := grownCap_le_maxLen w m 0 o.ty (by unfold maxLen; omega)
    generalize grownCap w m 0 o.ty = G at hrun hge hle
    refine ⟨_, w.drew.alloc (.cells (news.toArray ++ Builtin.zeroCells z.cells (G - m)) o.ty), _, S, hexec _ _ hrun, Rep.moved (w := w) (c' := c') (C := G) (b := w.heap.size) (cur := news.toArray ++ Builtin.zeroCells z.cells (G - m)) hr hh Y Y Y (by simp) p1 (fun b' hb' _ => Below.heap_alloc w.drew (.cells (news.toArray ++ Builtin.zeroCells z.cells (G - m)) o.ty) b' hb') (heap_alloc_new w.drew _) ?_ hle (by omega) (.inl (Nat.le_refl _)) (.inl hfix) (fun i' j hi' hj => ?_) hnr, ?_⟩
    ·simp only [Array.size_append, List.size_toArray, size_zeroCells, q1, hzs, p1, ← Nat.add_mul]
     congr 1; omega
    ·rw [p3] at hi'
     rw [p1] at hj ⊢
     obtain ⟨u, e1, e2⟩ := q4 i' j (by omega) hj
     refine ⟨u, ?_, ?_, q3 u (List.mem_of_getElem? e1)⟩
     ·have hlt := (List.getElem?_eq_some_iff.1 e1).1
      rw [Array.getElem?_append_left (by simpa using hlt)]
      simpa using e1
     ·have := p5 i' j (by omega) hj
      rw [show o.c.len + i' = i' by omega] at this
      rw [this]; exact e2
    ·have := VR.sl (w := w.drew.alloc (.cells (news.toArray ++ Builtin.zeroCells z.cells (G - m)) o.ty)) (S := S) (upσ σ h (.at w.heap.size c'.sz G)) h 0 m w.heap.size c'.sz G G (by simp [upσ]) hge (by omega)
     simpa [hl0] using this
end
end Go.Ax
namespace Go.Ax
variable [Pins]
open Go.RowKit
section
variable {P : Program} {fn : Func} {c : Ctx} {fr : Fr} {H : zH} {k : List It}
/-- A call that may move one object. -/
theorem Rep.calledM {w w' : World} {a : Act} {σ σ' : Nat → Option Blk} {S S' : Nat → Prop} {n m : Nat} {H' : zH} {fix : Nat → Prop} {K : AV → zH → Prop} (hr : Rep c w a σ S n fr H) (hall : ∀ h, h < H.length → h ≠ m → fix h) (hcm : ¬ c.fix m) (hhr : HR w' S' σ' H') {hp : zC9 w S σ H} (hlen : H.length ≤ H'.length) (hkp : Kp (zCL w S σ H fix K hp) w' S' σ' H') :
 Rep c w' a σ' S' n (zBO m fr) H' := by
 have hne : ∀ h, h ≠ m → ∀ B, σ h = some B → σ' h = some B := by
  intro h hm B hB
  have hlt : h < H.length := by
   rcases Nat.lt_or_ge h H.length with hl | hl
   ·exact hl
   ·rw [hr.hr.dom h hl] at hB; cases hB
  rw [hkp.fixed h (hall h hlt hm)]; exact hB
 have hSO : ∀ b, S b → ¬ zDx σ H b := by
  rintro b hs ⟨h, o, s, C, h1, h2⟩
  exact (hr.obj h1 h2).2.choose_spec.2.2.2.2.1 hs
 have hS : ∀ b, S b → w'.heap[b]? = w.heap[b]? := fun b hs => hkp.block b (hr.hr.small b hs) (hSO b hs)
 refine ⟨hhr, ?_, hr.defers, hr.size, fun t v hl => ?_⟩
 ·refine ⟨hkp.os.trans hr.kp.os, hkp.output.trans hr.kp.output, hkp.tape.trans hr.kp.tape, Nat.le_trans hr.kp.size hkp.size, fun b hb ho => ?_, fun b hb => hkp.S1 b (hr.kp.S1 b hb), fun b hb => ?_, fun h hf => ?_, fun h hf => Nat.lt_of_lt_of_le (hr.kp.fixlt h hf) hlen, fun h o b s C h1 h2 => ?_⟩
  ·rw [← hr.kp.block b hb ho]
   have hs1 := hr.kp.size
   refine hkp.block b (by simp only [zCL]; omega) ?_
   rintro ⟨h, o, s, C, h1, h2⟩
   rcases hr.kp.own h o b s C h1 h2 with h3 | h3
   ·exact ho h3
   ·omega
  ·rcases hkp.S2 b hb with h1 | h1 | h1
   ·exact hr.kp.S2 b h1
   ·obtain ⟨h, o, s, C, g1, g2⟩ := h1
    rcases hr.kp.own h o b s C g1 g2 with g3 | g3
    ·exact .inr (.inl g3)
    ·exact .inr (.inr g3)
   ·right; right; have := hr.kp.size; simp only [zCL] at h1; omega
  ·have hm : h ≠ m := fun e => hcm (e ▸ hf)
   rw [hkp.fixed h (hall h (hr.kp.fixlt h hf) hm)]
   exact hr.kp.fixed h hf
  ·rcases hkp.own h o b s C h1 h2 with ⟨h', o', s', C', g1, g2⟩ | h3
   ·exact hr.kp.own h' o' b s' C' g1 g2
   ·right; have := hr.kp.size; simp only [zCL] at h3; omega
 ·rw [zCZ] at hl
  cases hq : zAH t fr with
  | none => simp [hq] at hl
  | some v0 =>
   simp [hq] at hl
   subst hl
   obtain ⟨s1, s2⟩ := hr.slots t v0 hq
   refine ⟨s1, ?_⟩
   have s3 := s2.forget (h := m) (fun h => if h = m then σ' m else σ h) (fun h' hh => by simp [hh])
   exact s3.mono hkp.S1 hS _ (fun h B hB => by
    by_cases hh : h = m
    ·subst hh; simpa using hB
    ·simp only [hh, if_false] at hB; exact hne h hh B hB)
theorem ax_callm {all : Array Oper} {d : Option Nat} {g : Operand} {args : List Operand} {ats : Array TypeId} {ty : TypeId} {pos : String} {after : Array Edge} {rest : List Oper} {f : FuncId} {caps ags ags' : List AV} {fix : Nat → Prop} {K : AV → zH → Prop} (m : Nat)
 (hg : ev fr g = some (.fn f caps)) (ha : evs fr args = some ags) (has : ags ++ caps = ags') (hcall : zK P f ags' H fix K) (hall : ∀ h, h < H.length → h ≠ m → fix h) (hfl : ∀ h, fix h → h < H.length) (hcm : ¬ c.fix m)
 (hk : ∀ r H', K r H' → H.length ≤ H'.length ∧ Ax P fn c (.ops false all rest k) (match d with | some d => (d, r) :: zBO m fr | none => zBO m fr) H') : Ax P fn c (.ops false all (⟨d, .call { callee := .value g, args := args.toArray, argTypes := ats }, ty, pos, after, none⟩ :: rest) k) fr H := by
 intro hd w a σ S hr
 obtain ⟨hd1, hd2⟩ := zAw hd
 obtain ⟨⟨gfn, hgf, hgn, hgb⟩, hc⟩ := hcall
 subst has
 have h1 := hr.evAt hg
 obtain ⟨e1, e2⟩ := zEE hr args ags ha
 generalize hz : a.eval g = z at h1
 refine wpList_step (fun K' hK' => ?_)
 simp only [Region.wanted, if_true]
 unfold Oper.wp
 cases h1 with
 | fn _ _ _ vs hl hv =>
  have hrun : (execOp a.eval ⟨d, .call { callee := .value g, args := args.toArray, argTypes := ats }, ty, pos, after, none⟩).run P w = .ok (.enter f ((args.map a.eval).toArray ++ vs)) w := by
   simp only [execOp, resolve, hz, Deferred.ofValue, Sem.run_bind, Sem.run_pure, Result.andThen_ok, invoke, callFunc, List.map_toArray, Array.empty_append, program, Sem.run, hgf]
   simp [hgn, hgb]
  rw [hrun]
  have hargs : VRs w S σ (ags ++ caps) ((args.map a.eval).toArray ++ vs) := by
   refine ⟨by simp [e1, hl], fun i hi => ?_⟩
   simp only [List.length_append] at hi
   by_cases hlt : i < ags.length
   ·have := e2 i hlt
    have hlt' : i < args.length := by omega
    have ea : (ags ++ caps).getD i .any = ags.getD i .any := by simp [List.getD, List.getElem?_append, hlt]
    have eb : ((args.map a.eval).toArray ++ vs).getD i undef = (args.map a.eval).getD i undef := by simp [Array.getElem?_append, hlt', List.getD]
    rw [ea, eb]; exact this
   ·have := hv (i - ags.length) (by omega)
    have hnl : ¬ i < args.length := by omega
    have ea : (ags ++ caps).getD i .any = caps.getD (i - ags.length) .any := by simp [List.getD, List.getElem?_append, hlt]
    have eb : ((args.map a.eval).toArray ++ vs).getD i undef = vs.getD (i - ags.length) undef := by simp [Array.getElem?_append, e1, hlt]
    rw [ea, eb]; exact this
  refine Calls.mono (hc w σ S _ hr.pinUp hr.hr hfl hargs) ?_
  rintro e w' ⟨v, r, σ', S', H', rfl, g1, g2, g3, g4⟩
  obtain ⟨hlen, hk2⟩ := hk r H' g4
  have hrep := hr.calledM hall hcm g1 hlen g3
  refine hK' _ _ ?_
  cases d with
  | none => exact hk2 hd2 w' _ σ' S' hrep
  | some d => exact hk2 hd2 w' _ σ' S' (hrep.put g2 (hd1 d rfl))
end
end Go.Ax
namespace Go.Ax
variable [Pins]
open Go.RowKit
theorem zKJ {P : Program} {e : TypeId} {s : Nat} (hc : P.cellsOf e = s) (hs : 0 < s) (count : Nat) (hn : 1 ≤ count) : liesAt P P.depth e count 0 e 1 = true := by
 have _p := ‹Pins›
 have hd : P.depth = (2 * (P.types.size + Made.depth) + 1) + 1 := rfl
 rw [hd]
 simp only [liesAt, Bool.or_eq_true]
 left
 rw [hd]
 have : ¬ s = 0 := by omega
 simp [rowAt, hc, hn, sameLayout, this]
section
variable {ind : Bool} {P : Program} {fn : Func} {c : Ctx} {fr : Fr} {H : zH} {k : List It} {d : Option Nat} {ty : TypeId} {pos : String} {after : Array Edge} {g : Option (Nat × Bool)}
theorem Rep.shape {w : World} {a : Act} {σ : Nat → Option Blk} {S : Nat → Prop} {n : Nat} (hr : Rep c w a σ S n fr H) {h b s C : Nat} {o : AObj} (hh : H[h]? = some (some o)) (hσ : σ h = some (.at b s C)) (hz : o.c.sz ≠ 0) : w.shape? b = some (o.ty, C * o.c.sz) := by
 obtain ⟨hs, cur, g1, g2, _⟩ := hr.obj hh hσ
 obtain ⟨mk, g1, _, _⟩ := g1.cells hz
 unfold World.shape?
 rw [g1]
 show some (o.ty, cur.size) = _
 rw [g2]
/-- *T to unsafe.Pointer. -/
theorem zKc {x : Operand} {src dst tt : TypeId} {j : TypeInfo} {h : Nat} {o : AObj} (hs : P.underlying src = some (.pointer tt)) (hd : P.underlying dst = some .unsafePointer) (ht : P.info? tt = some j) (hj : Nat.beq j.size 0 = false)
 (hx : ev fr x = some (.ptr h 0 0)) (hh : H[h]? = some (some o)) (hlen : 0 < o.c.len) (hsz : 0 < o.c.sz) : QOp false P fn c fr H ⟨d, .convert src dst x, ty, pos, after, g⟩ (.ptr h 0 0) := by
 intro w a σ S hr
 have h1 := hr.evAt hx
 generalize hz : a.eval x = z at h1
 cases h1 with
 | ptr _ _ _ _ b s C hσ =>
  have hsh := hr.shape hh hσ (by omega)
  obtain ⟨hs', cur, g1, g2, g3, g4, _⟩ := hr.obj hh hσ
  have hpos : 0 < C * o.c.sz := Nat.mul_pos (by omega) hsz
  refine ⟨_, .ptr _ _ _ _ b s C hσ, fun w' hw => ?_⟩
  have hw' : w'.shape? b = some (o.ty, C * o.c.sz) := by
   rcases hw with hw | hw
   ·cases hw
   ·unfold World.shape?; rw [hw]; exact hsh
  have hrun := Lib.run_to_unsafe (P := P) w' (src := src) (dst := dst) ⟨b, 0 * s + 0, none⟩ hs hd ht (by intro e; rw [e] at hj; cases hj) hw' (by simpa using hpos)
  simp only [execOp, hz, Sem.run_bind, hrun]
  rfl
/-- unsafe.Pointer to *T. -/
theorem zIg {x : Operand} {src dst u : TypeId} {j : TypeInfo} {h : Nat} {o : AObj} (hs : P.underlying src = some .unsafePointer) (hd : P.underlying dst = some (.pointer u)) (hu : P.info? u = some j) (hx : ev fr x = some (.ptr h 0 0)) (hh : H[h]? = some (some o)) (hot : o.ty = u) (hce : P.cellsOf u = o.c.sz)
 (hlen : 0 < o.c.len) (hsz : 0 < o.c.sz) : QOp false P fn c fr H ⟨d, .convert src dst x, ty, pos, after, g⟩ (.ptr h 0 0) := by
 intro w a σ S hr
 have h1 := hr.evAt hx
 generalize hz : a.eval x = z at h1
 cases h1 with
 | ptr _ _ _ _ b s C hσ =>
  have hsh := hr.shape hh hσ (by omega)
  obtain ⟨hs', cur, g1, g2, g3, g4, _⟩ := hr.obj hh hσ
  refine ⟨_, .ptr _ _ _ _ b s C hσ, fun w' hw => ?_⟩
  have hw' : w'.shape? b = some (u, C * o.c.sz) := by
   subst hot
   rcases hw with hw | hw
   ·cases hw
   ·unfold World.shape?; rw [hw]; exact hsh
  have hl := zKJ hce hsz (C * o.c.sz / P.cellsOf u) (by rw [hce, Nat.mul_div_cancel _ hsz]; omega)
  have hrun := Lib.run_from_unsafe (P := P) w' (src := src) (dst := dst) ⟨b, 0 * s + 0, none⟩ hs hd hu hw' (by simpa using hl)
  simp only [execOp, hz, Sem.run_bind, hrun]
  rfl
/-- internal/abi.NoEscape -/
theorem zKa {gg x : Operand} {ats : Array TypeId} {f : FuncId} {fx : Func} {v : AV} (hg : ev fr gg = some (.fn f [])) (hx : ev fr x = some v) (hf : P.funcs[f]? = some fx) (hname : (fx.name == "runtime.NumGoroutine") = false) (hb : fx.body.isNone = true) (hn : Extern.findNext fx = none) (he : Extern.find fx = some Extern.AbiNoEscape.same) :
 QOp ind P fn c fr H ⟨d, .call { callee := .value gg, args := #[x], argTypes := ats }, ty, pos, after, g⟩ v :=
 zG5 (args := [x]) (ags := [v]) hg (by simp [evs, hx]) hf hname hb hn he (fun w S σ vals hv => by
  obtain ⟨h1, h2⟩ := hv
  have q := h2 0 (by simp)
  have hl : vals.toList.length = 1 := by simpa using h1
  match hq : vals.toList, hl with
  | [y], _ =>
   have e : vals = #[y] := by rw [← Array.toArray_toList (xs := vals), hq]
   subst e
   exact ⟨y, by simpa using q, fun w' => rfl⟩)
/-- A pointer against itself. -/
theorem zIi {x y : Operand} {t t' e : TypeId} {j : TypeInfo} {h i jj : Nat} (ht : P.underlying t = some (.pointer e)) (hte : P.info? e = some j) (hx : ev fr x = some (.ptr h i jj)) (hy : ev fr y = some (.ptr h i jj)) : QOp ind P fn c fr H ⟨d, .binOp .neq t x y t', ty, pos, after, g⟩ (.bool false) := by
 intro w a σ S hr
 have h1 := hr.evAt hx
 have h2 := hr.evAt hy
 generalize hz : a.eval x = z at h1
 generalize hzy : a.eval y = zy at h2
 cases h1 with
 | ptr _ _ _ _ b s C hσ =>
  cases h2 with
  | ptr _ _ _ _ b' s' C' hσ' =>
   rw [hσ] at hσ'
   simp only [Option.some.injEq, Blk.at.injEq] at hσ'
   obtain ⟨rfl, rfl, rfl⟩ := hσ'
   refine ⟨_, .bool _ _, fun w' _ => ?_⟩
   simp only [execOp, hz, hzy, Sem.run_bind, zDz, Result.andThen_ok, Lib.run_neq_ptr_same w' _ ht hte]
   rfl
/-- unsafe.SliceData of a row of one's own that is not empty. -/
theorem zGN {x : Operand} {ats : Array TypeId} {h n : Nat} (hx : ev fr x = some (.sl h 0 n)) (hn : 0 < n) : QOp ind P fn c fr H ⟨d, .call { callee := .builtin .unsafeSliceData, args := #[x], argTypes := ats }, ty, pos, after, g⟩ (.ptr h 0 0) := by
 intro w a σ S hr
 have h1 := hr.evAt hx
 generalize hz : a.eval x = z at h1
 cases h1 with
 | sl0 => omega
 | sl _ _ _ _ b s C cap hσ hlen hcap =>
  have e : (0 * s : Nat) = 0 * s + 0 := rfl
  refine ⟨_, .ptr _ _ _ _ b s C hσ, fun w' _ => ?_⟩
  have hrun := Lib.run_unsafeSliceData_row (P := P) w' ats ty ⟨b, 0 * s, none⟩ n cap (by omega)
  simp [execOp, resolve, invoke, builtin, hz]
  rw [show (⟨b, 0, none⟩ : Addr) = ⟨b, 0 * s, none⟩ by simp]
  simp only [hrun]
  rfl
/-- unsafe.String of a row of bytes: from now on nobody writes it. -/
theorem ax_ustr {all : Array Oper} {d : Nat} {x y : Operand} {pt it e : TypeId} {rest : List Oper} {h : Nat} {l : List UInt8} {o : AObj} (hp : P.underlying pt = some (.pointer e)) (hc : P.cellsOf e = 1) (hx : ev fr x = some (.ptr h 0 0)) (hy : ev fr y = some (.int .i64 (l.length : Nat)))
 (hh : H[h]? = some (some o)) (hot : o.ty = e) (hsz : o.c.sz = 1) (hlen : o.c.len = l.length) (hat : ∀ i, i < l.length → o.c.at i 0 = .int .u8 ((l.getD i 0).toNat : Nat)) (h0 : l ≠ []) (hl : l.length ≤ 9223372036854775807)
 (hk : Ax P fn c (.ops false all rest k) ((d, .str l) :: fr) (H.set h none)) : Ax P fn c (.ops false all (⟨some d, .call { callee := .builtin .unsafeString, args := #[x, y], argTypes := #[pt, it] }, ty, pos, after, none⟩ :: rest) k) fr H := by
 refine ax_w (fun w a σ S hr => ?_) hk
 have h1 := hr.evAt hx
 have h2 := hr.evAt hy
 generalize hz : a.eval x = z at h1
 generalize hzy : a.eval y = zy at h2
 cases h2
 cases h1 with
 | ptr _ _ _ _ b s C hσ =>
  have hsh := hr.shape hh hσ (by omega)
  obtain ⟨hs', cur, g1, g2, g3, g4, g5, g6⟩ := hr.obj hh hσ
  obtain ⟨mk, g1, hmk, hrow⟩ := g1.cells (by omega)
  rw [hsz, Nat.mul_one, hot] at hsh
  have hcell : ∀ j q, l[j]? = some q → w.cell? ((⟨b, 0, none⟩ : Addr).add j) = some (.int .u8 q.toNat) := by
   intro j q hq
   have hj : j < l.length := (List.getElem?_eq_some_iff.1 hq).1
   obtain ⟨v, e1, e2, e3⟩ := g6 j 0 (by omega) (by omega)
   rw [hat j hj] at e2
   rw [hsz, Nat.mul_one, Nat.add_zero] at e1
   cases e2
   have : l.getD j 0 = q := by simp [List.getD, hq]
   rw [this] at e1
   simp [World.cell?, Addr.add_lit, g1, e1]
  have hrun := Lib.run_unsafeString_row (P := P) w pt it ty e hp hc b C hsh l h0 (by omega) hl hcell
  have hexec : (execOp a.eval ⟨some d, .call { callee := .builtin .unsafeString, args := #[x, y], argTypes := #[pt, it] }, ty, pos, after, none⟩).run P w = .ok (.value (.string ⟨l.toArray⟩)) (w.freeze ⟨b, 0, none⟩ l.length) := by
   simp [execOp, resolve, invoke, builtin, hz, hzy]
   simp only [hrun]
   rfl
  have hfz : ∀ b', b' ≠ b → (w.freeze ⟨b, 0, none⟩ l.length).heap[b']? = w.heap[b']? := by
   intro b' hb
   unfold World.freeze
   split
   ·rfl
   ·simp [Array.getElem?_modify, Ne.symm hb]
  have hsize : (w.freeze ⟨b, 0, none⟩ l.length).heap.size = w.heap.size := by
   unfold World.freeze
   split
   ·rfl
   ·simp
  have hrest : (w.freeze ⟨b, 0, none⟩ l.length).os = w.os ∧ (w.freeze ⟨b, 0, none⟩ l.length).output = w.output ∧ (w.freeze ⟨b, 0, none⟩ l.length).tape = w.tape := by
   unfold World.freeze
   split <;> exact ⟨rfl, rfl, rfl⟩
  have hown := hr.kp.own h o b s C hh hσ
  have hv : ∀ {σ' : Nat → Option Blk} {x v}, VR w S σ' x v → VR (w.freeze ⟨b, 0, none⟩ l.length) S σ' x v := fun q => q.mono (fun _ h => h) (fun b' hb => hfz b' (fun e => g5 (e ▸ hb))) _ (fun _ _ h => h)
  have hget : ∀ {h' : Nat} {o' : AObj}, (H.set h none)[h']? = some (some o') → h' ≠ h ∧ H[h']? = some (some o') := by
   intro h' o' ho
   have hlt : h < H.length := (List.getElem?_eq_some_iff.1 hh).1
   by_cases he : h' = h
   ·subst he
    rw [List.getElem?_set_self hlt] at ho
    simp at ho
   ·rw [List.getElem?_set_ne (Ne.symm he)] at ho
    exact ⟨he, ho⟩
  refine ⟨_, _, σ, S, hexec, ⟨⟨fun h' o' ho => ?_, fun h1 h2 o1 o2 b1 s1 C1 s2 C2 q1 q2 => hr.hr.dist h1 h2 o1 o2 b1 s1 C1 s2 C2 (hget q1).2 (hget q2).2, fun b' hb => by rw [hsize]; exact hr.hr.small b' hb, fun h' hl' => hr.hr.dom h' (by simpa using hl')⟩,
   ⟨hrest.1.trans hr.kp.os, hrest.2.1.trans hr.kp.output, hrest.2.2.trans hr.kp.tape, by rw [hsize]; exact hr.kp.size, fun b' hb ho => ?_, hr.kp.S1, hr.kp.S2, hr.kp.fixed, fun h' hf => by simpa using hr.kp.fixlt h' hf, fun h' o' b' s' C' ho => hr.kp.own h' o' b' s' C' (hget ho).2⟩, hr.defers, hr.size, fun t v hl' => ⟨(hr.slots t v hl').1, hv (hr.slots t v hl').2⟩⟩, .str _ l⟩
  ·obtain ⟨hne, ho'⟩ := hget ho
   rcases hr.hr.live h' o' ho' with hn | ⟨b', C', cu, k1, k2, k3, k4, k5, k6, k7⟩
   ·exact .inl hn
   ·have hbb : b' ≠ b := fun e => hne (hr.hr.dist h' h o' o b' _ C' s C ho' hh k1 (by rw [hσ, e]))
    refine .inr ⟨b', C', cu, k1, k2.mono (hfz b' hbb) hv, k3, k4, k5, k6, fun i j hi hj => ?_⟩
    obtain ⟨v, e1, e2, e3⟩ := k7 i j hi hj
    exact ⟨v, e1, hv e2, e3⟩
  ·have hbb : b' ≠ b := by
    rintro rfl
    rcases hown with h | h
    ·exact ho h
    ·omega
   rw [hfz b' hbb]
   exact hr.kp.block b' hb ho
end
end Go.Ax
namespace Go.Ax
variable [Pins]
open Go.RowKit
section
variable {P : Program} {fn : Func} {c : Ctx} {fr : Fr} {H : zH} {k : List It}
theorem give_sub {h : Nat} {o : AObj} (hh : H[h]? = some (some o)) : subH (List.replicate h none ++ [some o]) H := by
 have _p := ‹Pins›
 intro h' o' ho
 rcases Nat.lt_trichotomy h' h with q | q | q
 ·rw [List.getElem?_append_left (by simpa using q)] at ho
  simp [List.getElem?_replicate, q] at ho
 ·subst q
  rw [List.getElem?_append_right (by simp)] at ho
  simp at ho; subst ho; exact hh
 ·rw [List.getElem?_eq_none (by simp; omega)] at ho; cases ho
theorem zLz {h : Nat} {o : AObj} (hrl : zj o.c) : ∀ (h' : Nat) (o' : AObj), (List.replicate h none ++ [some o] : zH)[h']? = some (some o') → zj o'.c := by
 have _p := ‹Pins›
 intro h' o' ho
 have hm := List.mem_of_getElem? ho
 rcases List.mem_append.1 hm with q | q
 ·have := (List.mem_replicate.1 q).2; cases this
 ·simp at q; subst q; exact hrl
theorem zLD {h : Nat} {o : AObj} : (List.replicate h none ++ [some o] : zH)[h]? = some (some o) := by
 have _p := ‹Pins›
 rw [List.getElem?_append_right (by simp)]; simp
theorem Rep.give {w : World} {a : Act} {σ : Nat → Option Blk} {S : Nat → Prop} {N : Nat} (hr : Rep c w a σ S N fr H) (h t n : Nat) {o : AObj} (L : Fr) (hh : H[h]? = some (some o)) (hrl : zj o.c) (hl : zAH t fr = some (.sl h 0 n)) (hn : n ≤ o.c.len) (hL : zBS fr L) :
 ∃ S', Rep c w a σ S' N ((t, .ro o.c 0 n) :: L) (H.set h none) := by
 have hlt : h < H.length := (List.getElem?_eq_some_iff.1 hh).1
 refine hr.freeze (List.replicate h none ++ [some o]) (H.set h none) (give_sub hh) (zLz hrl) (by simp) ?_ ⟨⟨_, hl, .inr (.inr ⟨?_, ?_⟩)⟩, zI7 hL⟩
 ·intro h' o' ho
  have hne : h' ≠ h := by
   rintro rfl
   rw [List.getElem?_set_self hlt] at ho; cases ho
  rw [List.getElem?_set_ne (Ne.symm hne)] at ho
  refine ⟨fun o2 h2 => ?_, o', ho, Y, Y, Y, fun i j _ _ => .inl Y⟩
  rcases Nat.lt_or_ge h' h with q | q
  ·rw [List.getElem?_append_left (by simpa using q)] at h2
   simp [List.getElem?_replicate, q] at h2
  ·rw [List.getElem?_eq_none (by simp; omega)] at h2; cases h2
 ·simp only [AV.frz, zLD]
 ·intro o2 h2
  rw [zLD] at h2
  cases h2
  omega
/-- A row of one's own is only read from now on. -/
theorem zCB {all : Array Oper} {rest : List Oper} (h t n : Nat) {o : AObj} (L : Fr) (hh : H[h]? = some (some o)) (hrl : zj o.c) (hl : zAH t fr = some (.sl h 0 n)) (hn : n ≤ o.c.len) (hL : zBS fr L)
 (hk : Ax P fn c (.ops false all rest k) ((t, .ro o.c 0 n) :: L) (H.set h none)) : Ax P fn c (.ops false all rest k) fr H := by
 intro hd w a σ S hr
 obtain ⟨S', hr'⟩ := hr.give h t n L hh hrl hl hn hL
 exact hk hd w a σ S' hr'
theorem zAb {x : Code} (h t n : Nat) {o : AObj} (L : Fr) (hh : H[h]? = some (some o)) (hrl : zj o.c) (hl : zAH t fr = some (.sl h 0 n)) (hn : n ≤ o.c.len) (hL : zBS fr L)
 (hk : Ax P fn c (.code x k) ((t, .ro o.c 0 n) :: L) (H.set h none)) : Ax P fn c (.code x k) fr H := by
 intro w a σ S hr
 obtain ⟨S', hr'⟩ := hr.give h t n L hh hrl hl hn hL
 exact hk w a σ S' hr'
theorem zAu {q : Bool} {all : Array Oper} {rest : List Oper} (H' : zH) (he : H = H') (hk : Ax P fn c (.ops q all rest k) fr H') : Ax P fn c (.ops q all rest k) fr H := by
 subst he; exact hk
variable {ind : Bool} {d : Option Nat} {ty : TypeId} {pos : String} {after : Array Edge} {g : Option (Nat × Bool)}
theorem zDd {op : BinOp} {t : TypeId} {x y : Operand} {a b : Bool} {w : World} : (eqGuard op t x y (.bool a) (.bool b)).run P w = .ok () w := by
 have _p := ‹Pins›
 unfold eqGuard
 split <;> rfl
theorem zIA {x y : Operand} {t t' : TypeId} {a b : Bool} (ht : P.underlying t = some .bool) (hx : ev fr x = some (.bool a)) (hy : ev fr y = some (.bool b)) : QOp ind P fn c fr H ⟨d, .binOp .neq t x y t', ty, pos, after, g⟩ (.bool (!(a == b))) := by
 intro w ac σ S hr
 refine ⟨_, .bool _ _, fun w' _ => ?_⟩
 have h1 := hr.evBool hx
 have h2 := hr.evBool hy
 have h3 := run_neq_bool (P := P) w' t a b ht
 simp [execOp, h1, h2, zDd, h3]
 try (cases a <;> cases b <;> rfl)
theorem zG4 {x y : Operand} {t t' : TypeId} {a b : Bool} (ht : P.underlying t = some .bool) (hx : ev fr x = some (.bool a)) (hy : ev fr y = some (.bool b)) : QOp ind P fn c fr H ⟨d, .binOp .eql t x y t', ty, pos, after, g⟩ (.bool (a == b)) := by
 intro w ac σ S hr
 refine ⟨_, .bool _ _, fun w' _ => ?_⟩
 have h1 := hr.evBool hx
 have h2 := hr.evBool hy
 have h3 := run_eql_bool (P := P) w' t a b ht
 simp [execOp, h1, h2, zDd, h3]
/-- Bits pushed out on the left are lost. -/
theorem zLa {x y : Operand} {t t' : TypeId} {kk k' : IntKind} {m s M : Nat} (hx : ev fr x = some (.int kk (m : Nat))) (hy : ev fr y = some (.int k' (s : Nat))) (hb : s ≤ kk.bits) (hk : UK kk M) :
 QOp ind P fn c fr H ⟨d, .binOp .shl t x y t', ty, pos, after, g⟩ (.int kk (m * 2 ^ s % M : Nat)) := by
 refine (q_shl hx hy (by omega)).res (congrArg (AV.int kk) ?_)
 unfold shlB
 rw [Int.toNat_natCast, Nat.min_eq_left hb]
 have : ((m : Int) * 2 ^ s) = ((m * 2 ^ s : Nat) : Int) := by simp
 rw [this]; exact hk.low _
end
end Go.Ax
namespace Go.Ax
variable [Pins]
open Go.RowKit
theorem zCu {fr : Fr} : ∀ {K : Fr}, (∀ p ∈ K, zAH p.1 fr = some p.2) → zBS fr K
 | [], _ => have _p := ‹Pins›; trivial
 | (t, v) :: r, h => ⟨h (t, v) (by simp), zCu (fun p hp => h p (by simp [hp]))⟩
theorem zCx {fr : Fr} : ∀ {K : Fr}, zBS fr K → ∀ p ∈ K, zAH p.1 fr = some p.2
 | [], _, p, hp => have _p := ‹Pins›; by simp at hp
 | (t, v) :: r, h, p, hp => by
  rcases List.mem_cons.1 hp with rfl | hp
  ·exact h.1
  ·exact zCx h.2 p hp
theorem zI6 {fr K : Fr} (h : zBS fr K) {o : Operand} {v : AV} (he : ev K o = some v) : ev fr o = some v := by
 have _p := ‹Pins›
 cases o with
 | tmp t => exact zGy h he
 | const x => exact he
 | «global» g => cases he
 | func f => exact he
theorem zHq {fr K : Fr} (h : zBS fr K) : ∀ {xs : List Operand} {l : List AV}, evs K xs = some l → evs fr xs = some l
 | [], l, he => have _p := ‹Pins›; he
 | x :: r, l, he => by
  simp only [evs] at he ⊢
  split at he
  ·rename_i v hv
   split at he
   ·rename_i q hq
    rw [zI6 h hv, zHq h hq]
    exact he
   ·cases he
  ·cases he
section
variable {P : Program} {fn : Func} {c : Ctx} {fr : Fr} {H : zH} {k : List It}
/-- An operation that yields v and leaves the memory as it is told. -/
def zAN (P : Program) (fn : Func) (c : Ctx) (H : zH) (all : Array Oper) (K : Fr) (o : Oper) (d : Nat) (v : AV) : Prop :=
 ∀ (k : List It) (fr : Fr), zBS fr K → Ax P fn c (.ops false all [] k) ((d, v) :: fr) H → Ax P fn c (.ops false all [o] k) fr H
theorem pure_q {all : Array Oper} {K : Fr} {d : Nat} {op : Op} {ty : TypeId} {pos : String} {after : Array Edge} {v : AV} (h : QOp false P fn c K H ⟨some d, op, ty, pos, after, none⟩ v) : zAN P fn c H all K ⟨some d, op, ty, pos, after, none⟩ d v :=
 fun k fr hk h2 => zF (fun w a σ S hr => h w a σ S (hr.weaken hk)) h2
theorem pure_v {all : Array Oper} {K : Fr} {d : Nat} {g : Operand} {args : List Operand} {ats : Array TypeId} {ty : TypeId} {pos : String} {after : Array Edge} {f : FuncId} {caps ags ags' : List AV} {r : AV} (hg : ev K g = some (.fn f caps)) (ha : evs K args = some ags) (has : ags ++ caps = ags') (hcall : zN P f ags' r) :
 zAN P fn c H all K ⟨some d, .call { callee := .value g, args := args.toArray, argTypes := ats }, ty, pos, after, none⟩ d r :=
 fun k fr hk h2 => zA (zI6 hk hg) (zHq hk ha) has hcall h2
abbrev Steps := List (Nat × Nat × AV)
def zHt (st : Steps) (K0 : Fr) (o : Oper) : Fr := ((st.filter (fun s => o.after.toList.any (fun e => Nat.beq e.on s.1 && Region.binds .any e))).map (fun s => s.2)) ++ K0
/-- One operation after the other, in the order that is given. -/
def zGd (P : Program) (fn : Func) (c : Ctx) (H : zH) (all : Array Oper) (K0 : Fr) : List Nat → Steps → (Steps → Prop) → Prop
 | [], st, G => G st
 | i :: r, st, G => ∃ o d v, all[i]? = some o ∧ o.dst = some d ∧ zAN P fn c H all (zHt st K0 o) o d v ∧ zGd P fn c H all K0 r ((i, d, v) :: st) G
theorem zLY {all : Array Oper} {K0 : Fr} {i : Nat} {r : List Nat} {st : Steps} {G : Steps → Prop} {d : Nat} {op : Op} {ty : TypeId} {pos : String} {after : Array Edge} {v : AV} (hi : all[i]? = some ⟨some d, op, ty, pos, after, none⟩)
 (hop : zAN P fn c H all (zHt st K0 ⟨some d, op, ty, pos, after, none⟩) ⟨some d, op, ty, pos, after, none⟩ d v) (h : zGd P fn c H all K0 r ((i, d, v) :: st) G) : zGd P fn c H all K0 (i :: r) st G :=
 ⟨_, _, _, hi, rfl, hop, h⟩
theorem zn {all : Array Oper} {K0 : Fr} {i : Nat} {r : List Nat} {st : Steps} {G : Steps → Prop} {d : Nat} {op : Op} {ty : TypeId} {pos : String} {after : Array Edge} {v : AV} {K : Fr} (hi : all[i]? = some ⟨some d, op, ty, pos, after, none⟩)
 (hK : zHt st K0 ⟨some d, op, ty, pos, after, none⟩ = K) (hop : QOp false P fn c K H ⟨some d, op, ty, pos, after, none⟩ v) (h : zGd P fn c H all K0 r ((i, d, v) :: st) G) : zGd P fn c H all K0 (i :: r) st G :=
 zLY hi (hK ▸ pure_q hop) h
theorem zBs {all : Array Oper} {K0 : Fr} {i : Nat} {r : List Nat} {st : Steps} {G : Steps → Prop} {d : Nat} {g : Operand} {args : List Operand} {ats : Array TypeId} {ty : TypeId} {pos : String} {after : Array Edge} {f : FuncId} {caps ags ags' : List AV} {v : AV} {K : Fr} (hi : all[i]? = some ⟨some d, .call { callee := .value g, args := args.toArray, argTypes := ats }, ty, pos, after, none⟩)
 (hK : zHt st K0 ⟨some d, .call { callee := .value g, args := args.toArray, argTypes := ats }, ty, pos, after, none⟩ = K) (hg : ev K g = some (.fn f caps)) (ha : evs K args = some ags) (has : ags ++ caps = ags') (hcall : zN P f ags' v)
 (h : zGd P fn c H all K0 r ((i, d, v) :: st) G) : zGd P fn c H all K0 (i :: r) st G :=
 zLY hi (hK ▸ pure_v hg ha has hcall) h
theorem zBR {all : Array Oper} {K0 : Fr} {st : Steps} {G : Steps → Prop} (h : G st) : zGd P fn c H all K0 [] st G := h
/-- What the steps tell. -/
def zFr (P : Program) (fn : Func) (c : Ctx) (H : zH) (all : Array Oper) (K0 : Fr) (st : Steps) (s : Nat × Nat × AV) : Prop :=
 ∃ o K, all[s.1]? = some o ∧ o.dst = some s.2.1 ∧ zAN P fn c H all K o s.2.1 s.2.2 ∧ ∀ p ∈ K, p ∈ K0 ∨ ∃ s' ∈ st, (∃ e ∈ o.after, Region.binds .any e = true ∧ e.on = s'.1) ∧ s'.2 = p
theorem zFr.mono {all : Array Oper} {K0 : Fr} {st st' : Steps} {s : Nat × Nat × AV} (hs : ∀ x ∈ st, x ∈ st') (h : zFr P fn c H all K0 st s) : zFr P fn c H all K0 st' s := by
 obtain ⟨o, K, h1, h2, h3, h4⟩ := h
 refine ⟨o, K, h1, h2, h3, fun p hp => ?_⟩
 rcases h4 p hp with q | ⟨s', q1, q2⟩
 ·exact .inl q
 ·exact .inr ⟨s', hs _ q1, q2⟩
theorem zE2 {all : Array Oper} {K0 : Fr} {G : Steps → Prop} : ∀ {idx : List Nat} {st : Steps}, zGd P fn c H all K0 idx st G → (∀ s ∈ st, zFr P fn c H all K0 st s) → ∃ st', G st' ∧ st'.map (·.1) = idx.reverse ++ st.map (·.1) ∧ (∀ s ∈ st', zFr P fn c H all K0 st' s)
 | [], st, h, hs => ⟨st, h, by simp, hs⟩
 | i :: r, st, h, hs => by
  obtain ⟨o, d, v, h1, h2, h3, h4⟩ := h
  have hsub : ∀ x ∈ st, x ∈ (i, d, v) :: st := fun x hx => List.mem_cons_of_mem _ hx
  have hstep : zFr P fn c H all K0 ((i, d, v) :: st) (i, d, v) := by
   refine ⟨o, zHt st K0 o, h1, h2, h3, fun p hp => ?_⟩
   unfold zHt at hp
   rcases List.mem_append.1 hp with q | q
   ·obtain ⟨s, q1, q2⟩ := List.mem_map.1 q
    obtain ⟨q3, q4⟩ := List.mem_filter.1 q1
    obtain ⟨e, q5, q6⟩ := List.any_eq_true.1 q4
    rw [Bool.and_eq_true] at q6
    exact .inr ⟨s, hsub _ q3, ⟨e, Array.mem_toList_iff.1 q5, q6.2, Nat.eq_of_beq_eq_true q6.1⟩, q2⟩
   ·exact .inl q
  obtain ⟨st', g1, g2, g3⟩ := zE2 h4 (fun s hs' => by
   rcases List.mem_cons.1 hs' with rfl | q
   ·exact hstep
   ·exact (hs s q).mono hsub)
  exact ⟨st', g1, by rw [g2]; simp, g3⟩
theorem zIG {all : Array Oper} {fuel : Nat} {listed : Array Bool} : ∀ {is : List Nat}, (∀ i ∈ is, ∀ o, all[i]? = some o → Ax P fn c (.ops false all [o] (.any all fuel (listed.setIfInBounds i true) :: k)) fr H) → AllR P fn c all fuel listed k fr H is
 | [], _ => trivial
 | i :: r, h => ⟨h i (by simp), zIG (fun j hj => h j (by simp [hj]))⟩
/-- May these operations run in any order, ahead of all others? -/
def okRun (all : Array Oper) (listed : Array Bool) (idx : List Nat) (k0 : List Nat) : Bool :=
 (idx.all fun i => !listed.getD i true && (match all[i]? with
  | some o => (match o.dst with | some d => !k0.contains d | none => false) && o.after.toList.all (fun e => !Region.binds .any e || (Nat.blt e.on i && (idx.contains e.on || listed.getD e.on false)))
  | none => false)) &&
 ((List.range all.size).all fun j => idx.contains j || listed.getD j true || (match all[j]? with
   | some o => idx.all (fun i => o.after.toList.any (fun e => Nat.beq e.on i && Region.binds .any e))
   | none => true)) &&
 (idx.all fun i => idx.all fun j => Nat.beq i j || !(match all[i]?, all[j]? with | some o, some o' => o.dst == o'.dst | _, _ => false))
def zET (listed : Array Bool) (idx : List Nat) : Array Bool := idx.foldl (fun a i => a.setIfInBounds i true) listed
theorem zEU : ∀ (idx : List Nat) (listed : Array Bool), (zET listed idx).size = listed.size
 | [], _ => have _p := ‹Pins›; rfl
 | i :: r, listed => by
  have := zEU r (listed.setIfInBounds i true)
  simpa [zET] using this
theorem zE8 : ∀ (idx : List Nat) (listed : Array Bool) (j : Nat), j < listed.size → (zET listed idx)[j]? = if j ∈ idx then some true else listed[j]?
 | [], _, j, _ => have _p := ‹Pins›; by simp [zET]
 | i :: r, listed, j, hj => by
  have h := zE8 r (listed.setIfInBounds i true) j (by simpa using hj)
  have e : zET listed (i :: r) = zET (listed.setIfInBounds i true) r := rfl
  rw [e, h]
  by_cases h1 : j ∈ r
  ·simp [h1]
  ·by_cases h2 : i = j
   ·subst h2; simp [h1, hj]
   ·have h3 : ¬ j = i := fun e => h2 e.symm
    simp [h1, h2, h3, Array.getElem?_setIfInBounds]
def unl (cur : Array Bool) (st : Steps) : Nat := (st.filter (fun s => !cur.getD s.1 true)).length
theorem zAY {all : Array Oper} {fuel : Nat} {listed listed' : Array Bool} (idx : List Nat) (K0 : Fr) (hK : zBS fr K0) (hok : okRun all listed idx (K0.map (·.1)) = true) (hnd : idx.Nodup) (hd : zBo fn.ntmps all.toList = true) (hl : zET listed idx = listed')
 (h : zGd P fn c H all K0 idx [] (fun st => Ax P fn c (.any all fuel listed' k) (st.map (·.2) ++ K0) H)) : Ax P fn c (.any all (fuel + idx.length) listed k) fr H := by
 obtain ⟨st, hG, hidx, hst⟩ := zE2 h (fun s hs => by simp at hs)
 rw [List.map_nil, List.append_nil] at hidx
 clear h
 unfold okRun at hok
 simp only [Bool.and_eq_true] at hok
 obtain ⟨⟨ok1, ok2⟩, ok3⟩ := hok
 rw [List.all_eq_true] at ok1 ok2 ok3
 have hmem : ∀ i, i ∈ idx ↔ ∃ s ∈ st, s.1 = i := fun i => by
  have : i ∈ idx.reverse ↔ ∃ s ∈ st, s.1 = i := by rw [← hidx]; simp
  rw [← this, List.mem_reverse]
 have hlen : st.length = idx.length := by
  have := congrArg List.length hidx
  simpa using this
 have hnd' : (st.map (·.1)).Nodup := by rw [hidx]; exact (List.reverse_perm idx).nodup_iff.2 hnd
 have hlt : ∀ i ∈ idx, i < listed.size := fun i hi => by
  have := ok1 i hi
  simp only [Bool.and_eq_true, Bool.not_eq_true'] at this
  rcases Nat.lt_or_ge i listed.size with q | q
  ·exact q
  ·have h1 := this.1
   simp only [Array.getD, show ¬ i < listed.size by omega, dite_false] at h1
   cases h1
 -- the induction
 have key : ∀ (m : Nat) (cur : Array Bool) (fr : Fr), cur.size = listed.size → (∀ j, j ∉ idx → cur[j]? = listed[j]?) → unl cur st = m → (∀ s ∈ st, cur.getD s.1 true = true → zAH s.2.1 fr = some s.2.2) → zBS fr K0 → Ax P fn c (.any all (fuel + m) cur k) fr H := by
  intro m
  induction m with
  | zero =>
   intro cur fr hcs hco hcm hck hk0
   have hall : ∀ s ∈ st, cur.getD s.1 true = true := fun s hs => by
    cases hq : cur.getD s.1 true with
    | true => rfl
    | false =>
     exfalso
     have h0 : st.filter (fun s => !cur.getD s.1 true) = [] := List.length_eq_zero_iff.1 hcm
     have : s ∈ st.filter (fun s => !cur.getD s.1 true) := List.mem_filter.2 ⟨hs, by rw [hq]; rfl⟩
     rw [h0] at this; simp at this
   have hcur : cur = listed' := by
    rw [← hl]
    apply Array.ext_getElem?
    intro j
    rcases Nat.lt_or_ge j listed.size with q | q
    ·rw [zE8 idx listed j q]
     by_cases hj : j ∈ idx
     ·rw [if_pos hj]
      obtain ⟨s, hs1, hs2⟩ := (hmem j).1 hj
      have := hall s hs1
      rw [hs2] at this
      simp only [Array.getD, show j < cur.size by omega, dite_true] at this
      rw [Array.getElem?_eq_getElem (by omega)]
      exact congrArg some this
     ·rw [if_neg hj]; exact hco j hj
    ·rw [Array.getElem?_eq_none (by omega), Array.getElem?_eq_none (by rw [zEU]; omega)]
   subst hcur
   intro w a σ S hr
   refine hG w a σ S (hr.weaken (zCu fun p hp => ?_))
   rcases List.mem_append.1 hp with q | q
   ·obtain ⟨s, q1, q2⟩ := List.mem_map.1 q
    rw [← q2]; exact hck s q1 (hall s q1)
   ·exact zCx hk0 p q
  | succ m ih =>
   intro cur fr hcs hco hcm hck hk0
   -- some step is left
   obtain ⟨s0, hs0, hs0u⟩ : ∃ s ∈ st, cur.getD s.1 true = false := by
    rcases hq : st.filter (fun s => !cur.getD s.1 true) with _ | ⟨s, r⟩
    ·unfold unl at hcm; rw [hq] at hcm; simp at hcm
    ·have : s ∈ st.filter (fun s => !cur.getD s.1 true) := by rw [hq]; simp
     obtain ⟨h1, h2⟩ := List.mem_filter.1 this
     exact ⟨s, h1, by simpa using h2⟩
   have hsub : ∀ i ∈ Region.ready .any all cur, i ∈ idx ∧ cur.getD i true = false := by
    intro i hi
    obtain ⟨h1, o, ho, hdeps⟩ := mem_ready.1 hi
    refine ⟨?_, h1⟩
    apply Classical.byContradiction
    intro hni
    have hjs : i < all.size := (Array.getElem?_eq_some_iff.1 ho).1
    have := ok2 i (List.mem_range.2 hjs)
    simp only [Bool.or_eq_true, ho] at this
    rcases this with (q | q) | q
    ·exact hni (by simpa using q)
    ·have hco' := hco i hni
     have h2 : listed.getD i true = cur.getD i true := by
      simp only [Array.getD_eq_getD_getElem?, hco']
     rw [h2, h1] at q; cases q
    ·rw [List.all_eq_true] at q
     have := q s0.1 ((hmem s0.1).2 ⟨s0, hs0, rfl⟩)
     obtain ⟨e, he1, he2⟩ := List.any_eq_true.1 this
     rw [Bool.and_eq_true] at he2
     have h3 := hdeps e (Array.mem_toList_iff.1 he1) he2.2
     rw [Nat.eq_of_beq_eq_true he2.1] at h3
     have hsz := hlt s0.1 ((hmem s0.1).2 ⟨s0, hs0, rfl⟩)
     simp only [Array.getD, show s0.1 < cur.size by omega, dite_true] at h3 hs0u
     rw [h3] at hs0u; cases hs0u
   have hne : Region.ready .any all cur ≠ [] := by
    intro h0
    -- the least one that is left
    have hex : ∃ i, i ∈ idx ∧ cur.getD i true = false := ⟨s0.1, (hmem s0.1).2 ⟨s0, hs0, rfl⟩, hs0u⟩
    have least : ∀ n i, i ≤ n → i ∈ idx → cur.getD i true = false → False := by
     intro n
     induction n with
     | zero =>
      intro i hi him hiu
      have h1 := ok1 i him
      simp only [Bool.and_eq_true] at h1
      cases hoo : all[i]? with
      | none => rw [hoo] at h1; exact absurd h1.2 (by simp)
      | some o =>
       rw [hoo] at h1
       simp only [Bool.and_eq_true] at h1
       have h2 := List.all_eq_true.1 h1.2.2
       have : i ∈ Region.ready .any all cur := mem_ready.2 ⟨hiu, o, hoo, fun e he hb => by
        have := h2 e (Array.mem_toList_iff.2 he)
        rw [hb] at this
        simp only [Bool.not_true, Bool.false_or, Bool.and_eq_true] at this
        have := Nat.le_of_ble_eq_true this.1
        omega⟩
       rw [h0] at this; simp at this
     | succ n ihn =>
      intro i hi him hiu
      have h1 := ok1 i him
      simp only [Bool.and_eq_true] at h1
      cases hoo : all[i]? with
      | none => rw [hoo] at h1; exact absurd h1.2 (by simp)
      | some o =>
       rw [hoo] at h1
       simp only [Bool.and_eq_true] at h1
       have h2 := List.all_eq_true.1 h1.2.2
       have : i ∈ Region.ready .any all cur := mem_ready.2 ⟨hiu, o, hoo, fun e he hb => by
        have h3 := h2 e (Array.mem_toList_iff.2 he)
        rw [hb] at h3
        simp only [Bool.not_true, Bool.false_or, Bool.and_eq_true, Bool.or_eq_true] at h3
        have hlt' : e.on < i := Nat.le_of_ble_eq_true h3.1
        by_cases hei : e.on ∈ idx
        ·cases hq : cur.getD e.on true with
         | false => exact (ihn e.on (by omega) hei hq).elim
         | true =>
          have hsz := hlt e.on hei
          simp only [Array.getD, show e.on < cur.size by omega, dite_true] at hq ⊢
          exact hq
        ·rcases h3.2 with q | q
         ·exact absurd (by simpa using q) hei
         ·have h2 : cur.getD e.on false = listed.getD e.on false := by simp only [Array.getD_eq_getD_getElem?, hco e.on hei]
          rw [h2]; exact q⟩
       rw [h0] at this; simp at this
    obtain ⟨i, hi1, hi2⟩ := hex
    exact least i i (Nat.le_refl _) hi1 hi2
   refine zD Y hne hd (zIG (fun i hi o ho => ?_))
   obtain ⟨him, hiu⟩ := hsub i hi
   obtain ⟨s, hs1, hs2⟩ := (hmem i).1 him
   obtain ⟨o', K, g1, g2, g3, g4⟩ := hst s hs1
   rw [hs2, ho] at g1
   obtain rfl := Option.some.inj g1
   obtain ⟨_, o2, ho2, hdeps⟩ := mem_ready.1 hi
   rw [ho] at ho2
   obtain rfl := Option.some.inj ho2
   refine g3 _ fr (zCu fun p hp => ?_) (zV (zAT ?_))
   ·rcases g4 p hp with q | ⟨s', q1, ⟨e, q2, q3, q4⟩, q5⟩
    ·exact zCx hk0 p q
    ·have h1 := hdeps e q2 q3
     rw [q4] at h1
     rw [← q5]
     refine hck s' q1 ?_
     have hsz := hlt s'.1 ((hmem s'.1).2 ⟨s', q1, rfl⟩)
     simp only [Array.getD, show s'.1 < cur.size by omega, dite_true] at h1 ⊢
     exact h1
   ·have hisz := hlt i him
    refine ih (cur.setIfInBounds i true) _ (by simpa using hcs) (fun j hj => ?_) ?_ (fun s' hs' hu => ?_) ?_
    ·rw [Array.getElem?_setIfInBounds_ne (show i ≠ j from fun e => hj (e ▸ him))]; exact hco j hj
    ·-- one less
     have hf : st.filter (fun s' => !(cur.setIfInBounds i true).getD s'.1 true) = (st.filter (fun s' => !cur.getD s'.1 true)).filter (fun s' => decide (s'.1 ≠ i)) := by
      rw [List.filter_filter]
      congr 1
      funext s'
      by_cases hq : s'.1 = i
      ·rw [hq]; simp [Array.getD, show i < cur.size by omega]
      ·have hq' : ¬ i = s'.1 := fun e => hq e.symm
       simp [Array.getD_eq_getD_getElem?, Array.getElem?_setIfInBounds, hq, hq']
     unfold unl at hcm ⊢
     rw [hf]
     have hmemf : s ∈ st.filter (fun s' => !cur.getD s'.1 true) := List.mem_filter.2 ⟨hs1, by rw [hs2, hiu]; rfl⟩
     have hndf : ((st.filter (fun s' => !cur.getD s'.1 true)).map (·.1)).Nodup := List.Nodup.sublist (List.Sublist.map _ List.filter_sublist) hnd'
     revert hcm hmemf hndf
     generalize st.filter (fun s' => !cur.getD s'.1 true) = L
     intro hcm hmemf hndf
     have gen : ∀ (L : Steps) (n : Nat), L.length = n + 1 → s ∈ L → (L.map (·.1)).Nodup → (L.filter (fun s' => decide (s'.1 ≠ i))).length = n := by
      intro L
      induction L with
      | nil => intro n h; simp at h
      | cons x r ihL =>
       intro n hn hm hnd
       simp only [List.map_cons, List.nodup_cons] at hnd
       rcases List.mem_cons.1 hm with rfl | hm
       ·have hno : ∀ y ∈ r, y.1 ≠ i := fun y hy e => hnd.1 (List.mem_map.2 ⟨y, hy, by rw [e, hs2]⟩)
        have : (r.filter (fun s' => decide (s'.1 ≠ i))) = r := List.filter_eq_self.2 (fun y hy => by simpa using hno y hy)
        rw [List.filter_cons_of_neg (by simp [hs2]), this]
        simpa using hn
       ·have hx : x.1 ≠ i := fun e => hnd.1 (List.mem_map.2 ⟨s, hm, by rw [hs2, e]⟩)
        have hr0 : 0 < r.length := List.length_pos_iff.2 (by rintro rfl; simp at hm)
        obtain ⟨n', rfl⟩ : ∃ n', n = n' + 1 := ⟨n - 1, by simp at hn; omega⟩
        rw [List.filter_cons_of_pos (by simpa using hx), List.length_cons, ihL n' (by simpa using hn) hm hnd.2]
     exact gen L m hcm hmemf hndf
    ·by_cases hq : s'.1 = i
     ·have : s' = s := by
       have h1 : s ∈ st := hs1
       have hinj : ∀ (L : Steps), (L.map (·.1)).Nodup → ∀ x ∈ L, ∀ y ∈ L, x.1 = y.1 → x = y := by
        intro L
        induction L with
        | nil => intro _ x hx; simp at hx
        | cons z r ihL =>
         intro hnd x hx y hy hxy
         simp only [List.map_cons, List.nodup_cons] at hnd
         rcases List.mem_cons.1 hx with hx | hx <;> rcases List.mem_cons.1 hy with hy | hy
         ·rw [hx, hy]
         ·exact absurd (List.mem_map.2 ⟨y, hy, by rw [← hxy, hx]⟩) hnd.1
         ·exact absurd (List.mem_map.2 ⟨x, hx, by rw [hxy, hy]⟩) hnd.1
         ·exact ihL hnd.2 x hx y hy hxy
       exact hinj st hnd' s' hs' s hs1 (by rw [hq, hs2])
      rw [this]
      exact zLN _ _ _
     ·have h1 : cur.getD s'.1 true = true := by
       have hq' : ¬ i = s'.1 := fun e => hq e.symm
       simpa [Array.getD_eq_getD_getElem?, Array.getElem?_setIfInBounds, hq'] using hu
      have h2 := hck s' hs' h1
      -- another slot
      have hne2 : s'.2.1 ≠ s.2.1 := by
       intro e
       obtain ⟨o3, _, f1, f2, _, _⟩ := hst s' hs'
       have h3 := List.all_eq_true.1 (ok3 s'.1 ((hmem s'.1).2 ⟨s', hs', rfl⟩)) i him
       rw [f1, ho] at h3
       simp only [Bool.or_eq_true, Bool.not_eq_true', f2, g2] at h3
       rcases h3 with h3 | h3
       ·exact hq (Nat.eq_of_beq_eq_true h3)
       ·rw [e] at h3; simp at h3
      show (bif Nat.beq s'.2.1 s.2.1 then some s.2.2 else zAH s'.2.1 fr) = _
      rw [zAi hne2]; exact h2
    ·refine zCu fun p hp => ?_
     have h1 := ok1 i him
     simp only [Bool.and_eq_true] at h1
     rw [ho] at h1
     simp only [g2, Bool.and_eq_true, Bool.not_eq_true'] at h1
     have hne3 : p.1 ≠ s.2.1 := by
      intro e
      have : (K0.map (·.1)).contains s.2.1 = true := by
       rw [List.contains_iff_mem]
       exact List.mem_map.2 ⟨p, hp, e⟩
      rw [h1.2.1] at this; cases this
     show (bif Nat.beq p.1 s.2.1 then some s.2.2 else zAH p.1 fr) = _
     rw [zAi hne3]; exact zCx hk0 p hp
 have hm0 : unl listed st = idx.length := by
  unfold unl
  rw [List.filter_eq_self.2 (fun s hs => ?_), hlen]
  have := ok1 s.1 ((hmem s.1).2 ⟨s, hs, rfl⟩)
  simp only [Bool.and_eq_true] at this
  exact this.1
 have := key idx.length listed fr rfl (fun _ _ => rfl) hm0 (fun s hs hu => by
  have h1 := ok1 s.1 ((hmem s.1).2 ⟨s, hs, rfl⟩)
  simp only [Bool.and_eq_true, Bool.not_eq_true'] at h1
  rw [h1.1] at hu; cases hu) hK
 exact this
variable {ind : Bool} {d : Option Nat} {ty : TypeId} {pos : String} {after : Array Edge} {g : Option (Nat × Bool)}
/-- Reading a part of a variable that is a struct. -/
theorem zC0 {x : Operand} {t : TypeId} {u : TypeDesc} {h i j : Nat} {ob : AObj} {inf : TypeInfo} {L : List AV} (ht : P.underlying t = some u) (hu : zAk u = true) (hinf : P.info? t = some inf) (hsz : Nat.ble (j + inf.size) ob.c.sz = true) (hx : ev fr x = some (.ptr h i j)) (hh : H[h]? = some (some ob))
 (hL : (List.range inf.size).map (fun e => ob.c.at i (j + e)) = L) (hi : i < ob.c.len) : QOp false P fn c fr H ⟨d, .load t x, ty, pos, after, g⟩ (.agg L) := by
 intro w a σ S hr
 have h1 := hr.evAt hx
 subst hL
 have hsz' := Nat.le_of_ble_eq_true hsz
 generalize hz : a.eval x = z at h1
 cases h1 with
 | ptr _ _ _ _ b s C hσ =>
  obtain ⟨hs', cur, g1, g2, g3, g4, g5, g6⟩ := hr.obj hh hσ
  subst hs'
  have hcell : ∀ w' : World, w'.heap = w.heap → ∀ e, e < inf.size → ∃ y, w'.cell? ⟨b, i * ob.c.sz + j + e, none⟩ = some y ∧ VR w S σ (ob.c.at i (j + e)) y ∧ y.oneCell' = true := by
   intro w' hw e he
   obtain ⟨y, e1, e2, e3⟩ := g6 i (j + e) hi (by omega)
   obtain ⟨mk, g1, _, _⟩ := g1.cells (by omega)
   exact ⟨y, by simp [World.cell?, hw, g1, Nat.add_assoc, e1], e2, e3⟩
  let cs : List Value := (List.range inf.size).map (fun e => (w.cell? ⟨b, i * ob.c.sz + j + e, none⟩).getD undef)
  refine ⟨.agg cs.toArray, .agg _ _ _ (by simp [cs]) (fun e he => ?_) (fun e he => ?_), fun w' hw => ?_⟩
  ·have he' : e < inf.size := by simpa using he
   obtain ⟨y, e1, e2, _⟩ := hcell w rfl e he'
   simpa [cs, Array.getD, he', e1, List.getD] using e2
  ·have he' : e < inf.size := by simpa using he
   obtain ⟨y, e1, _, e3⟩ := hcell w rfl e he'
   simpa [cs, Array.getD, he', e1] using e3
  ·have hw := hw.resolve_left (by decide)
   have hl := run_loadCells_list (P := P) w' ⟨b, i * ob.c.sz + j, none⟩ cs (fun e v hv => by
    have he : e < inf.size := by simpa [cs] using (List.getElem?_eq_some_iff.1 hv).1
    obtain ⟨y, e1, _, _⟩ := hcell w rfl e he
    simp only [cs, List.getElem?_map, List.getElem?_range he, Option.map_some, Option.some.injEq] at hv
    subst hv
    rw [e1, Addr.add_lit]
    have := World.cell?_of_block (w := w) (w' := w') (a := ⟨b, i * ob.c.sz + j + e, none⟩) (by rw [hw])
    rw [this, e1]; rfl)
   have hcl : cs.length = inf.size := by simp [cs]
   rw [hcl] at hl
   have hz' : a.eval x = .pointer (some ⟨b, i * ob.c.sz + j, none⟩) := by rw [hz]
   simp [execOp, hz', Instr.loadAt, Instr.sureAddr, loadVar, zB7 ht, hu, sizeOf, typeInfo, hinf, hl]
end
end Go.Ax
namespace Go.Ax
variable [Pins]
open Go.RowKit
section
variable {ind : Bool} {P : Program} {fn : Func} {c : Ctx} {fr : Fr} {H : zH} {k : List It}
variable {d : Option Nat} {ty : TypeId} {pos : String} {after : Array Edge} {g : Option (Nat × Bool)}
end
end Go.Ax
namespace Go.Ax
variable [Pins]
open Go.RowKit
mutual
/-- The objects stand behind N others. -/
def AV.shift (N : Nat) : AV → AV
 | .sl h i n => .sl (h + N) i n
 | .ptr h i j => .ptr (h + N) i j
 | .fn f l => .fn f (AV.shifts N l)
 | .agg l => .agg (AV.shifts N l)
 | .tup l => .tup (AV.shifts N l)
 | .mp h => .mp (h + N)
 | v => v
def AV.shifts (N : Nat) : List AV → List AV
 | [] => []
 | v :: r => v.shift N :: AV.shifts N r
end
def Cells.shift (N : Nat) : Cells → Cells
 | .ints k l => .ints k l
 | .strs l => .strs l
 | .box l => .box (AV.shifts N l)
 | .mp ks vs => .mp (AV.shifts N ks) (AV.shifts N vs)
 | .fn n s f => .fn n s (fun i j => (f i j).shift N)
section
variable {P : Program} {fn : Func} {c : Ctx} {fr : Fr} {H : zH} {k : List It} {all : Array Oper} {d : Nat} {g : Operand} {args : List Operand} {ats : Array TypeId} {ty : TypeId} {pos : String} {after : Array Edge} {rest : List Oper} {f : FuncId}
end
mutual
theorem zJK : ∀ (x : AV), noRef x = true → ∀ N, x.shift N = x
 | .int _ _, _, _ => rfl
 | .bool _, _, _ => rfl
 | .str _, _, _ => rfl
 | .nil, _, _ => rfl
 | .ro _ _ _, _, _ => rfl
 | .sl _ _ _, h, _ => by simp [noRef] at h
 | .rp _ _ _, _, _ => rfl
 | .ptr _ _ _, h, _ => by simp [noRef] at h
 | .nilp, _, _ => rfl
 | .fn f l, h, N => by
  have _p := ‹Pins›
  simp only [AV.shift]; rw [zCa l (by simpa [noRef] using h) N]
 | .nilfn, _, _ => rfl
 | .iface, _, _ => rfl
 | .nilif, _, _ => rfl
 | .agg l, h, N => by simp only [AV.shift]; rw [zCa l (by simpa [noRef] using h) N]
 | .tup l, h, N => by simp only [AV.shift]; rw [zCa l (by simpa [noRef] using h) N]
 | .mp _, h, _ => by simp [noRef] at h
 | .rom _ _, _, _ => rfl
 | .any, _, _ => rfl
theorem zCa : ∀ (l : List AV), noRef.noRefs l = true → ∀ N, AV.shifts N l = l
 | [], _, _ => rfl
 | v :: r, h, N => by
  have _p := ‹Pins›
  simp only [noRef.noRefs, Bool.and_eq_true] at h
  simp only [AV.shifts]
  rw [zJK v h.1 N, zCa r h.2 N]
end
end Go.Ax
namespace Go.Ax
variable [Pins]
open Go.RowKit
section
variable {α : Type} {O : AObj} {t : TypeId} {f : α → Cells} {X : List α} {L : zH}
end
section
variable {ind : Bool} {P : Program} {fn : Func} {c : Ctx} {fr : Fr} {H : zH} {k : List It}
variable {d : Option Nat} {ty : TypeId} {pos : String} {after : Array Edge} {g : Option (Nat × Bool)}
/-- Where the object stands is known by a fact. -/
theorem zEP {x i : Operand} {t e : TypeId} {h o len ix : Nat} {ob : AObj} {k : IntKind} {m : Int} (ht : P.underlying t = some (.slice e)) (hx : ev fr x = some (.sl h o len)) (hi : ev fr i = some (.int k m)) (hh : H[h]? = some (some ob)) (hs : (P.info? e).map (·.size) = some ob.c.sz) (hix : o + m.toNat = ix) (hb : 0 ≤ m ∧ m < len) :
 QOp ind P fn c fr H ⟨d, .indexAddr t x i, ty, pos, after, g⟩ (.ptr h ix 0) := zAB ht hx hh hs hi hix hb
theorem zEt {x : Operand} {t : TypeId} {u : TypeDesc} {h i : Nat} {ob : AObj} {inf : TypeInfo} {L : List AV} (ht : P.underlying t = some u) (hu : zAk u = true) (hinf : P.info? t = some inf) (hx : ev fr x = some (.ptr h i 0)) (hh : H[h]? = some (some ob)) (hsz : inf.size = ob.c.sz)
 (hL : (List.range ob.c.sz).map (ob.c.at i) = L) (hi : i < ob.c.len) : QOp false P fn c fr H ⟨d, .load t x, ty, pos, after, g⟩ (.agg L) := zEs ht hu hinf hsz hx hh hL hi
theorem zGL {x : Operand} {t : TypeId} {u : TypeDesc} {h j : Nat} {oty : TypeId} {l : List AV} {v : AV} (ht : P.underlying t = some u) (hu : zAk u = false) (hx : ev fr x = some (.ptr h 0 j)) (hh : H[h]? = some (some ⟨oty, .box l⟩)) (hv : l[j]? = some v) :
 QOp false P fn c fr H ⟨d, .load t x, ty, pos, after, g⟩ v := zR ht hu hx hh hv
end
end Go.Ax
namespace Go.Ax
variable [Pins]
open Go.RowKit
/-- What keys a map has. -/
inductive KSort where
 | int (k : IntKind)
 | str
 | pair (k : IntKind)
inductive KV : KSort → Value → Prop
 | int (k n) : KV (.int k) (.int k n)
 | str (s) : KV .str (.string s)
 | pair (k a b) : KV (.pair k) (.agg #[.int k a, .int k b])
inductive KFit (P : Program) (kt : TypeId) : KSort → Prop
 | int {k} (h : P.underlying kt = some (.int k)) : KFit P kt (.int k)
 | str (h : P.underlying kt = some .string) : KFit P kt .str
 | pair {k e} (h : P.underlying kt = some (.array 2 e)) (he : P.underlying e = some (.int k)) (h1 : (P.info? e).map (·.size) = some 1) : KFit P kt (.pair k)
theorem KV.isKey {s : KSort} {v : Value} (hv : KV s v) : (∀ k, s = .int k → MapKept.IsKey (.int k) v) ∧ (s = .str → MapKept.IsKey .string v) := by
 have _p := ‹Pins›
 cases hv
 ·refine ⟨fun k h => ?_, fun h => ?_⟩
  ·cases h; trivial
  ·cases h
 ·refine ⟨fun k h => ?_, fun h => ?_⟩
  ·cases h
  ·trivial
 ·refine ⟨fun k h => ?_, fun h => ?_⟩
  ·cases h
  ·cases h
section
variable {P : Program} {kt : TypeId} {s : KSort}
theorem zDF {e : TypeId} {q : IntKind} (he : P.underlying e = some (.int q)) (w : World) (cs : Array Value) (o : Nat) {v : Value} (hv : cs[o]? = some v) : (part e cs o).run P w = .ok v w := by
 have _p := ‹Pins›
 simp [part, isAgg, Sem.run_bind, run_underlying he, hv]
theorem zHb {e : TypeId} {q : IntKind} (h : P.underlying kt = some (.array 2 e)) (he : P.underlying e = some (.int q)) (h1 : (P.info? e).map (·.size) = some 1) (w : World) (a b c d : Int) :
 (Op.equal kt (.agg #[.int q a, .int q b]) (.agg #[.int q c, .int q d])).run P w = .ok (decide (a = c ∧ b = d)) w := by
 have _p := ‹Pins›
 have p0 : ∀ x y : Int, (part e #[.int q x, .int q y] 0).run P w = .ok (.int q x) w := fun x y => zDF he w _ 0 rfl
 have p1 : ∀ x y : Int, (part e #[.int q x, .int q y] 1).run P w = .ok (.int q y) w := fun x y => zDF he w _ 1 rfl
 have z0 : (sizeOf e).run P w = .ok 1 w := zEm h1
 have e0 : ∀ x y : Int, (Op.equalIn 9999 e (.int q x) (.int q y)).run P w = .ok (x == y) w := fun x y => run_equalIn_int w 9998 e q q x y he
 unfold Op.equal Op.maxDepth
 rw [show (10000 : Nat) = 9999 + 1 from rfl, Op.equalIn]
 simp only [Sem.run_bind, run_underlying h, Result.andThen_ok, zEm h1]
 simp only [Std.Legacy.Range.forIn_eq_forIn_range', Std.Legacy.Range.size, Nat.sub_zero, Nat.add_sub_cancel, Nat.div_one, List.range'_succ, List.range'_zero, List.forIn_cons, List.forIn_nil]
 simp [Sem.run_bind, Result.andThen, p0, p1, z0, e0]
 by_cases g1 : a = c <;> by_cases g2 : b = d <;> simp [g1, g2, Sem.run_bind, Result.andThen, p0, p1, z0, e0]
theorem zCF (hf : KFit P kt s) {v : Value} (hv : KV s v) (w : World) (em : Bool) : (Instr.checkKey em 10000 kt v).run P w = .ok () w := by
 have _p := ‹Pins›
 cases hv with
 | int k n => cases hf with | int h => exact MapKept.run_checkKey h (by trivial) em 9999
 | str x => cases hf with | str h => exact MapKept.run_checkKey h (by trivial) em 9999
 | pair k a b =>
  cases hf with
  | pair h he h1 =>
   rename_i e
   have p0 : ∀ x y : Int, (part e #[.int k x, .int k y] 0).run P w = .ok (.int k x) w := fun x y => zDF he w _ 0 rfl
   have p1 : ∀ x y : Int, (part e #[.int k x, .int k y] 1).run P w = .ok (.int k y) w := fun x y => zDF he w _ 1 rfl
   have z0 : (sizeOf e).run P w = .ok 1 w := zEm h1
   have c0 : ∀ x : Int, (Instr.checkKey em 9999 e (.int k x)).run P w = .ok () w := fun x => MapKept.run_checkKey he (by trivial) em 9998
   rw [show (10000 : Nat) = 9999 + 1 from rfl, Instr.checkKey]
   simp only [Sem.run_bind, run_underlying h, Result.andThen_ok, zEm h1]
   simp only [Std.Legacy.Range.forIn_eq_forIn_range', Std.Legacy.Range.size, Nat.sub_zero, Nat.add_sub_cancel, Nat.div_one, List.range'_succ, List.range'_zero, List.forIn_cons, List.forIn_nil]
   simp [Sem.run_bind, Result.andThen, p0, p1, z0, c0]
theorem zCc (hf : KFit P kt s) {x : Value} (hx : KV s x) (w : World) (es : List MapEntry) (hes : ∀ e ∈ es, KV s e.key) :
 ((Instr.findKey kt x es).run P w = .ok none w ∧ ∀ e ∈ es, e.key ≠ x) ∨ ∃ j e, (Instr.findKey kt x es).run P w = .ok (some (j, e.val)) w ∧ es[j]? = some e ∧ e.key = x := by
 have _p := ‹Pins›
 have flat : ∀ d, P.underlying kt = some d → MapKept.IsKey d x → (∀ e ∈ es, MapKept.IsKey d e.key) → ((Instr.findKey kt x es).run P w = .ok none w ∧ ∀ e ∈ es, e.key ≠ x) ∨ ∃ j e, (Instr.findKey kt x es).run P w = .ok (some (j, e.val)) w ∧ es[j]? = some e ∧ e.key = x := by
  intro d hd hk hks
  rcases MapKept.findNow_spec hk es 0 hks with ⟨h1, h2⟩ | ⟨j, e, h1, h2, h3⟩
  ·exact .inl ⟨MapKept.run_findKey hd h1, h2⟩
  ·exact .inr ⟨j, e, by rw [Nat.zero_add] at h1; exact MapKept.run_findKey hd h1, h2, h3⟩
 cases hf with
 | int h => exact flat _ h (hx.isKey.1 _ rfl) (fun e he => (hes e he).isKey.1 _ rfl)
 | str h => exact flat _ h (hx.isKey.2 rfl) (fun e he => (hes e he).isKey.2 rfl)
 | pair h he h1 =>
  rename_i k e
  have hnow : ∀ (l : List MapEntry), Instr.findNow (.array 2 e) x l 0 = none ∨ l = [] := by
   intro l
   cases l with
   | nil => exact .inr rfl
   | cons a r => left; cases hx; simp [Instr.findNow, Instr.sameNow]
  have hask : ∀ (l : List MapEntry) (i : Nat), (∀ e ∈ l, KV (.pair k) e.key) → ((Instr.findAsking kt x l i).run P w = .ok none w ∧ ∀ e ∈ l, e.key ≠ x) ∨ ∃ j e, (Instr.findAsking kt x l i).run P w = .ok (some (i + j, e.val)) w ∧ l[j]? = some e ∧ e.key = x := by
   intro l
   induction l with
   | nil => intro i _; exact .inl ⟨rfl, fun e he => by cases he⟩
   | cons y r ih =>
    intro i hl
    obtain ⟨yk, yv, yb⟩ := y
    have hy : KV (.pair k) yk := hl _ (List.mem_cons_self ..)
    cases hx with
    | pair _ a b =>
     cases hy with
     | pair _ c d =>
      have heq := zHb (P := P) h he h1 w a b c d
      by_cases hac : a = c ∧ b = d
      ·obtain ⟨rfl, rfl⟩ := hac
       exact .inr ⟨0, _, by simp [Instr.findAsking, Sem.run_bind, heq, Result.andThen], Y, Y⟩
      ·have hne : (Value.agg #[.int k c, .int k d]) ≠ .agg #[.int k a, .int k b] := by
        intro q; simp at q; exact hac ⟨q.1.symm, q.2.symm⟩
       rcases ih (i + 1) (fun e he => hl e (List.mem_cons_of_mem _ he)) with ⟨g1, g2⟩ | ⟨j, e', g1, g2, g3⟩
       ·refine .inl ⟨by simp [Instr.findAsking, Sem.run_bind, heq, Result.andThen, hac, g1], fun e he => ?_⟩
        rcases List.mem_cons.1 he with rfl | he
        ·exact hne
        ·exact g2 e he
       ·exact .inr ⟨j + 1, e', by simp [Instr.findAsking, Sem.run_bind, heq, Result.andThen, hac, g1]; omega, by simpa using g2, g3⟩
  have hrun : (Instr.findKey kt x es).run P w = (Instr.findAsking kt x es 0).run P w := by
   rcases hnow es with hn | rfl
   ·simp [Instr.findKey, Sem.run_bind, run_underlying h, Result.andThen, hn]
   ·simp [Instr.findKey, Sem.run_bind, run_underlying h, Result.andThen, Instr.findNow, Instr.findAsking]
  rw [hrun]
  rcases hask es 0 hes with h2 | ⟨j, e', g1, g2, g3⟩
  ·exact .inl h2
  ·exact .inr ⟨j, e', by rw [Nat.zero_add] at g1; exact g1, g2, g3⟩
theorem zML {v : Value} (hv : KV s v) : Instr.sameBits 10000 v v = true := by
 have _p := ‹Pins›
 cases hv with
 | int => simp [Instr.sameBits]
 | str => simp [Instr.sameBits]; exact (MapKept.bytes_beq _ _).2 rfl
 | pair => rw [show (10000 : Nat) = 9998 + 1 + 1 from rfl]; simp [Instr.sameBits]
theorem zKk {v : Value} (hv : KV s v) (w : World) : (Instr.keyThatStays v v).run P w = .ok v w := by
 have _p := ‹Pins›
 simp [Instr.keyThatStays, zML hv]
end
/-- Keys, told. -/
def zCV : KSort → AV → Bool
 | .int .i64, .int .i64 _ => true
 | .str, .str _ => true
 | .pair .i64, .agg [.int .i64 _, .int .i64 _] => true
 | _, _ => false
theorem zEK {s : KSort} {x : AV} (h : zCV s x = true) : ∃ u : Value, KV s u ∧ (∀ (w : World) (S : Nat → Prop) (σ : Nat → Option Blk) (v : Value), VR w S σ x v → v = u) ∧ (∀ y : AV, zCV s y = true → ∀ (w : World) (S : Nat → Prop) (σ : Nat → Option Blk), VR w S σ y u → y = x) := by
 have _p := ‹Pins›
 unfold zCV at h
 split at h
 ·rename_i n
  refine ⟨.int .i64 n, .int _ _, fun w S σ v hv => by cases hv; rfl, fun y hy w S σ hv => ?_⟩
  unfold zCV at hy
  split at hy <;> first | (cases hy; done) | (cases hv; rfl) | (rename_i q _; cases q; done) | (rename_i q; cases q; done) | skip
 ·rename_i n
  refine ⟨zD2 n, .str _, fun w S σ v hv => by cases hv; rfl, fun y hy w S σ hv => ?_⟩
  unfold zCV at hy
  split at hy <;> first | (cases hy; done) | (rename_i q _; cases q; done) | (rename_i q; cases q; done) | skip
  rename_i m _
  generalize hz : zD2 n = z at hv
  cases hv
  unfold zD2 at hz
  simp at hz
  rw [hz]
 ·rename_i a b
  refine ⟨.agg #[.int .i64 a, .int .i64 b], .pair _ _ _, fun w S σ v hv => ?_, fun y hy w S σ hv => ?_⟩
  ·cases hv with
   | agg _ _ vs hl hv h1 =>
    obtain ⟨l⟩ := vs
    have hl' : l.length = 2 := by simpa using hl
    match l, hl' with
    | [x, y], _ =>
     have q0 := hv 0 (by simp)
     have q1 := hv 1 (by simp)
     simp at q0 q1
     cases q0; cases q1; rfl
  ·unfold zCV at hy
   split at hy <;> first | (cases hy; done) | (rename_i q _; cases q; done) | (rename_i q; cases q; done) | skip
   cases hv with
   | agg _ _ vs hl hv h1 =>
    have q0 := hv 0 (by simp)
    have q1 := hv 1 (by simp)
    simp at q0 q1
    cases q0; cases q1; rfl
 ·cases h
/-- What a map holds. -/
def zJE (H : zH) : AV → Option (List AV × List AV)
 | .mp h => match H[h]? with
  | some (some o) => match o.c with
   | .mp ks vs => some (ks, vs)
   | _ => none
  | _ => none
 | .rom ks vs => some (ks, vs)
 | _ => none
theorem Rep.map {c : Ctx} {w : World} {a : Act} {σ : Nat → Option Blk} {S : Nat → Prop} {n : Nat} {fr : Fr} {H : zH} (hr : Rep c w a σ S n fr H) {x : AV} {v : Value} {ks vs : List AV} (hv : VR w S σ x v) (hm : zJE H x = some (ks, vs)) :
 ∃ b es clock, v = .map (some b) ∧ w.heap[b]? = some (.map es clock) ∧ es.size = ks.length ∧ vs.length = ks.length ∧ es.toList.Pairwise (fun x y => x.key ≠ y.key) ∧ ∀ i, i < ks.length → ∃ e, es[i]? = some e ∧ VR w S σ (ks.getD i .any) e.key ∧ VR w S σ (vs.getD i .any) e.val := by
 cases hv <;> simp only [zJE] at hm <;> try (cases hm; done)
 case mp h b hσ =>
  cases hq : H[h]? with
  | none => simp [hq] at hm
  | some oo => cases oo with
   | none => simp [hq] at hm
   | some o =>
    simp only [hq] at hm
    rcases hr.hr.live h o hq with ⟨hn, _⟩ | ⟨b', C', cur, hσ', g1, g2, g3, g4, g5, g6⟩
    ·rw [hσ] at hn; cases hn
    ·rw [hσ] at hσ'
     simp only [Option.some.injEq, Blk.at.injEq] at hσ'
     obtain ⟨rfl, hsz, rfl⟩ := hσ'
     cases g1 with
     | row mk _ _ hC => omega
     | map ks' vs' es clock hc _ hb hn hl hd he =>
      rw [hc] at hm
      simp only [Option.some.injEq, Prod.mk.injEq] at hm
      obtain ⟨rfl, rfl⟩ := hm
      exact ⟨b, es, clock, Y, hb, hn, hl, hd, he⟩
 case rom ks' vs' b es clock e hS hb hn hl hd he hk hv =>
  simp only [Option.some.injEq, Prod.mk.injEq] at hm
  obtain ⟨rfl, rfl⟩ := hm
  exact ⟨b, es, clock, rfl, hb, hn, hl, hd, fun i hi => ⟨e i, he i hi, (hk i hi).mono (fun _ h => h) (fun _ _ => rfl) _ (fun _ _ h => by cases h), (hv i hi).mono (fun _ h => h) (fun _ _ => rfl) _ (fun _ _ h => by cases h)⟩⟩
section
variable {ind : Bool} {P : Program} {fn : Func} {c : Ctx} {fr : Fr} {H : zH} {k : List It} {d : Option Nat} {ty : TypeId} {pos : String} {after : Array Edge} {g : Option (Nat × Bool)}
theorem zFW {w : World} {S : Nat → Prop} {σ : Nat → Option Blk} {s : KSort} {ks : List AV} {es : Array MapEntry} (hks : ∀ x ∈ ks, zCV s x = true) (hn : es.size = ks.length) (he : ∀ i, i < ks.length → ∃ e, es[i]? = some e ∧ VR w S σ (ks.getD i .any) e.key) : ∀ e ∈ es.toList, KV s e.key := by
 have _p := ‹Pins›
 intro e hm
 obtain ⟨i, hi, rfl⟩ := List.getElem_of_mem hm
 have hi' : i < ks.length := by simpa [hn] using hi
 obtain ⟨e', e1, e2⟩ := he i hi'
 have hmem : ks.getD i .any ∈ ks := by simp [List.getD, hi']
 obtain ⟨u, u1, u2, _⟩ := zEK (hks _ hmem)
 have : es.toList[i] = e' := by
  have h3 : es.toList[i]? = some e' := by simpa using e1
  rw [List.getElem?_eq_getElem hi] at h3
  exact Option.some.inj h3
 rw [this, u2 _ _ _ _ e2]
 exact u1
/-- m[key], where the key is there. -/
theorem zIh {t kt et : TypeId} {x ix : Operand} {ok : Bool} {m kk v : AV} {ks vs : List AV} {s : KSort} (ht : P.underlying t = some (.map kt et)) (hf : KFit P kt s) (hx : ev fr x = some m) (hm : zJE H m = some (ks, vs)) (hi : ev fr ix = some kk) (hk : zCV s kk = true) (hks : ∀ x ∈ ks, zCV s x = true)
 (i : Nat) (h1 : ks[i]? = some kk) (h2 : vs[i]? = some v) : QOp false P fn c fr H ⟨d, .lookup t x ix ok, ty, pos, after, g⟩ (bif ok then .tup [v, .bool true] else v) := by
 intro w a σ S hr
 have e1 := hr.evAt hx
 have e2 := hr.evAt hi
 obtain ⟨b, es, clock, q1, q2, q3, q4, q5, q6⟩ := hr.map e1 hm
 obtain ⟨u, u1, u2, u3⟩ := zEK hk
 have q7 := u2 _ _ _ _ e2
 have hil : i < ks.length := (List.getElem?_eq_some_iff.1 h1).1
 obtain ⟨e0, p1, p2, p3⟩ := q6 i hil
 have g1 : ks.getD i .any = kk := by simp [List.getD, h1]
 have g2 : vs.getD i .any = v := by simp [List.getD, h2]
 rw [g1] at p2
 rw [g2] at p3
 have p4 := u2 _ _ _ _ p2
 have hkeys := zFW hks q3 (fun i hi => let ⟨e, a, b, _⟩ := q6 i hi; ⟨e, a, b⟩)
 have hval : ∀ w' : World, w'.heap = w.heap → (Instr.lookup t (a.eval x) (a.eval ix) ok).run P w' = .ok (if ok then .tuple #[e0.val, .bool true] else e0.val) w' := by
  intro w' hw
  have hb' : w'.heap[b]? = some (.map es clock) := by rw [hw]; exact q2
  rw [q1, q7]
  rcases zCc hf u1 w' es.toList hkeys with ⟨r1, r2⟩ | ⟨j, e', r1, r2, r3⟩
  ·exact absurd p4 (r2 e0 (by have := List.mem_of_getElem? (l := es.toList) (by simpa using p1); exact this))
  ·have : e' = e0 := by
    have hj := List.getElem?_eq_some_iff.1 r2
    have hi3 := List.getElem?_eq_some_iff.1 (show es.toList[i]? = some e0 by simpa using p1)
    obtain ⟨j1, j2⟩ := hj
    obtain ⟨i1, i2⟩ := hi3
    rcases Nat.lt_trichotomy i j with hlt | rfl | hlt
    ·exact absurd (by rw [i2, j2, p4, r3]) (List.pairwise_iff_getElem.1 q5 i j i1 j1 hlt)
    ·rw [← i2, ← j2]
    ·exact absurd (by rw [i2, j2, p4, r3]) (List.pairwise_iff_getElem.1 q5 j i j1 i1 hlt)
   subst this
   simp [Instr.lookup, Sem.run_bind, run_underlying ht, Result.andThen, MapKept.run_getObj_map hb', zCF hf u1, r1]
 refine ⟨if ok then .tuple #[e0.val, .bool true] else e0.val, ?_, fun w' hw => ?_⟩
 ·cases ok with
  | false => exact p3
  | true =>
   refine .tup _ _ _ Y (fun j hj => ?_)
   match j, hj with
   | 0, _ => exact p3
   | 1, _ => exact .bool _ _
 ·have hw := hw.resolve_left (by decide)
  simp only [execOp, Sem.run_bind, hval w' hw]
  rfl
/-- .. where it is not. -/
theorem zHY {t kt et : TypeId} {x ix : Operand} {ok : Bool} {m kk zv : AV} {ks vs : List AV} {s : KSort} {inf : TypeInfo} {z : Value} (ht : P.underlying t = some (.map kt et)) (hf : KFit P kt s) (hinf : P.info? et = some inf) (hz : inf.zero = some z) (hzv : zav z = some [zv]) (hz1 : z.cells = #[z]) (hx : ev fr x = some m) (hm : zJE H m = some (ks, vs)) (hi : ev fr ix = some kk) (hk : zCV s kk = true) (hks : ∀ x ∈ ks, zCV s x = true)
 (h1 : kk ∉ ks) : QOp false P fn c fr H ⟨d, .lookup t x ix ok, ty, pos, after, g⟩ (bif ok then .tup [zv, .bool false] else zv) := by
 intro w a σ S hr
 have e1 := hr.evAt hx
 have e2 := hr.evAt hi
 obtain ⟨b, es, clock, q1, q2, q3, q4, q5, q6⟩ := hr.map e1 hm
 obtain ⟨u, u1, u2, u3⟩ := zEK hk
 have q7 := u2 _ _ _ _ e2
 have hkeys := zFW hks q3 (fun i hi => let ⟨e, a, b, _⟩ := q6 i hi; ⟨e, a, b⟩)
 have hno : ∀ e ∈ es.toList, e.key ≠ u := by
  intro e hm' he
  obtain ⟨i, hi', rfl⟩ := List.getElem_of_mem hm'
  have hil : i < ks.length := by simpa [q3] using hi'
  obtain ⟨e', p1, p2, _⟩ := q6 i hil
  have : es.toList[i] = e' := by
   have h3 : es.toList[i]? = some e' := by simpa using p1
   rw [List.getElem?_eq_getElem hi'] at h3
   exact Option.some.inj h3
  rw [this] at he
  rw [he] at p2
  have hmem : ks.getD i .any ∈ ks := by simp [List.getD, hil]
  have := u3 _ (hks _ hmem) _ _ _ p2
  rw [this] at hmem
  exact h1 hmem
 have hval : ∀ w' : World, w'.heap = w.heap → (Instr.lookup t (a.eval x) (a.eval ix) ok).run P w' = .ok (if ok then .tuple #[z, .bool false] else z) w' := by
  intro w' hw
  have hb' : w'.heap[b]? = some (.map es clock) := by rw [hw]; exact q2
  have hzr : (zeroValue et).run P w' = .ok z w' := by simp [zeroValue, Sem.run_bind, typeInfo, hinf, hz]
  rw [q1, q7]
  rcases zCc hf u1 w' es.toList hkeys with ⟨r1, r2⟩ | ⟨j, e', r1, r2, r3⟩
  ·simp [Instr.lookup, Sem.run_bind, run_underlying ht, Result.andThen, MapKept.run_getObj_map hb', zCF hf u1, r1, hzr]
  ·exact absurd r3 (hno e' (List.mem_of_getElem? r2))
 have hzz : VR w S σ zv z := by
  have := (zEY (w := w) (S := S) (σ := σ) hzv).2 0 (by simp)
  rw [hz1] at this
  simpa using this.1
 refine ⟨if ok then .tuple #[z, .bool false] else z, ?_, fun w' hw => ?_⟩
 ·cases ok with
  | false => exact hzz
  | true =>
   refine .tup _ _ _ Y (fun j hj => ?_)
   match j, hj with
   | 0, _ => exact hzz
   | 1, _ => exact .bool _ _
 ·have hw := hw.resolve_left (by decide)
  simp only [execOp, Sem.run_bind, hval w' hw]
  rfl
end
theorem Rep.allocL {c : Ctx} {w : World} {a : Act} {σ : Nat → Option Blk} {S : Nat → Prop} {n : Nat} {fr : Fr} {H : zH} (hr : Rep c w a σ S n fr H) {o : AObj} {C : Nat} {cur : Array Value} (ob : Obj) (hlen : o.c.len ≤ C) (hC : C ≤ maxLen + 1) (hcur : cur.size = C * o.c.sz) (hL : Lays (w.alloc ob) S (upσ σ H.length (.at w.heap.size o.c.sz C)) o w.heap.size cur C)
 (hc : ∀ i j, i < o.c.len → j < o.c.sz → ∃ v, cur[i * o.c.sz + j]? = some v ∧ VR w S σ (o.c.at i j) v ∧ v.oneCell' = true) :
 Rep c (w.alloc ob) a (upσ σ H.length (.at w.heap.size o.c.sz C)) S n fr (H ++ [some o]) := by
 have hold : ∀ b, b < w.heap.size → (w.alloc ob).heap[b]? = w.heap[b]? := fun b hb => Below.heap_alloc _ _ b hb
 have hext : ∀ h B, σ h = some B → upσ σ H.length (.at w.heap.size o.c.sz C) h = some B := by
  intro h B hB
  unfold upσ
  split
  ·rename_i he; rw [he, hr.hr.dom _ (Nat.le_refl _)] at hB; cases hB
  ·exact hB
 have hv : ∀ {x v}, VR w S σ x v → VR (w.alloc ob) S (upσ σ H.length (.at w.heap.size o.c.sz C)) x v :=
  fun h => h.mono (fun _ h => h) (fun b hb => hold b (hr.hr.small b hb)) _ hext
 have hset : ∀ h' o', (H ++ [some o])[h']? = some (some o') → (h' = H.length ∧ o' = o) ∨ (h' < H.length ∧ H[h']? = some (some o')) := by
  intro h' o' ho
  by_cases he : h' < H.length
  ·rw [List.getElem?_append_left he] at ho; exact .inr ⟨he, ho⟩
  ·by_cases he2 : h' = H.length
   ·subst he2; simp at ho; exact .inl ⟨rfl, ho.symm⟩
   ·have : (H ++ [some o]).length ≤ h' := by simp; omega
    rw [List.getElem?_eq_none this] at ho; cases ho
 have hσlt : ∀ h o' b s C', h < H.length → H[h]? = some (some o') → σ h = some (.at b s C') → b < w.heap.size := by
  intro h o' b s C' _ ho hb
  obtain ⟨_, cu, g, _⟩ := hr.obj ho hb
  exact g.lt
 refine ⟨⟨?_, ?_, fun b hb => by have := hr.hr.small b hb; simp; omega, fun h hl => ?_⟩, ?_, hr.defers, hr.size, fun t v hl => ⟨(hr.slots t v hl).1, hv (hr.slots t v hl).2⟩⟩
 ·intro h' o' ho
  rcases hset h' o' ho with ⟨rfl, rfl⟩ | ⟨hlt, ho'⟩
  ·right
   refine ⟨w.heap.size, C, cur, by simp [upσ], hL, hcur, hC, hlen, fun hs => Nat.lt_irrefl _ (hr.hr.small _ hs), fun i j hi hj => ?_⟩
   obtain ⟨v, e1, e2, e3⟩ := hc i j hi hj
   exact ⟨v, e1, hv e2, e3⟩
  ·rcases hr.hr.live h' o' ho' with ⟨hn, hl0⟩ | ⟨b', C', cu, g1, g2, g3, g4, g5, g6, g7⟩
   ·exact .inl ⟨hext _ _ hn, hl0⟩
   ·right
    refine ⟨b', C', cu, hext _ _ g1, g2.mono (hold b' g2.lt) hv, g3, g4, g5, g6, fun i j hi hj => ?_⟩
    obtain ⟨v, e1, e2, e3⟩ := g7 i j hi hj
    exact ⟨v, e1, hv e2, e3⟩
 ·intro h1 h2 o1 o2 b s1 C1 s2 C2 g1 g2 e1 e2
  rcases hset h1 o1 g1 with ⟨rfl, rfl⟩ | ⟨l1, g1'⟩ <;> rcases hset h2 o2 g2 with ⟨rfl, rfl⟩ | ⟨l2, g2'⟩
  ·rfl
  ·simp only [upσ, if_true, Option.some.injEq, Blk.at.injEq] at e1
   simp only [upσ, Nat.ne_of_lt l2, if_false] at e2
   have := hσlt h2 o2 b s2 C2 l2 g2' e2
   omega
  ·simp only [upσ, if_true, Option.some.injEq, Blk.at.injEq] at e2
   simp only [upσ, Nat.ne_of_lt l1, if_false] at e1
   have := hσlt h1 o1 b s1 C1 l1 g1' e1
   omega
  ·simp only [upσ, Nat.ne_of_lt l1, Nat.ne_of_lt l2, if_false] at e1 e2
   exact hr.hr.dist h1 h2 o1 o2 b s1 C1 s2 C2 g1' g2' e1 e2
 ·simp only [List.length_append, List.length_cons, List.length_nil] at hl
  have : ¬ h = H.length := by omega
  simp only [upσ, this, if_false]
  exact hr.hr.dom h (by omega)
 ·refine ⟨hr.kp.os, hr.kp.output, hr.kp.tape, by have := hr.kp.size; simp; omega, fun b hb ho => ?_, hr.kp.S1, hr.kp.S2, fun h hf => ?_, fun h hf => by have := hr.kp.fixlt h hf; simp; omega, ?_⟩
  ·rw [hold b (by have := hr.kp.size; omega)]; exact hr.kp.block b hb ho
  ·have := hr.kp.fixlt h hf
   have h2 : ¬ h = H.length := by omega
   simp only [upσ, h2, if_false]
   exact hr.kp.fixed h hf
  ·intro h' o' b s C' ho hb
   rcases hset h' o' ho with ⟨rfl, rfl⟩ | ⟨hlt, ho'⟩
   ·simp only [upσ, if_true, Option.some.injEq, Blk.at.injEq] at hb
    have := hr.kp.size
    omega
   ·simp only [upσ, Nat.ne_of_lt hlt, if_false] at hb
    exact hr.kp.own h' o' b s C' ho' hb
theorem Rep.reobj {c : Ctx} {w : World} {a : Act} {σ : Nat → Option Blk} {S : Nat → Prop} {n : Nat} {fr : Fr} {H : zH} (hr : Rep c w a σ S n fr H) {h b s C : Nat} {o : AObj} (hh : H[h]? = some (some o)) (hσ : σ h = some (.at b s C))
 {c' : Cells} {cur' : Array Value} (w' : World) (hos : w'.os = w.os) (hout : w'.output = w.output) (htape : w'.tape = w.tape) (hsize : w'.heap.size = w.heap.size) (hoth : ∀ b', b' ≠ b → w'.heap[b']? = w.heap[b']?) (hsz : c'.sz = o.c.sz) (hlen : c'.len ≤ C) (hcur : cur'.size = C * o.c.sz)
 (hc : ∀ i j, i < c'.len → j < c'.sz → ∃ v, cur'[i * c'.sz + j]? = some v ∧ VR w S σ (c'.at i j) v ∧ v.oneCell' = true) (hL : Lays w' S σ ⟨o.ty, c'⟩ b cur' C) :
 Rep c w' a σ S n fr (H.set h (some ⟨o.ty, c'⟩)) := by
 obtain ⟨hs, cur, h1, h2, h3, h4, h5, h6⟩ := hr.obj hh hσ
 have hlt : h < H.length := (List.getElem?_eq_some_iff.1 hh).1
 have hS : ∀ b', S b' → w'.heap[b']? = w.heap[b']? := fun b' hb => hoth b' (fun e => h5 (e ▸ hb))
 have hv : ∀ {σ' : Nat → Option Blk} {x v}, VR w S σ' x v → VR w' S σ' x v := fun h => h.mono (fun _ h => h) hS _ (fun _ _ h => h)
 have hset : ∀ h' o', (H.set h (some ⟨o.ty, c'⟩))[h']? = some (some o') → (h' = h ∧ o' = ⟨o.ty, c'⟩) ∨ (h' ≠ h ∧ H[h']? = some (some o')) := by
  intro h' o' ho
  by_cases he : h' = h
  ·subst he
   simp only [List.getElem?_set_self hlt, Option.some.injEq] at ho
   exact .inl ⟨Y, ho.symm⟩
  ·rw [List.getElem?_set_ne (Ne.symm he)] at ho
   exact .inr ⟨he, ho⟩
 have hown := hr.kp.own h o b s C hh hσ
 refine ⟨⟨?_, ?_, fun b' hb => by rw [hsize]; exact hr.hr.small b' hb, fun h' hl => hr.hr.dom h' (by simpa using hl)⟩, ?_, hr.defers, hr.size, fun t v hl => ⟨(hr.slots t v hl).1, hv (hr.slots t v hl).2⟩⟩
 ·intro h' o' ho
  rcases hset h' o' ho with ⟨rfl, rfl⟩ | ⟨hne, ho'⟩
  ·right
   refine ⟨b, C, cur', ?_, hL, by simpa [hsz] using hcur, h3, hlen, h5, fun i j hi hj => ?_⟩
   ·rw [hσ, hs, hsz]
   ·obtain ⟨v, e1, e2, e3⟩ := hc i j hi hj
    exact ⟨v, e1, hv e2, e3⟩
  ·rcases hr.hr.live h' o' ho' with hn | ⟨b', C', cu, g1, g2, g3, g4, g5, g6, g7⟩
   ·exact .inl hn
   ·right
    have hbb : b' ≠ b := fun e => hne (hr.hr.dist h' h o' o b' o'.c.sz C' s C ho' hh g1 (by rw [hσ, e]))
    refine ⟨b', C', cu, g1, g2.mono (hoth b' hbb) hv, g3, g4, g5, g6, fun i j hi hj => ?_⟩
    obtain ⟨v, e1, e2, e3⟩ := g7 i j hi hj
    exact ⟨v, e1, hv e2, e3⟩
 ·intro h1' h2' o1 o2 b' s1 C1 s2 C2 g1 g2 e1 e2
  have t1 : ∃ o, H[h1']? = some (some o) := by
   rcases hset h1' o1 g1 with ⟨rfl, _⟩ | ⟨_, g⟩
   ·exact ⟨_, hh⟩
   ·exact ⟨_, g⟩
  have t2 : ∃ o, H[h2']? = some (some o) := by
   rcases hset h2' o2 g2 with ⟨rfl, _⟩ | ⟨_, g⟩
   ·exact ⟨_, hh⟩
   ·exact ⟨_, g⟩
  obtain ⟨_, t1⟩ := t1
  obtain ⟨_, t2⟩ := t2
  exact hr.hr.dist h1' h2' _ _ b' s1 C1 s2 C2 t1 t2 e1 e2
 ·refine ⟨hos.trans hr.kp.os, hout.trans hr.kp.output, htape.trans hr.kp.tape, by rw [hsize]; exact hr.kp.size, fun b' hb ho => ?_, hr.kp.S1, hr.kp.S2, hr.kp.fixed, fun h' hf => by simpa using hr.kp.fixlt h' hf, ?_⟩
  ·have hbb : b' ≠ b := by
    rintro rfl
    rcases hown with h | h
    ·exact ho h
    ·omega
   rw [hoth b' hbb]
   exact hr.kp.block b' hb ho
  ·intro h' o' b' s' C' ho hb
   rcases hset h' o' ho with ⟨rfl, _⟩ | ⟨_, g⟩
   ·exact hr.kp.own _ _ b' s' C' hh hb
   ·exact hr.kp.own h' o' b' s' C' g hb
section
variable {ind : Bool} {P : Program} {fn : Func} {c : Ctx} {fr : Fr} {H : zH} {k : List It} {d : Option Nat} {ty : TypeId} {pos : String} {after : Array Edge} {g : Option (Nat × Bool)}
/-- A new map. -/
theorem zJt {all : Array Oper} {d : Nat} {t : TypeId} {rest : List Oper} (hk : Ax P fn c (.ops false all rest k) ((d, .mp H.length) :: fr) (H ++ [some ⟨t, .mp [] []⟩])) : Ax P fn c (.ops false all (⟨some d, .makeMap t none, ty, pos, after, none⟩ :: rest) k) fr H := by
 refine ax_w (fun w a σ S hr => ?_) hk
 have hrun : (execOp a.eval ⟨some d, .makeMap t none, ty, pos, after, none⟩).run P w = .ok (.value (.map (some w.heap.size))) (w.alloc (.map #[] 0)) := by
  simp [execOp, Instr.makeMap, Sem.run_bind, newObj, Sem.run, Result.andThen]
 refine ⟨_, _, _, S, hrun, hr.allocL (o := ⟨t, .mp [] []⟩) (C := maxLen + 1) (cur := #[]) (.map #[] 0) (Nat.zero_le _) (Nat.le_refl _) Y (.map [] [] #[] 0 Y Y (MapKept.heap_alloc w _).1 Y Y (by simp) (fun i hi => absurd hi (Nat.not_lt_zero _))) (fun i j hi => absurd hi (Nat.not_lt_zero _)), ?_⟩
 exact .mp _ _ _ (by simp [upσ, Cells.sz])
theorem Rep.own_map {w : World} {a : Act} {σ : Nat → Option Blk} {S : Nat → Prop} {n : Nat} (hr : Rep c w a σ S n fr H) {h : Nat} {x : Value} {t : TypeId} {ks vs : List AV} (hv : VR w S σ (.mp h) x) (hh : H[h]? = some (some ⟨t, .mp ks vs⟩)) :
 ∃ b es clock, x = .map (some b) ∧ σ h = some (.at b 0 (maxLen + 1)) ∧ w.heap[b]? = some (.map es clock) ∧ es.size = ks.length ∧ vs.length = ks.length ∧ es.toList.Pairwise (fun x y => x.key ≠ y.key) ∧ ∀ i, i < ks.length → ∃ e, es[i]? = some e ∧ VR w S σ (ks.getD i .any) e.key ∧ VR w S σ (vs.getD i .any) e.val := by
 have hσ : ∃ b, x = .map (some b) ∧ σ h = some (.at b 0 (maxLen + 1)) := by cases hv with | mp _ _ b hσ => exact ⟨b, rfl, hσ⟩
 obtain ⟨b, rfl, hσ⟩ := hσ
 obtain ⟨b2, es, clock, q1, q2⟩ := hr.map (ks := ks) (vs := vs) hv (by simp only [zJE, hh])
 simp at q1
 subst q1
 exact ⟨_, es, clock, Y, hσ, q2⟩
theorem find_at {es : Array MapEntry} {u : Value} {i j : Nat} {e e' : MapEntry} (hd : es.toList.Pairwise (fun x y => x.key ≠ y.key)) (h1 : es[i]? = some e) (h2 : e.key = u) (h3 : es.toList[j]? = some e') (h4 : e'.key = u) : i = j := by
 have _p := ‹Pins›
 obtain ⟨j1, j2⟩ := List.getElem?_eq_some_iff.1 h3
 obtain ⟨i1, i2⟩ := List.getElem?_eq_some_iff.1 (show es.toList[i]? = some e by simpa using h1)
 rcases Nat.lt_trichotomy i j with hlt | rfl | hlt
 ·exact absurd (by rw [i2, j2, h2, h4]) (List.pairwise_iff_getElem.1 hd i j i1 j1 hlt)
 ·rfl
 ·exact absurd (by rw [i2, j2, h2, h4]) (List.pairwise_iff_getElem.1 hd j i j1 i1 hlt)
/-- m[key] = v, where the key is there. -/
theorem zHT {all : Array Oper} {t kt et t' : TypeId} {x ix y : Operand} {rest : List Oper} {h : Nat} {kk v : AV} {ks vs : List AV} {s : KSort} (ht : P.underlying t = some (.map kt et)) (hf : KFit P kt s) (hx : ev fr x = some (.mp h)) (hh : H[h]? = some (some ⟨t', .mp ks vs⟩)) (hi : ev fr ix = some kk) (hy : ev fr y = some v) (hk : zCV s kk = true) (hks : ∀ x ∈ ks, zCV s x = true)
 (i : Nat) (h1 : ks[i]? = some kk) (hk' : Ax P fn c (.ops false all rest k) fr (H.set h (some ⟨t', .mp ks (vs.set i v)⟩))) : Ax P fn c (.ops false all (⟨none, .mapUpdate t x ix y, ty, pos, after, none⟩ :: rest) k) fr H := by
 refine ax_w0 (fun w a σ S hr => ?_) hk'
 have e1 := hr.evAt hx
 have e2 := hr.evAt hi
 have e3 := hr.evAt hy
 obtain ⟨b, es, clock, q1, hσ, q2, q3, q4, q5, q6⟩ := hr.own_map e1 hh
 obtain ⟨u, u1, u2, u3⟩ := zEK hk
 have q7 := u2 _ _ _ _ e2
 have hil : i < ks.length := (List.getElem?_eq_some_iff.1 h1).1
 obtain ⟨e0, p1, p2, p3⟩ := q6 i hil
 have g1 : ks.getD i .any = kk := by simp [List.getD, h1]
 rw [g1] at p2
 have p4 := u2 _ _ _ _ p2
 have hkeys := zFW hks q3 (fun i hi => let ⟨e, a, b, _⟩ := q6 i hi; ⟨e, a, b⟩)
 have hie : i < es.size := by omega
 have hrun : (Instr.mapUpdate t (a.eval x) (a.eval ix) (a.eval y)).run P w = .ok () { w with heap := w.heap.setIfInBounds b (.map (es.modify i fun e => { e with key := u, val := a.eval y }) clock) } := by
  rw [q1, q7]
  rcases zCc hf u1 w es.toList hkeys with ⟨r1, r2⟩ | ⟨j, e', r1, r2, r3⟩
  ·exact absurd p4 (r2 e0 (List.mem_of_getElem? (l := es.toList) (by simpa using p1)))
  ·have hij := find_at q5 p1 p4 r2 r3
   subst hij
   have : ((es[i]?).map (·.key)).getD u = u := by rw [p1]; simpa using p4
   simp only [Instr.mapUpdate, Sem.run_bind, run_underlying ht, Result.andThen_ok, MapKept.run_getObj_map q2, zCF hf u1, r1, this, zKk u1, MapKept.run_setObj_map _ q2]
 have hset := MapKept.heap_set (o' := .map (es.modify i fun e => { e with key := u, val := a.eval y }) clock) q2
 generalize hw' : ({ w with heap := w.heap.setIfInBounds b (.map (es.modify i fun e => { e with key := u, val := a.eval y }) clock) } : World) = w' at hrun
 have hwh : w'.heap = w.heap.setIfInBounds b (.map (es.modify i fun e => { e with key := u, val := a.eval y }) clock) := by rw [← hw']
 have hnS : ¬ S b := (hr.obj hh hσ).2.choose_spec.2.2.2.2.1
 have hoth : ∀ b', b' ≠ b → w'.heap[b']? = w.heap[b']? := fun b' hb => by rw [hwh]; exact hset.2 b' hb
 have hv : ∀ {x v}, VR w S σ x v → VR w' S σ x v := fun hv => hv.mono (fun _ h => h) (fun b' hb => hoth b' (fun e => hnS (e ▸ hb))) _ (fun _ _ h => h)
 have hkey : ∀ (j : Nat) (e : MapEntry), es[j]? = some e → (if j = i then ({ e with key := u, val := a.eval y } : MapEntry) else e).key = e.key := by
  intro j e hj
  split
  ·rename_i hji; subst hji; rw [p1] at hj; cases hj; exact p4.symm
  ·rfl
 have hmod : ∀ j : Nat, (es.modify i fun e => { e with key := u, val := a.eval y })[j]? = (es[j]?).map (fun e => if j = i then ({ e with key := u, val := a.eval y } : MapEntry) else e) := by
  intro j
  rw [Array.getElem?_modify]
  by_cases hij : i = j
  ·subst hij; simp
  ·have : ¬ j = i := fun e => hij e.symm
   simp [hij, this]
 refine ⟨w', σ, S, by simp only [execOp, Sem.run_bind, hrun]; rfl, hr.reobj (o := ⟨t', .mp ks vs⟩) hh hσ (c' := .mp ks (vs.set i v)) (cur' := #[]) w' (by rw [← hw']) (by rw [← hw']) (by rw [← hw']) (by rw [hwh]; simp) hoth Y (Nat.zero_le _) Y (fun i j hi => absurd hi (Nat.not_lt_zero _))
  (.map ks (vs.set i v) _ clock rfl rfl (by rw [hwh]; exact hset.1) (by simpa using q3) (by simpa using q4) ?_ (fun j hj => ?_))⟩
 ·rw [List.pairwise_iff_getElem] at q5 ⊢
  intro a1 b1 ha hb hab
  have hsz : (es.modify i fun e => { e with key := u, val := a.eval y }).toList.length = es.toList.length := by simp
  have ka : ∀ (j : Nat) (hj : j < (es.modify i fun e => { e with key := u, val := a.eval y }).toList.length) (hj2 : j < es.toList.length), ((es.modify i fun e => { e with key := u, val := a.eval y }).toList[j]).key = (es.toList[j]).key := by
   intro j hj hj2
   have h5 := hmod j
   have hj3 : es[j]? = some (es.toList[j]) := by
    have h8 : es.toList[j]? = some (es.toList[j]) := List.getElem?_eq_getElem hj2
    rw [Array.getElem?_toList] at h8
    exact h8
   rw [hj3] at h5
   simp only [Option.map_some] at h5
   have h6 : (es.modify i fun e => { e with key := u, val := a.eval y }).toList[j]? = some ((es.modify i fun e => { e with key := u, val := a.eval y }).toList[j]) := List.getElem?_eq_getElem hj
   have h7 : (es.modify i fun e => { e with key := u, val := a.eval y }).toList[j]? = some (if j = i then ({ es.toList[j] with key := u, val := a.eval y } : MapEntry) else es.toList[j]) := by
    rw [Array.getElem?_toList]; exact h5
   rw [h6] at h7
   rw [Option.some.inj h7]
   exact hkey j _ hj3
  rw [ka a1 ha (by omega), ka b1 hb (by omega)]
  exact q5 a1 b1 (by omega) (by omega) hab
 ·obtain ⟨e, r1, r2, r3⟩ := q6 j hj
  refine ⟨if j = i then ({ e with key := u, val := a.eval y } : MapEntry) else e, by rw [hmod j, r1]; rfl, ?_, ?_⟩
  ·rw [hkey j e r1]; exact hv r2
  ·by_cases hji : j = i
   ·subst hji
    simp only [if_true]
    have : (vs.set j v).getD j .any = v := by simp [List.getD, show j < vs.length by omega]
    rw [this]; exact hv e3
   ·simp only [hji, if_false]
    have : (vs.set i v).getD j .any = vs.getD j .any := by simp [List.getD, List.getElem?_set_ne (Ne.symm hji)]
    rw [this]; exact hv r3
/-- .. where it is not. -/
theorem zGg {all : Array Oper} {t kt et t' : TypeId} {x ix y : Operand} {rest : List Oper} {h : Nat} {kk v : AV} {ks vs : List AV} {s : KSort} (ht : P.underlying t = some (.map kt et)) (hf : KFit P kt s) (hx : ev fr x = some (.mp h)) (hh : H[h]? = some (some ⟨t', .mp ks vs⟩)) (hi : ev fr ix = some kk) (hy : ev fr y = some v) (hk : zCV s kk = true) (hks : ∀ x ∈ ks, zCV s x = true)
 (h1 : kk ∉ ks) (hk' : Ax P fn c (.ops false all rest k) fr (H.set h (some ⟨t', .mp (ks ++ [kk]) (vs ++ [v])⟩))) : Ax P fn c (.ops false all (⟨none, .mapUpdate t x ix y, ty, pos, after, none⟩ :: rest) k) fr H := by
 refine ax_w0 (fun w a σ S hr => ?_) hk'
 have e1 := hr.evAt hx
 have e2 := hr.evAt hi
 have e3 := hr.evAt hy
 obtain ⟨b, es, clock, q1, hσ, q2, q3, q4, q5, q6⟩ := hr.own_map e1 hh
 obtain ⟨u, u1, u2, u3⟩ := zEK hk
 have q7 := u2 _ _ _ _ e2
 have hkeys := zFW hks q3 (fun i hi => let ⟨e, a, b, _⟩ := q6 i hi; ⟨e, a, b⟩)
 have hno : ∀ e ∈ es.toList, e.key ≠ u := by
  intro e hm' he
  obtain ⟨i, hi', rfl⟩ := List.getElem_of_mem hm'
  have hil : i < ks.length := by simpa [q3] using hi'
  obtain ⟨e', p1, p2, _⟩ := q6 i hil
  have : es.toList[i] = e' := by
   have h3 : es.toList[i]? = some e' := by simpa using p1
   rw [List.getElem?_eq_getElem hi'] at h3
   exact Option.some.inj h3
  rw [this] at he
  rw [he] at p2
  have hmem : ks.getD i .any ∈ ks := by simp [List.getD, hil]
  have := u3 _ (hks _ hmem) _ _ _ p2
  rw [this] at hmem
  exact h1 hmem
 have hrun : (Instr.mapUpdate t (a.eval x) (a.eval ix) (a.eval y)).run P w = .ok () { w with heap := w.heap.setIfInBounds b (.map (es.push { key := u, val := a.eval y, born := clock }) (clock + 1)) } := by
  rw [q1, q7]
  rcases zCc hf u1 w es.toList hkeys with ⟨r1, r2⟩ | ⟨j, e', r1, r2, r3⟩
  ·simp only [Instr.mapUpdate, Sem.run_bind, run_underlying ht, Result.andThen_ok, MapKept.run_getObj_map q2, zCF hf u1, r1, MapKept.run_setObj_map _ q2]
  ·exact absurd r3 (hno e' (List.mem_of_getElem? r2))
 have hset := MapKept.heap_set (o' := .map (es.push { key := u, val := a.eval y, born := clock }) (clock + 1)) q2
 generalize hw' : ({ w with heap := w.heap.setIfInBounds b (.map (es.push { key := u, val := a.eval y, born := clock }) (clock + 1)) } : World) = w' at hrun
 have hwh : w'.heap = w.heap.setIfInBounds b (.map (es.push { key := u, val := a.eval y, born := clock }) (clock + 1)) := by rw [← hw']
 have hnS : ¬ S b := (hr.obj hh hσ).2.choose_spec.2.2.2.2.1
 have hoth : ∀ b', b' ≠ b → w'.heap[b']? = w.heap[b']? := fun b' hb => by rw [hwh]; exact hset.2 b' hb
 have hv : ∀ {x v}, VR w S σ x v → VR w' S σ x v := fun hv => hv.mono (fun _ h => h) (fun b' hb => hoth b' (fun e => hnS (e ▸ hb))) _ (fun _ _ h => h)
 refine ⟨w', σ, S, by simp only [execOp, Sem.run_bind, hrun]; rfl, hr.reobj (o := ⟨t', .mp ks vs⟩) hh hσ (c' := .mp (ks ++ [kk]) (vs ++ [v])) (cur' := #[]) w' (by rw [← hw']) (by rw [← hw']) (by rw [← hw']) (by rw [hwh]; simp) hoth Y (Nat.zero_le _) Y (fun i j hi => absurd hi (Nat.not_lt_zero _))
  (.map _ _ _ (clock + 1) rfl rfl (by rw [hwh]; exact hset.1) (by simp [q3]) (by simp [q4]) ?_ (fun j hj => ?_))⟩
 ·rw [Array.toList_push, List.pairwise_append]
  exact ⟨q5, by simp, fun x hx y hy => by simp at hy; subst hy; exact hno x hx⟩
 ·simp only [List.length_append, List.length_cons, List.length_nil] at hj
  by_cases hl : j < ks.length
  ·obtain ⟨e, r1, r2, r3⟩ := q6 j hl
   refine ⟨e, by rw [Array.getElem?_push, if_neg (by omega)]; exact r1, ?_, ?_⟩
   ·have : (ks ++ [kk]).getD j .any = ks.getD j .any := by simp [List.getD, List.getElem?_append_left hl]
    rw [this]; exact hv r2
   ·have : (vs ++ [v]).getD j .any = vs.getD j .any := by simp [List.getD, List.getElem?_append_left (show j < vs.length by omega)]
    rw [this]; exact hv r3
  ·have hje : j = es.size := by omega
   refine ⟨{ key := u, val := a.eval y, born := clock }, by rw [Array.getElem?_push, if_pos hje], ?_, ?_⟩
   ·have : (ks ++ [kk]).getD j .any = kk := by simp [List.getD, hje, q3]
    rw [this]
    have := hv e2
    rw [q7] at this
    exact this
   ·have : (vs ++ [v]).getD j .any = v := by simp [List.getD, hje, q3, ← q4]
    rw [this]; exact hv e3
end
end Go.Ax
namespace Go.Ax
variable [Pins]
open Go.RowKit
section
variable {ind : Bool} {P : Program} {fn : Func} {c : Ctx} {fr : Fr} {H : zH} {k : List It}
variable {d : Option Nat} {ty : TypeId} {pos : String} {after : Array Edge} {g : Option (Nat × Bool)}
end
end Go.Ax
namespace Go.Ax
variable [Pins]
open Go.RowKit
section
variable {P : Program} {fn : Func} {c : Ctx} {fr : Fr} {H : zH} {k : List It}
theorem sa1 {all : Array Oper} {t : TypeId} {x y : Operand} {ty : TypeId} {pos : String} {after : Array Edge} {rest : List Oper} {h : Nat} {ob : AObj} {L : List AV} {c' : Cells}
 (hx : ev fr x = some (.ptr h 0 0)) (hy : ev fr y = some (.agg L)) (hs : (P.info? t).map (·.size) = some ob.c.sz) (hh : H[h]? = some (some ob)) (hl : L.length = ob.c.sz)
 (h1 : c'.len = ob.c.len) (h2 : c'.sz = ob.c.sz) (hk : Ax P fn c (.ops false all rest k) fr (H.set h (some ⟨ob.ty, c'⟩))) (hi : 0 < ob.c.len := by exact Nat.zero_lt_one)
 (h3 : ∀ i' j', i' < ob.c.len → j' < ob.c.sz → c'.at i' j' = if i' = 0 then L.getD j' .any else ob.c.at i' j' := by (intro i' j' hi' hj'; rw [if_pos (Nat.lt_one_iff.1 hi')]; rfl)) (hz0 : ob.c.sz ≠ 0 := by (intro hh; cases hh)) :
 Ax P fn c (.ops false all (⟨none, .store t x y, ty, pos, after, none⟩ :: rest) k) fr H := zA0 hx hy hs hh hl hi h1 h2 h3 hk hz0
variable {ind : Bool} {d : Option Nat} {ty : TypeId} {pos : String} {after : Array Edge} {g : Option (Nat × Bool)}
theorem qpp {x : Operand} {t : TypeId} {u : TypeDesc} {h i j : Nat} {ob : AObj} {inf : TypeInfo} {L : List AV} (ht : P.underlying t = some u) (hu : zAk u = true) (hinf : P.info? t = some inf) (hsz : Nat.ble (j + inf.size) ob.c.sz = true) (hx : ev fr x = some (.ptr h i j)) (hh : H[h]? = some (some ob))
 (hL : (List.range inf.size).map (fun e => ob.c.at i (j + e)) = L) (hi : i < ob.c.len := by first | exact Nat.zero_lt_one | assumption | omega) : QOp false P fn c fr H ⟨d, .load t x, ty, pos, after, g⟩ (.agg L) := zC0 ht hu hinf hsz hx hh hL hi
end
end Go.Ax
namespace Go.Ax
open Go.RowKit
structure Hold (p : Prop) : Prop where
 out : p
theorem rn0 {G G' : Prop} (k : G') (h : Hold G' → G := by intro k; (repeat (first | refine zF (zU rfl) ?_ | refine zF (zT rfl) ?_ | refine zV ?_ | refine zO ?_ | refine zAA ?_ | refine zZ rfl ?_ | refine zAK ?_)); exact k.out) : G := h ⟨k⟩
theorem rn1 {G G' : Prop} (k : G') (h : Hold G' → G := by intro k; (repeat (first | refine zF (zU rfl) ?_ | refine zF (zT rfl) ?_ | refine zV ?_ | refine zO ?_ | refine zAA ?_ | refine zZ rfl ?_ | refine zAT ?_ | refine zt ?_ | refine zAc ?_ | refine zAK ?_)); exact k.out) : G := h ⟨k⟩
theorem rn2 {G G' : Prop} (k : G') (h : Hold G' → G := by intro k; (repeat (first | refine zF (zU rfl) ?_ | refine zF (zT rfl) ?_ | refine zV ?_ | refine zO ?_ | refine zAA ?_ | refine zZ rfl ?_ | refine zAF rfl rfl ?_ | refine zAT ?_ | refine zt ?_ | refine zAc ?_ | refine zAK ?_ | refine zBH ?_ | refine zF (zBt rfl rfl) ?_ | refine zF (zAg rfl rfl) ?_)); exact k.out) : G := h ⟨k⟩
theorem rn3 {G G' : Prop} (k : G') (h : Hold G' → G := by intro k; (repeat (first | refine zF (zU rfl) ?_ | refine zF (zT rfl) ?_ | refine zV ?_ | refine zO ?_ | refine zAA ?_ | refine zZ rfl ?_ | refine zAF rfl rfl ?_ | refine zAT ?_ | refine zt ?_ | refine zAc ?_ | refine zAK ?_ | refine zBH ?_ | refine zF (zFc rfl rfl) ?_ | refine zF (zBt rfl rfl) ?_ | refine zF (zAg rfl rfl) ?_ | refine zF (zBi rfl rfl rfl) ?_ | refine zF (zCy rfl rfl (by omega)) ?_ | refine zd rfl rfl rfl rfl rfl rfl rfl rfl rfl rfl rfl ?_)); exact k.out) : G := h ⟨k⟩
theorem rn4 {G G' : Prop} (k : G') (h : Hold G' → G := by intro k; (repeat (first | refine zF (zU rfl) ?_ | refine zF (zT rfl) ?_ | refine zV ?_ | refine zO ?_ | refine zAA ?_ | refine zZ rfl ?_ | refine zAF rfl rfl ?_ | refine zAC rfl ?_ | refine zAT ?_ | refine zt ?_ | refine zAc ?_ | refine zAK ?_ | refine zBH ?_ | refine zF (zR rfl rfl rfl rfl rfl) ?_ | refine zF (zIB rfl rfl) ?_ | refine zF (zEO rfl rfl) ?_ | refine zF (zFc rfl rfl) ?_ | refine zF (zBt rfl rfl) ?_ | refine zF (zAg rfl rfl) ?_ | refine zF (zBi rfl rfl rfl) ?_ | refine zF (zCy rfl rfl (by omega)) ?_ | refine zF (zx rfl rfl rfl rfl (by first | (simp only [Nat.zero_add, Int.toNat_natCast, Int.toNat_zero]; exact rfl) | exact rfl) (by omega)) ?_ | refine zd rfl rfl rfl rfl rfl rfl rfl rfl rfl rfl rfl ?_ | refine zAh rfl rfl rfl ?_)); exact k.out) : G := h ⟨k⟩
theorem rn5 {G G' : Prop} (k : G') (h : Hold G' → G := by intro k; (repeat (first | refine zF (zU rfl) ?_ | refine zF (zT rfl) ?_ | refine zV ?_ | refine zO ?_ | refine zAA ?_ | refine zZ rfl ?_ | refine zAF rfl rfl ?_ | refine zAn rfl ?_ | refine zAC rfl ?_ | refine zAU ?_ | refine zAT ?_ | refine zt ?_ | refine zAc ?_ | refine zDB ?_ | refine zAp ?_ | refine zAo ?_ | refine zAy ?_ | refine zAK ?_ | refine zBH ?_ | refine zF (zR rfl rfl rfl rfl rfl) ?_ | refine zF (zIB rfl rfl) ?_ | refine zF (zEO rfl rfl) ?_ | refine zF (zFc rfl rfl) ?_ | refine zF (zG6 rfl) ?_ | refine zF (zBt rfl rfl) ?_ | refine zF (zAg rfl rfl) ?_ | refine zF (zBi rfl rfl rfl) ?_ | refine zF (zCy rfl rfl (by omega)) ?_ | refine zF (zx rfl rfl rfl rfl (by first | (simp only [Nat.zero_add, Int.toNat_natCast, Int.toNat_zero]; exact rfl) | exact rfl) (by omega)) ?_ | refine zF (zJ rfl rfl rfl rfl rfl rfl) ?_ | refine zd rfl rfl rfl rfl rfl rfl rfl rfl rfl rfl rfl ?_ | refine zAh rfl rfl rfl ?_)); exact k.out) : G := h ⟨k⟩
theorem rn6 {G G' : Prop} (k : G') (h : Hold G' → G := by intro k; (repeat (first | refine zF (zU rfl) ?_ | refine zF (zT rfl) ?_ | refine zF (zDq rfl rfl rfl) ?_ | refine zV ?_ | refine zO ?_ | refine zAA ?_ | refine zZ rfl ?_ | refine zAF rfl rfl ?_ | refine zAz rfl rfl rfl ?_ | refine zAn rfl ?_ | refine zAC rfl ?_ | refine zAU ?_ | refine zAT ?_ | refine zt ?_ | refine zAc ?_ | refine zDB ?_ | refine zAp ?_ | refine zAo ?_ | refine zAy ?_ | refine zAK ?_ | refine zBH ?_ | refine zJu ?_ | refine zJv ?_ | refine zF (zB4 rfl rfl rfl rfl) ?_ | refine zF (zR rfl rfl rfl rfl rfl) ?_ | refine zF (zIB rfl rfl) ?_ | refine zF (zEO rfl rfl) ?_ | refine zF (zFc rfl rfl) ?_ | refine zF (zJU rfl rfl) ?_ | refine zF (zG6 rfl) ?_ | refine zF (zBt rfl rfl) ?_ | refine zF (zAg rfl rfl) ?_ | refine zF (zBi rfl rfl rfl) ?_ | refine zF (zDb rfl rfl) ?_ | refine zF (zCy rfl rfl (by omega)) ?_ | refine zF (zx rfl rfl rfl rfl (by first | (simp only [Nat.zero_add, Int.toNat_natCast, Int.toNat_zero]; exact rfl) | exact rfl) (by omega)) ?_ | refine zF (zAB rfl rfl rfl rfl rfl (by first | (simp only [Nat.zero_add, Int.toNat_natCast, Int.toNat_zero]; exact rfl) | exact rfl) (by omega)) ?_ | refine zF (zFd rfl rfl) ?_ | refine zF (zJ rfl rfl rfl rfl rfl rfl) ?_ | refine zF (zCb rfl rfl rfl rfl rfl rfl) ?_ | refine zF (zC0 rfl rfl rfl rfl rfl rfl rfl (by first | exact Nat.zero_lt_one | assumption | omega)) ?_ | refine zd rfl rfl rfl rfl rfl rfl rfl rfl rfl rfl rfl ?_ | refine zEv rfl rfl ?_ | refine zAh rfl rfl rfl ?_)); exact k.out) : G := h ⟨k⟩
theorem rn7 {G G' : Prop} (k : G') (h : Hold G' → G := by intro k; (repeat (first | refine zF (zU rfl) ?_ | refine zF (zT rfl) ?_ | refine zV ?_ | refine zO ?_ | refine zAA ?_ | refine zZ rfl ?_ | refine zAU ?_ | refine zAT ?_ | refine zt ?_ | refine zAc ?_ | refine zF (zIB rfl rfl) ?_ | refine zF (zJT rfl rfl) ?_ | refine zF (zBi rfl rfl rfl) ?_ | refine zF (zCy rfl rfl (by omega)) ?_ | refine zF (zG9 rfl rfl (by omega)) ?_ | refine zF (zAB rfl rfl rfl rfl rfl (by first | (simp only [Nat.zero_add, Int.toNat_natCast, Int.toNat_zero]; exact rfl) | exact rfl) (by omega)) ?_ | refine zF (zEQ rfl rfl rfl rfl (by first | assumption | omega)) ?_ | refine zF (zAW rfl) ?_ | refine zF (zJ rfl rfl rfl rfl rfl rfl) ?_ | refine zF (zEP rfl rfl rfl (by assumption) (by rfl) (by first | (simp only [Nat.zero_add, Int.toNat_natCast, Int.toNat_zero]; exact rfl) | exact rfl) (by omega)) ?_ | refine zF (zEt rfl rfl rfl rfl (by assumption) (by rfl) (by rfl) (by first | exact Nat.zero_lt_one | assumption | omega)) ?_ | refine zF (zGL rfl rfl rfl (by assumption) (by rfl)) ?_ | refine zF (q_loadi_sym rfl rfl rfl (by assumption) (by first | assumption | omega)) ?_ | refine zF (q_loadf_sym rfl rfl rfl (by assumption) rfl (by first | assumption | omega)) ?_ | refine zBm rfl rfl rfl rfl rfl rfl rfl (by first | assumption | (show _ < List.length _; first | assumption | omega)) ?_ | refine zAh rfl rfl rfl ?_)); exact k.out) : G := h ⟨k⟩
theorem rn8 {G G' : Prop} (k : G') (h : Hold G' → G := by intro k; (repeat (first | refine zF (zU rfl) ?_ | refine zF (zT rfl) ?_ | refine zV ?_ | refine zO ?_ | refine zAA ?_ | refine zZ rfl ?_ | refine zAF rfl rfl ?_ | refine zAC rfl ?_ | refine zAc ?_ | refine zAK ?_ | refine zF (zR rfl rfl rfl rfl rfl) ?_ | refine zF (zEO rfl rfl) ?_ | refine zF (q_leq rfl rfl) ?_ | refine zF (zJT rfl rfl) ?_ | refine zF (zBt rfl rfl) ?_ | refine zF (zBi rfl rfl rfl) ?_ | refine zF (zDb rfl rfl) ?_ | refine zF (zG9 rfl rfl (by omega)) ?_ | refine zF (zBE rfl rfl rfl rfl rfl rfl) ?_ | refine zF (zG8 rfl rfl) ?_ | refine zF (zB3 rfl rfl rfl rfl) ?_ | refine zF (zAW rfl) ?_ | refine zF (zJ rfl rfl rfl rfl rfl rfl) ?_ | refine zBm rfl rfl rfl rfl rfl rfl rfl Nat.zero_lt_one ?_ | refine zd rfl rfl rfl rfl rfl rfl rfl rfl rfl rfl rfl ?_ | refine zAh rfl rfl rfl ?_)); exact k.out) : G := h ⟨k⟩
theorem rn9 {G G' : Prop} (k : G') (h : Hold G' → G := by intro k; (repeat (first | refine zF (zU rfl) ?_ | refine zF (zT rfl) ?_ | refine zV ?_ | refine zO ?_ | refine zAA ?_ | refine zZ rfl ?_ | refine zAn rfl ?_ | refine zAC rfl ?_ | refine zAU ?_ | refine zAT ?_ | refine zt ?_ | refine zAc ?_ | refine zF (zE3 rfl rfl rfl) ?_ | refine zF (zR rfl rfl rfl rfl rfl) ?_ | refine zF (zEO rfl rfl) ?_ | refine zF (zG6 rfl) ?_ | refine zF (zAg rfl rfl) ?_ | refine zF (zBi rfl rfl rfl) ?_ | refine zF (zCy rfl rfl (by omega)) ?_ | refine zF (zx rfl rfl rfl rfl (by first | (simp only [Nat.zero_add, Int.toNat_natCast, Int.toNat_zero]; exact rfl) | exact rfl) (by omega)) ?_ | refine zF (zBE rfl rfl rfl rfl rfl rfl) ?_ | refine zF (zFd rfl rfl) ?_ | refine zF (zJ rfl rfl rfl rfl rfl rfl) ?_ | refine zF (zC0 rfl rfl rfl rfl rfl rfl rfl (by first | exact Nat.zero_lt_one | assumption | omega)) ?_ | refine zBm rfl rfl rfl rfl rfl rfl rfl Nat.zero_lt_one ?_ | refine zAh rfl rfl rfl ?_)); exact k.out) : G := h ⟨k⟩
theorem zCM {G G' : Prop} (k : G') (h : Hold G' → G := by intro k; (repeat (first | refine zF (zU rfl) ?_ | refine zF (zT rfl) ?_ | refine zV ?_ | refine zAA ?_ | refine zZ rfl ?_ | refine zAF rfl rfl ?_ | refine zAC rfl ?_ | refine zAU ?_ | refine zAT ?_ | refine zAc ?_ | refine zDB ?_ | refine zAp ?_ | refine zAo ?_ | refine zAy ?_ | refine zF (zR rfl rfl rfl rfl rfl) ?_ | refine zF (zG6 rfl) ?_ | refine zF (zCy rfl rfl (by omega)) ?_ | refine zF (zAB rfl rfl rfl rfl rfl (by first | (simp only [Nat.zero_add, Int.toNat_natCast, Int.toNat_zero]; exact rfl) | exact rfl) (by omega)) ?_ | refine zF (zEQ rfl rfl rfl rfl (by first | assumption | omega)) ?_ | refine zF (zJX rfl rfl rfl rfl (by first | assumption | omega)) ?_ | refine zF (zGM rfl rfl rfl rfl rfl (by first | assumption | omega)) ?_ | refine zF (zFb rfl) ?_ | refine zF (zFa rfl rfl rfl rfl (by first | (simp only [Nat.zero_add, Int.toNat_natCast]; exact rfl) | exact rfl) (by omega)) ?_ | refine zF (zEP rfl rfl rfl (by assumption) (by rfl) (by first | (simp only [Nat.zero_add, Int.toNat_natCast, Int.toNat_zero]; exact rfl) | exact rfl) (by omega)) ?_ | refine zF (zEt rfl rfl rfl rfl (by assumption) (by rfl) (by rfl) (by first | exact Nat.zero_lt_one | assumption | omega)) ?_ | refine zBm rfl rfl rfl rfl rfl rfl rfl (by first | assumption | (show _ < List.length _; first | assumption | omega)) ?_)); exact k.out) : G := h ⟨k⟩
theorem zDc {G G' : Prop} (k : G') (h : Hold G' → G := by intro k; (repeat (first | refine zF (zU rfl) ?_ | refine zF (zT rfl) ?_ | refine zF (zDq rfl rfl rfl) ?_ | refine zV ?_ | refine zO ?_ | refine zAA ?_ | refine zAF rfl rfl ?_ | refine zAz rfl rfl rfl ?_ | refine zDB ?_ | refine zAp ?_ | refine zAo ?_ | refine zAy ?_ | refine zAK ?_ | refine zF (zB4 rfl rfl rfl rfl) ?_ | refine zF (zEO rfl rfl) ?_ | refine zF (zJU rfl rfl) ?_ | refine zF (zBt rfl rfl) ?_ | refine zF (zAg rfl rfl) ?_ | refine zF (zBi rfl rfl rfl) ?_ | refine zF (zDb rfl rfl) ?_ | refine zF (zG9 rfl rfl (by omega)) ?_ | refine zF (zx rfl rfl rfl rfl (by first | (simp only [Nat.zero_add, Int.toNat_natCast, Int.toNat_zero]; exact rfl) | exact rfl) (by omega)) ?_ | refine zF (zFd rfl rfl) ?_ | refine zF (zB3 rfl rfl rfl rfl) ?_ | refine zF (zB5 rfl rfl rfl rfl rfl rfl (by omega)) ?_ | refine zF (zCz rfl rfl rfl rfl rfl rfl) ?_)); exact k.out) : G := h ⟨k⟩
theorem zHC {G G' : Prop} (k : G') (h : Hold G' → G := by intro k; (repeat (first | refine zF (zU rfl) ?_ | refine zF (zT rfl) ?_ | refine zV ?_ | refine zO ?_ | refine zAA ?_ | refine zZ rfl ?_ | refine zAn rfl ?_ | refine zAC rfl ?_ | refine zAU ?_ | refine zt ?_ | refine zAc ?_ | refine zF (zB4 rfl rfl rfl rfl) ?_ | refine zF (zEO rfl rfl) ?_ | refine zF (zFc rfl rfl) ?_ | refine zF (q_leq rfl rfl) ?_ | refine zF (zJT rfl rfl) ?_ | refine zF (zBi rfl rfl rfl) ?_ | refine zF (zDb rfl rfl) ?_ | refine zF (zCy rfl rfl (by omega)) ?_ | refine zF (zx rfl rfl rfl rfl (by first | (simp only [Nat.zero_add, Int.toNat_natCast, Int.toNat_zero]; exact rfl) | exact rfl) (by omega)) ?_ | refine zF (zB3 rfl rfl rfl rfl) ?_ | refine zF (q_min rfl rfl) ?_ | refine zF (zFb rfl) ?_ | refine zF (zJa rfl rfl rfl (by first | assumption | omega | simp)) ?_ | refine zF (zB5 rfl rfl rfl rfl rfl rfl (by omega)) ?_ | refine zF (zCz rfl rfl rfl rfl rfl rfl) ?_)); exact k.out) : G := h ⟨k⟩
theorem zCN {G G' : Prop} (k : G') (h : Hold G' → G := by intro k; (repeat (first | refine zF (zU rfl) ?_ | refine zF (zT rfl) ?_ | refine zV ?_ | refine zO ?_ | refine zAF rfl rfl ?_ | refine zAz rfl rfl rfl ?_ | refine zAC rfl ?_ | refine zAU ?_ | refine zAc ?_ | refine zDB ?_ | refine zAp ?_ | refine zAo ?_ | refine zAy ?_ | refine zGf rfl ?_ | refine zF (zR rfl rfl rfl rfl rfl) ?_ | refine zF (zIB rfl rfl) ?_ | refine zF (zJU rfl rfl) ?_ | refine zF (zJT rfl rfl) ?_ | refine zF (zG6 rfl) ?_ | refine zF (zBt rfl rfl) ?_ | refine zF (zAg rfl rfl) ?_ | refine zF (zCy rfl rfl (by omega)) ?_ | refine zF (zG9 rfl rfl (by omega)) ?_ | refine zF (zFd rfl rfl) ?_ | refine zF (zAW rfl) ?_ | refine zF (zJ rfl rfl rfl rfl rfl rfl) ?_)); exact k.out) : G := h ⟨k⟩
theorem zHD {G G' : Prop} (k : G') (h : Hold G' → G := by intro k; (repeat (first | refine zF (zU rfl) ?_ | refine zF (zT rfl) ?_ | refine zV ?_ | refine zO ?_ | refine zAA ?_ | refine zZ rfl ?_ | refine zAF rfl rfl ?_ | refine zEr rfl rfl ?_ | refine zAz rfl rfl rfl ?_ | refine zAC rfl ?_ | refine zAU ?_ | refine zAc ?_ | refine zDB ?_ | refine zAp ?_ | refine zAo ?_ | refine zAy ?_ | refine zGf rfl ?_ | refine zAK ?_ | refine zF (zJU rfl rfl) ?_ | refine zF (zBt rfl rfl) ?_ | refine zF (zBi rfl rfl rfl) ?_ | refine zF (zCy rfl rfl (by omega)) ?_ | refine zF (zG7 rfl rfl rfl rfl rfl rfl rfl (by omega)) ?_ | refine zF (zBE rfl rfl rfl rfl rfl rfl) ?_ | refine zEv rfl rfl ?_ | refine zAh rfl rfl rfl ?_)); exact k.out) : G := h ⟨k⟩
theorem rn15 {G G' : Prop} (k : G') (h : Hold G' → G := by intro k; (repeat (first | refine zF (zU rfl) ?_ | refine zF (zT rfl) ?_ | refine zV ?_ | refine zO ?_ | refine zAA ?_ | refine zZ rfl ?_ | refine zt ?_ | refine zDB ?_ | refine zAp ?_ | refine zAo ?_ | refine zAy ?_ | refine zF (zR rfl rfl rfl rfl rfl) ?_ | refine zF (zEO rfl rfl) ?_ | refine zF (zJU rfl rfl) ?_ | refine zF (zBi rfl rfl rfl) ?_ | refine zF (zCy rfl rfl (by omega)) ?_ | refine zF (q_quo rfl rfl (by omega)) ?_ | refine zF (zBE rfl rfl rfl rfl rfl rfl) ?_ | refine zF (zB3 rfl rfl rfl rfl) ?_ | refine zF (q_max rfl rfl) ?_ | refine zF (zAW rfl) ?_ | refine zF (zHZ rfl) ?_ | refine zF (zJ rfl rfl rfl rfl rfl rfl) ?_ | refine zF (zGL rfl rfl rfl (by assumption) (by rfl)) ?_ | refine zd rfl rfl rfl rfl rfl rfl rfl rfl rfl rfl rfl ?_ | refine zEv rfl rfl ?_)); exact k.out) : G := h ⟨k⟩
theorem rn16 {G G' : Prop} (k : G') (h : Hold G' → G := by intro k; (repeat (first | refine zF (zU rfl) ?_ | refine zF (zT rfl) ?_ | refine zV ?_ | refine zO ?_ | refine zAA ?_ | refine zZ rfl ?_ | refine zAF rfl rfl ?_ | refine zEr rfl rfl ?_ | refine zAz rfl rfl rfl ?_ | refine zAn rfl ?_ | refine zAC rfl ?_ | refine zAc ?_ | refine zAK ?_ | refine zBH ?_ | refine zF (zG6 rfl) ?_ | refine zF (zBt rfl rfl) ?_ | refine zF (zBi rfl rfl rfl) ?_ | refine zF (zDb rfl rfl) ?_ | refine zF (zCy rfl rfl (by omega)) ?_ | refine zF (zG9 rfl rfl (by omega)) ?_ | refine zF (zAB rfl rfl rfl rfl rfl (by first | (simp only [Nat.zero_add, Int.toNat_natCast, Int.toNat_zero]; exact rfl) | exact rfl) (by omega)) ?_ | refine zF (zG8 rfl rfl) ?_ | refine zF (zB3 rfl rfl rfl rfl) ?_ | refine zF (zB5 rfl rfl rfl rfl rfl rfl (by omega)) ?_ | refine zF (zCz rfl rfl rfl rfl rfl rfl) ?_ | refine zBm rfl rfl rfl rfl rfl rfl rfl (by first | assumption | (show _ < List.length _; first | assumption | omega)) ?_)); exact k.out) : G := h ⟨k⟩
theorem rn17 {G G' : Prop} (k : G') (h : Hold G' → G := by intro k; (repeat (first | refine zF (zU rfl) ?_ | refine zF (zT rfl) ?_ | refine zF (zDq rfl rfl rfl) ?_ | refine zV ?_ | refine zO ?_ | refine zAA ?_ | refine zZ rfl ?_ | refine zAU ?_ | refine zt ?_ | refine zAc ?_ | refine zDB ?_ | refine zAp ?_ | refine zAo ?_ | refine zAy ?_ | refine zAK ?_ | refine zF (zR rfl rfl rfl rfl rfl) ?_ | refine zF (zEO rfl rfl) ?_ | refine zF (zCy rfl rfl (by omega)) ?_ | refine zF (zx rfl rfl rfl rfl (by first | (simp only [Nat.zero_add, Int.toNat_natCast, Int.toNat_zero]; exact rfl) | exact rfl) (by omega)) ?_ | refine zF (zAB rfl rfl rfl rfl rfl (by first | (simp only [Nat.zero_add, Int.toNat_natCast, Int.toNat_zero]; exact rfl) | exact rfl) (by omega)) ?_ | refine zF (zEQ rfl rfl rfl rfl (by first | assumption | omega)) ?_ | refine zF (zGM rfl rfl rfl rfl rfl (by first | assumption | omega)) ?_ | refine zF (zKb rfl rfl rfl rfl rfl rfl rfl rfl (by omega)) ?_ | refine zF (zJ rfl rfl rfl rfl rfl rfl) ?_ | refine zBm rfl rfl rfl rfl rfl rfl rfl (by first | assumption | (show _ < List.length _; first | assumption | omega)) ?_)); exact k.out) : G := h ⟨k⟩
theorem rn18 {G G' : Prop} (k : G') (h : Hold G' → G := by intro k; (repeat (first | refine zF (zU rfl) ?_ | refine zF (zT rfl) ?_ | refine zV ?_ | refine zO ?_ | refine zAA ?_ | refine zZ rfl ?_ | refine zAz rfl rfl rfl ?_ | refine zAn rfl ?_ | refine zt ?_ | refine zAc ?_ | refine zF (zE3 rfl rfl rfl) ?_ | refine zF (zB4 rfl rfl rfl rfl) ?_ | refine zF (zEO rfl rfl) ?_ | refine zF (zFc rfl rfl) ?_ | refine zF (zG6 rfl) ?_ | refine zF (zBt rfl rfl) ?_ | refine zF (zAg rfl rfl) ?_ | refine zF (zx rfl rfl rfl rfl (by first | (simp only [Nat.zero_add, Int.toNat_natCast, Int.toNat_zero]; exact rfl) | exact rfl) (by omega)) ?_ | refine zF (zBE rfl rfl rfl rfl rfl rfl) ?_ | refine zF (zG8 rfl rfl) ?_ | refine zF (zFb rfl) ?_ | refine zF (zEP rfl rfl rfl (by assumption) (by rfl) (by first | (simp only [Nat.zero_add, Int.toNat_natCast, Int.toNat_zero]; exact rfl) | exact rfl) (by omega)) ?_ | refine zF (q_loadf_sym rfl rfl rfl (by assumption) rfl (by first | assumption | omega)) ?_ | refine zBm rfl rfl rfl rfl rfl rfl rfl Nat.zero_lt_one ?_ | refine zd rfl rfl rfl rfl rfl rfl rfl rfl rfl rfl rfl ?_ | refine zAh rfl rfl rfl ?_)); exact k.out) : G := h ⟨k⟩
theorem rn19 {G G' : Prop} (k : G') (h : Hold G' → G := by intro k; (repeat (first | refine zF (zU rfl) ?_ | refine zF (zT rfl) ?_ | refine zV ?_ | refine zO ?_ | refine zAA ?_ | refine zZ rfl ?_ | refine zAF rfl rfl ?_ | refine zAU ?_ | refine zt ?_ | refine zAc ?_ | refine zF (zB4 rfl rfl rfl rfl) ?_ | refine zF (zFc rfl rfl) ?_ | refine zF (zBi rfl rfl rfl) ?_ | refine zF (zDb rfl rfl) ?_ | refine zF (zG9 rfl rfl (by omega)) ?_ | refine zF (zx rfl rfl rfl rfl (by first | (simp only [Nat.zero_add, Int.toNat_natCast, Int.toNat_zero]; exact rfl) | exact rfl) (by omega)) ?_ | refine zF (zG7 rfl rfl rfl rfl rfl rfl rfl (by omega)) ?_ | refine zF (zJa rfl rfl rfl (by first | assumption | omega | simp)) ?_ | refine zF (zCb rfl rfl rfl rfl rfl rfl) ?_)); exact k.out) : G := h ⟨k⟩
theorem rn20 {G G' : Prop} (k : G') (h : Hold G' → G := by intro k; (repeat (first | refine zV ?_ | refine zO ?_ | refine zAA ?_ | refine zt ?_ | refine zAc ?_ | refine zF (zFb rfl) ?_ | refine zBm rfl rfl rfl rfl rfl rfl rfl Nat.zero_lt_one ?_ | refine zAh rfl rfl rfl ?_)); exact k.out) : G := h ⟨k⟩
end Go.Ax
namespace Go.Proofs.YtkncmbklkhjmgaaGreatDoor
open Go.Ax
/-- What the walks of this seat know of the listed variables. -/
def pinG (w : World) : Prop := True
 ∧ Lib.TabIs Tryz.prog w "internal/strconv.uint64pow10" .u64 Lib.pow10Tab
 ∧ (∃ tp p, w.var? Tryz.prog "strconv.ErrSyntax" = some #[.iface tp p]) ∧ (∃ tp p, w.var? Tryz.prog "strconv.ErrRange" = some #[.iface tp p])
 ∧ True
instance : Pins := ⟨fun w _ => pinG w⟩
theorem zF8 {n : String} {w w' : World} (h : ∀ b, b < w.heap.size → w'.heap[b]? = w.heap[b]?) {cs : Array Value} (hv : w.var? Tryz.prog n = some cs) : w'.var? Tryz.prog n = some cs := by
 unfold World.var? at hv ⊢
 cases hg : Tryz.prog.globalNamed n with
 | none => simp [hg] at hv
 | some g =>
  simp only [hg, Option.bind_some] at hv ⊢
  have hlt : g < w.heap.size := by
   rcases Nat.lt_or_ge g w.heap.size with q | q
   ·exact q
   ·have : w.heap[g]? = none := by simp [q]
    simp [this] at hv
  rw [h g hlt]; exact hv
theorem pin_up {W : World} {S : Nat → Prop} (h : pinG W) : zC9 W S (fun _ => none) [] := by
 intro w' S' _ _ hb
 have hb' : ∀ b, b < W.heap.size → w'.heap[b]? = W.heap[b]? := fun b hl => hb b hl (by rintro ⟨h, o, s, C, h1, _⟩; simp at h1)
 show pinG w'
 unfold pinG at h ⊢
 obtain ⟨_, h⟩ := h
 obtain ⟨h1, h⟩ := h
 obtain ⟨⟨t1, p1, e1⟩, ⟨t2, p2, e2⟩, h⟩ := h
 refine ⟨trivial, ?_⟩
 refine ⟨zF8 hb' h1, ?_⟩
 refine ⟨⟨t1, p1, zF8 hb' e1⟩, ⟨t2, p2, zF8 hb' e2⟩, ?_⟩
 trivial
end Go.Proofs.YtkncmbklkhjmgaaGreatDoor
namespace Go.Ax.Bg
abbrev B : Nat := 4294967296
/-- The value of limbs, the least significant one first; the limbs of a number. -/
def zP : List Int → Nat
 | [] => 0
 | x :: r => x.toNat + B * zP r
def zL (n : Nat) : List Int := if h : n = 0 then [] else ((n % B : Nat) : Int) :: zL (n / B)
termination_by n
decreasing_by exact Nat.div_lt_self (Nat.pos_of_ne_zero h) (by decide)
def Lim (l : List Int) : Prop := ∀ x ∈ l, 0 ≤ x ∧ x < 4294967296
theorem zAf : zL 0 = [] := by rw [zL, dif_pos rfl]
theorem zEM {n : Nat} (h : n ≠ 0) : zL n = ((n % B : Nat) : Int) :: zL (n / B) := by rw [zL, dif_neg h]
theorem zb (n : Nat) : zP (zL n) = n := by
 induction n using Nat.strongRecOn with
 | _ n ih =>
  by_cases h : n = 0
  ·subst h; rw [zAf]; rfl
  ·rw [zEM h, zP, ih _ (Nat.div_lt_self (Nat.pos_of_ne_zero h) (by decide)), Int.toNat_natCast]
   exact Nat.mod_add_div n B
theorem Lim.cons {x : Int} {r : List Int} : Lim (x :: r) ↔ (0 ≤ x ∧ x < 4294967296) ∧ Lim r := by simp [Lim]
theorem Lim.append {l m : List Int} : Lim (l ++ m) ↔ Lim l ∧ Lim m := by
 constructor
 ·exact fun h => ⟨fun x hx => h x (List.mem_append_left _ hx), fun x hx => h x (List.mem_append_right _ hx)⟩
 ·rintro ⟨h1, h2⟩ x hx
  rcases List.mem_append.1 hx with h | h
  ·exact h1 x h
  ·exact h2 x h
theorem Lim.nil : Lim [] := fun x hx => by simp at hx
theorem Lim.one {x : Int} (h : 0 ≤ x ∧ x < 4294967296) : Lim [x] := by rw [Lim.cons]; exact ⟨h, Lim.nil⟩
theorem zo (n : Nat) : Lim (zL n) := by
 induction n using Nat.strongRecOn with
 | _ n ih =>
  by_cases h : n = 0
  ·subst h; rw [zAf]; exact Lim.nil
  ·rw [zEM h, Lim.cons]
   refine ⟨?_, ih _ (Nat.div_lt_self (Nat.pos_of_ne_zero h) (by decide))⟩
   have := Nat.mod_lt n (show 0 < B by decide)
   unfold B at this ⊢; omega
theorem Lim.get {l : List Int} (h : Lim l) {i : Nat} (hi : i < l.length) : 0 ≤ l.getD i 0 ∧ l.getD i 0 < 4294967296 := h _ (zAx 0 hi)
theorem Lim.take {l : List Int} (h : Lim l) (k : Nat) : Lim (l.take k) := fun x hx => h x (List.mem_of_mem_take hx)
theorem zBM (l m : List Int) : zP (l ++ m) = zP l + B ^ l.length * zP m := by
 induction l with
 | nil => simp [zP]
 | cons x r ih =>
  rw [List.cons_append, zP, zP, ih, List.length_cons, Nat.pow_succ]
  rw [Nat.mul_add, Nat.add_assoc, Nat.mul_comm (B ^ r.length) B, Nat.mul_assoc]
theorem zAE {l : List Int} (h : Lim l) : zP l < B ^ l.length := by
 induction l with
 | nil => simp [zP]
 | cons x r ih =>
  rw [Lim.cons] at h
  have i := ih h.2
  rw [zP, List.length_cons, Nat.pow_succ]
  have hx : x.toNat < B := by unfold B; omega
  have : zP r + 1 ≤ B ^ r.length := i
  calc x.toNat + B * zP r < B + B * zP r := by omega
   _ = B * (zP r + 1) := by rw [Nat.mul_add, Nat.mul_one]; omega
   _ ≤ B * B ^ r.length := Nat.mul_le_mul_left _ this
   _ = B ^ r.length * B := Nat.mul_comm _ _
theorem zFF (k : Nat) : zP (List.replicate k 0) = 0 := by
 induction k with
 | zero => rfl
 | succ k ih => rw [List.replicate_succ, zP, ih]; rfl
/-- Without superfluous zeros, limbs are those of their value. -/
theorem zJI {l : List Int} (h : Lim l) (hz : l = [] ∨ l.getD (l.length - 1) 0 ≠ 0) : zL (zP l) = l := by
 induction l with
 | nil => exact zAf
 | cons x r ih =>
  rw [Lim.cons] at h
  have hx : x.toNat < B := by unfold B; omega
  have hxe : ((x.toNat : Nat) : Int) = x := by omega
  have hr : r = [] ∨ r.getD (r.length - 1) 0 ≠ 0 := by
   cases r with
   | nil => exact .inl rfl
   | cons y q =>
    right
    rcases hz with hz | hz
    ·cases hz
    ·simpa using hz
  have i := ih h.2 hr
  have hne : zP (x :: r) ≠ 0 := by
   rw [zP]
   cases r with
   | nil =>
    rcases hz with hz | hz
    ·cases hz
    ·simp at hz; simp [zP]; omega
   | cons y q =>
    intro h0
    have h1 : zP (y :: q) = 0 := by
     have : B * zP (y :: q) = 0 := by omega
     rcases Nat.mul_eq_zero.1 this with h | h
     ·exact absurd h (by decide)
     ·exact h
    rw [h1, zAf] at i
    cases i
  rw [zEM hne]
  have e1 : zP (x :: r) % B = x.toNat := by rw [zP, Nat.add_mul_mod_self_left, Nat.mod_eq_of_lt hx]
  have e2 : zP (x :: r) / B = zP r := by
   rw [zP, Nat.add_mul_div_left _ _ (by decide), Nat.div_eq_of_lt hx, Nat.zero_add]
  rw [e1, e2, i, hxe]
theorem zHz {n : Nat} : zL n = [] ∨ (zL n).getD ((zL n).length - 1) 0 ≠ 0 := by
 induction n using Nat.strongRecOn with
 | _ n ih =>
  by_cases h : n = 0
  ·subst h; exact .inl zAf
  ·right
   rw [zEM h]
   have hlt := Nat.div_lt_self (Nat.pos_of_ne_zero h) (show 1 < B by decide)
   rcases ih (n / B) hlt with h1 | h1
   ·rw [h1]
    have : n / B = 0 := by
     have := zb (n / B)
     rw [h1] at this; exact this.symm
    have hn : n < B := by
     rcases Nat.lt_or_ge n B with q | q
     ·exact q
     ·have := Nat.div_pos q (show 0 < B by decide); omega
    simp only [List.length_cons, List.length_nil, Nat.zero_add, Nat.sub_self, List.getD_cons_zero]
    rw [Nat.mod_eq_of_lt hn]; omega
   ·cases hq : zL (n / B) with
    | nil => rw [hq] at h1; simp at h1
    | cons y q =>
     rw [hq] at h1
     simpa using h1
/-- Zeros at the end cut away. -/
theorem zL7 {l : List Int} (h : Lim l) {k : Nat} (hk : k ≤ l.length) (h0 : ∀ i, k ≤ i → i < l.length → l.getD i 0 = 0) (hz : k = 0 ∨ l.getD (k - 1) 0 ≠ 0) : l.take k = zL (zP l) := by
 have e : l.drop k = List.replicate (l.length - k) 0 := by
  apply List.ext_getElem
  ·simp
  ·intro i h1 h2
   simp only [List.length_drop] at h1
   have := h0 (k + i) (by omega) (by omega)
   rw [zCC 0 (by omega)] at this
   simpa using this
 have hv : zP l = zP (l.take k) := by
  conv => lhs; rw [← List.take_append_drop k l]
  rw [zBM, e, zFF, Nat.mul_zero, Nat.add_zero]
 rw [hv, zJI (h.take k)]
 rcases hz with hz | hz
 ·subst hz; exact .inl (by simp)
 ·right
  rw [List.length_take, Nat.min_eq_left hk]
  have hk0 : k ≠ 0 := fun e => by
   subst e
   cases l with
   | nil => simp at hz
   | cons x r => exact hz (h0 0 (Nat.le_refl _) (by simp))
  simp only [List.getD, List.getElem?_take, show k - 1 < k by omega, if_true]
  exact hz
theorem z8 {n k : Nat} (h : n < B ^ k) : (zL n).length ≤ k := by
 rcases zHz (n := n) with h1 | h1
 ·rw [h1]; exact Nat.zero_le _
 ·rcases Nat.lt_or_ge k (zL n).length with hl | hl
  ·exfalso
   have hv := zb n
   have hsplit := zBM ((zL n).take ((zL n).length - 1)) ((zL n).drop ((zL n).length - 1))
   rw [List.take_append_drop, hv] at hsplit
   have hd : (zL n).drop ((zL n).length - 1) = [(zL n).getD ((zL n).length - 1) 0] := by
    rw [zA9 (zL n) 0 _ (by omega), List.drop_of_length_le (by omega)]
   have hg := (zo n).get (i := (zL n).length - 1) (by omega)
   rw [hd] at hsplit
   simp only [zP, Nat.mul_zero, Nat.add_zero, List.length_take] at hsplit
   rw [Nat.min_eq_left (by omega)] at hsplit
   have hx : 1 ≤ ((zL n).getD ((zL n).length - 1) 0).toNat := by omega
   have hp : B ^ k ≤ B ^ ((zL n).length - 1) := Nat.pow_le_pow_right (by decide) (by omega)
   have : B ^ ((zL n).length - 1) * 1 ≤ B ^ ((zL n).length - 1) * ((zL n).getD ((zL n).length - 1) 0).toNat := Nat.mul_le_mul_left _ hx
   omega
  ·exact hl
theorem zJH {n k : Nat} (h : B ^ k ≤ n) : k < (zL n).length := by
 have h1 := zAE (zo n)
 rw [zb] at h1
 exact (Nat.pow_lt_pow_iff_right (show 1 < B by decide)).1 (Nat.lt_of_le_of_lt h h1)
theorem natL_inj {a b : Nat} (h : zL a = zL b) : a = b := by rw [← zb a, ← zb b, h]
theorem natL_nil {n : Nat} : zL n = [] ↔ n = 0 := by
 constructor
 ·intro h; rw [← zb n, h]; rfl
 ·rintro rfl; exact zAf
theorem zC6 {l : List Int} (i : Nat) (hi : i < l.length) : zP (l.take (i + 1)) = zP (l.take i) + B ^ i * (l.getD i 0).toNat := by
 rw [zAJ l 0 i hi, zBM]
 simp only [zP, Nat.mul_zero, Nat.add_zero, List.length_take]
 rw [Nat.min_eq_left (by omega)]
theorem zCA {l : List Int} (x : Int) : zP (l ++ [x]) = zP l + B ^ l.length * x.toNat := by
 rw [zBM]; simp only [zP, Nat.mul_zero, Nat.add_zero]
/-- The comparison from the top. -/
theorem zHi {a b : List Int} (i : Nat) (ha : Lim a) (hb : Lim b) (hl : a.length = b.length) (hi : i < a.length) (he : ∀ j, i < j → j < a.length → a.getD j 0 = b.getD j 0) (hlt : a.getD i 0 < b.getD i 0) : zP a < zP b := by
 have hd : a.drop (i + 1) = b.drop (i + 1) := by
  apply List.ext_getElem
  ·simp [hl]
  ·intro j h1 h2
   simp only [List.length_drop] at h1 h2
   have := he (i + 1 + j) (by omega) (by omega)
   rw [zCC 0 (by omega), zCC 0 (by omega)] at this
   simpa using this
 have ea : zP a = zP (a.take (i + 1)) + B ^ (i + 1) * zP (a.drop (i + 1)) := by
  conv => lhs; rw [← List.take_append_drop (i + 1) a]
  rw [zBM, List.length_take, Nat.min_eq_left (by omega)]
 have eb : zP b = zP (b.take (i + 1)) + B ^ (i + 1) * zP (b.drop (i + 1)) := by
  conv => lhs; rw [← List.take_append_drop (i + 1) b]
  rw [zBM, List.length_take, Nat.min_eq_left (by omega)]
 rw [ea, eb, hd, zC6 i hi, zC6 i (by omega)]
 have h1 := zAE (ha.take i)
 rw [List.length_take, Nat.min_eq_left (by omega)] at h1
 have hga := ha.get hi
 have hgb := hb.get (i := i) (by omega)
 have h2 : B ^ i * ((a.getD i 0).toNat + 1) ≤ B ^ i * (b.getD i 0).toNat := Nat.mul_le_mul_left _ (by omega)
 rw [Nat.mul_add, Nat.mul_one] at h2
 omega
theorem zHP {l : List Int} {i : Nat} {x : Int} (hi : i < l.length) : zP (l.set i x) + B ^ i * (l.getD i 0).toNat = zP l + B ^ i * x.toNat := by
 induction l generalizing i with
 | nil => simp at hi
 | cons y r ih =>
  cases i with
  | zero => simp only [List.set_cons_zero, zP, Nat.pow_zero, Nat.one_mul, List.getD_cons_zero]; omega
  | succ i =>
   have h := ih (i := i) (by simpa using hi)
   simp only [List.set_cons_succ, zP, List.getD_cons_succ, Nat.pow_succ]
   have e1 : B ^ i * B * (r.getD i 0).toNat = B * (B ^ i * (r.getD i 0).toNat) := by rw [Nat.mul_comm (B ^ i) B, Nat.mul_assoc]
   have e2 : B ^ i * B * x.toNat = B * (B ^ i * x.toNat) := by rw [Nat.mul_comm (B ^ i) B, Nat.mul_assoc]
   rw [e1, e2]
   have e3 : B * (zP (r.set i x) + B ^ i * (r.getD i 0).toNat) = B * (zP r + B ^ i * x.toNat) := by rw [h]
   rw [Nat.mul_add, Nat.mul_add] at e3
   omega
theorem Lim.set {l : List Int} (h : Lim l) {i : Nat} {x : Int} (hx : 0 ≤ x ∧ x < 4294967296) : Lim (l.set i x) := fun y hy => by
 rcases List.mem_or_eq_of_mem_set hy with h1 | h1
 ·exact h y h1
 ·subst h1; exact hx
theorem Lim.zeros (k : Nat) : Lim (List.replicate k 0) := fun x hx => by rw [(List.mem_replicate.1 hx).2]; omega
/-- A carry is parted. -/
theorem zE1 (c : Nat) (p : Nat) : p * (c % B) + p * B * (c / B) = p * c := by
 rw [Nat.mul_assoc, ← Nat.mul_add, Nat.mod_add_div]
/-- One more limb, with a carry. -/
theorem zFB {out : List Int} {i c t u : Nat} (hl : out.length = i) (h : zP out + B ^ i * t = u) {d : Nat} (hc : c = t + d) : zP (out ++ [((c % B : Nat) : Int)]) + B ^ (i + 1) * (c / B) = u + B ^ i * d := by
 rw [zCA, hl, Int.toNat_natCast, Nat.pow_succ]
 have := zE1 c (B ^ i)
 have e : B ^ i * c = B ^ i * t + B ^ i * d := by rw [hc, Nat.mul_add]
 omega
theorem zCD (c : Nat) : 0 ≤ ((c % B : Nat) : Int) ∧ ((c % B : Nat) : Int) < 4294967296 := by
 have := Nat.mod_lt c (show 0 < B by decide)
 unfold B at this ⊢; omega
/-- Knuth's estimate: the quotient by the first three and the first two limbs. -/
theorem est_ge {u v U V P q : Nat} (hP : 0 < P) (hu : u < (U + 1) * P) (hv : V * P ≤ v) (hq : q * v ≤ u) : q * V ≤ U := by
 have h1 : q * V * P ≤ q * v := by rw [Nat.mul_assoc]; exact Nat.mul_le_mul_left _ hv
 have h2 : q * V * P < (U + 1) * P := Nat.lt_of_le_of_lt (Nat.le_trans h1 hq) hu
 have := Nat.lt_of_mul_lt_mul_right h2
 omega
theorem est_le {u v U V P g : Nat} (hP : 0 < P) (hu : U * P ≤ u) (hv : v ≤ (V + 1) * P) (hg : g * V ≤ U) (hgV : g ≤ V + 1) (h1 : 1 ≤ g) : (g - 1) * v ≤ u := by
 have a : (g - 1) * v ≤ (g - 1) * ((V + 1) * P) := Nat.mul_le_mul_left _ hv
 have b : (g - 1) * ((V + 1) * P) = (g - 1) * (V + 1) * P := by rw [Nat.mul_assoc]
 have c : (g - 1) * (V + 1) ≤ g * V := by
  obtain ⟨k, rfl⟩ : ∃ k, g = k + 1 := ⟨g - 1, by omega⟩
  simp only [Nat.add_sub_cancel]
  rw [Nat.mul_add, Nat.add_mul]
  omega
 have d : (g - 1) * (V + 1) * P ≤ U * P := Nat.mul_le_mul_right _ (Nat.le_trans c hg)
 omega
theorem zX (l : List Int) (i : Nat) : zP (l.take (i + 1)) = zP (l.take i) + B ^ i * (l.getD i 0).toNat := by
 rcases Nat.lt_or_ge i l.length with h | h
 ·exact zC6 i h
 ·rw [List.take_of_length_le h, List.take_of_length_le (by omega)]
  have : l.getD i 0 = 0 := by simp [List.getD, List.getElem?_eq_none h]
  rw [this]; simp
theorem Lim.get' {l : List Int} (h : Lim l) (i : Nat) : 0 ≤ l.getD i 0 ∧ l.getD i 0 < 4294967296 := by
 rcases Nat.lt_or_ge i l.length with hi | hi
 ·exact h.get hi
 ·have : l.getD i 0 = 0 := by simp [List.getD, List.getElem?_eq_none hi]
  omega
theorem Lim.nat {l : List Int} (h : Lim l) (i : Nat) : ∃ d : Nat, l.getD i 0 = (d : Int) ∧ d < 4294967296 := by
 have := h.get' i
 exact ⟨(l.getD i 0).toNat, by omega, by omega⟩
theorem zMV (l : List Int) (i : Nat) : zP l = zP (l.take i) + B ^ (min i l.length) * zP (l.drop i) := by
 conv => lhs; rw [← List.take_append_drop i l]
 rw [zBM, List.length_take]
theorem zHO (l : List Int) (i : Nat) : zP (l.drop i) = (l.getD i 0).toNat + B * zP (l.drop (i + 1)) := by
 rcases Nat.lt_or_ge i l.length with h | h
 ·rw [zA9 l 0 i h, zP]
 ·rw [List.drop_of_length_le h, List.drop_of_length_le (by omega)]
  have : l.getD i 0 = 0 := by simp [List.getD, List.getElem?_eq_none h]
  rw [this]; simp [zP]
theorem zFE {l : List Int} (h : Lim l) {k : Nat} (hv : zP l < B ^ k) : zP (l.take k) = zP l := by
 rcases Nat.lt_or_ge k l.length with hl | hl
 ·have e := zMV l k
  rw [Nat.min_eq_left (by omega)] at e
  have : zP (l.drop k) = 0 := by
   rcases Nat.eq_zero_or_pos (zP (l.drop k)) with h0 | h0
   ·exact h0
   ·exfalso
    have : B ^ k * 1 ≤ B ^ k * zP (l.drop k) := Nat.mul_le_mul_left _ h0
    omega
  rw [this] at e
  omega
 ·rw [List.take_of_length_le hl]
theorem zLx {l : List Int} {k i : Nat} (h : i < k) : (l.take k).getD i 0 = l.getD i 0 := by
 simp only [List.getD, List.getElem?_take, h, if_true]
/-- Limbs, cut to their true length. -/
theorem zMS {l : List Int} (hl : Lim l) : l.take (zL (zP l)).length = zL (zP l) := by
 have h := z8 (zAE hl)
 have hsm := zAE (zo (zP l))
 rw [zb] at hsm
 have hv := zFE hl hsm
 obtain ⟨n, hn⟩ : ∃ n, (zL (zP l)).length = n := ⟨_, rfl⟩
 rw [hn] at h hsm hv ⊢
 rcases Nat.eq_zero_or_pos n with q | q
 ·subst q
  rw [List.take_zero, List.length_eq_zero_iff.1 hn]
 ·have e := zJI (hl.take n) (.inr (fun h9 => ?_))
  ·rw [hv] at e; exact e.symm
  ·rw [List.length_take, Nat.min_eq_left h, zLx (by omega)] at h9
   have hlast := zX l (n - 1)
   rw [show n - 1 + 1 = n by omega, hv, h9] at hlast
   have h5 := zAE (hl.take (n - 1))
   rw [List.length_take, Nat.min_eq_left (by omega)] at h5
   have h6 : zP l < B ^ (n - 1) := by rw [hlast]; simpa using h5
   have := z8 h6
   omega
theorem zJp (n i : Nat) : (List.replicate n (0 : Int)).getD i 0 = 0 := by
 simp only [List.getD, List.getElem?_replicate]
 split <;> rfl
theorem bpos (i : Nat) : 0 < B ^ i := Nat.pow_pos (by decide)
/-- One limb of a sum, of a difference. -/
theorem zIm {out x y : List Int} {i cr d e : Nat} (hl : out.length = i) (h : zP out + B ^ i * cr = zP (x.take i) + zP (y.take i)) (hd : x.getD i 0 = (d : Int)) (he : y.getD i 0 = (e : Int)) :
 zP (out ++ [(((cr + d + e) % 4294967296 : Nat) : Int)]) + B ^ (i + 1) * ((cr + d + e) / 4294967296) = zP (x.take (i + 1)) + zP (y.take (i + 1)) := by
 have := zFB hl h (c := cr + d + e) (d := d + e) (by omega)
 rw [zX, zX, hd, he, Int.toNat_natCast, Int.toNat_natCast]
 rw [Nat.mul_add] at this
 unfold B at *
 omega
theorem zMO {out x y : List Int} {i br d e yv br' : Nat} (hl : out.length = i) (h : zP out + zP (y.take i) = zP (x.take i) + B ^ i * br) (hd : x.getD i 0 = (d : Int)) (he : y.getD i 0 = (e : Int)) (hy : yv + br + e = d + 4294967296 * br') :
 zP (out ++ [(yv : Int)]) + zP (y.take (i + 1)) = zP (x.take (i + 1)) + B ^ (i + 1) * br' := by
 rw [zX, zX, hd, he, Int.toNat_natCast, Int.toNat_natCast, zCA, hl, Int.toNat_natCast, Nat.pow_succ, Nat.mul_assoc]
 have h3 : B ^ i * yv + B ^ i * br + B ^ i * e = B ^ i * d + B ^ i * (B * br') := by rw [← Nat.mul_add, ← Nat.mul_add, ← Nat.mul_add]; exact congrArg _ hy
 omega
/-- One limb of a product. -/
theorem mul_step {out : List Int} {p cr a b o u : Nat} (hp : p < out.length) (h : zP out + B ^ p * cr = u) (ho : out.getD p 0 = (o : Int)) :
 zP (out.set p (((cr + (a * b + o)) % 4294967296 : Nat) : Int)) + B ^ (p + 1) * ((cr + (a * b + o)) / 4294967296) = u + B ^ p * (a * b) := by
 have h1 := zHP (x := (((cr + (a * b + o)) % 4294967296 : Nat) : Int)) hp
 rw [ho, Int.toNat_natCast, Int.toNat_natCast] at h1
 have h2 := zE1 (cr + (a * b + o)) (B ^ p)
 rw [Nat.pow_succ]
 have e : B ^ p * (cr + (a * b + o)) = B ^ p * cr + (B ^ p * (a * b) + B ^ p * o) := by rw [Nat.mul_add, Nat.mul_add]
 rw [e] at h2
 unfold B at *
 omega
theorem zBq {l : List Int} {i j : Nat} {x : Int} (h : i ≠ j) : (l.set i x).getD j 0 = l.getD j 0 := by
 simp only [List.getD, List.getElem?_set_ne h]
theorem zIV {l : List Int} {i : Nat} {x : Int} (h : i < l.length) : (l.set i x).drop i = x :: l.drop (i + 1) := by
 have h2 : i < (l.set i x).length := by simpa using h
 rw [zA9 (l.set i x) 0 i h2]
 congr 1
 ·simp [List.getD, h]
 ·rw [List.drop_set_of_lt (by omega)]
theorem p32 : (2 : Nat) ^ 32 = 4294967296 := by decide
theorem zF7 {a : Nat} (h : a < 4294967296) : a * 2 ^ 32 < 18446744073709551616 := by
 have e : a * 2 ^ 32 = a * 4294967296 := congrArg (a * ·) p32
 rw [e]; omega
theorem zKQ {a b : Nat} (h : b < 4294967296) : a * 2 ^ 32 ||| b = a * 4294967296 + b := by
 have := Nat.two_pow_add_eq_or_of_lt (i := 32) (b := b) (by simpa using h) a
 rw [Nat.mul_comm (2 ^ 32) a] at this
 rw [← this]
/-- Comparing. -/
def zCG (x y : Int) : Int := if x < y then -1 else if y < x then 1 else 0
theorem zFO {x y : Int} (h : x < y) : zCG x y = -1 := if_pos h
theorem zFN {x y : Int} (h : y < x) : zCG x y = 1 := by unfold zCG; rw [if_neg (by omega), if_pos h]
theorem zKz {x y : Int} (h : x = y) : zCG x y = 0 := by unfold zCG; rw [if_neg (by omega), if_neg (by omega)]
theorem cmp_len (a b : Nat) (h : (zL a).length ≠ (zL b).length) : zCG a b = zCG (zL a).length (zL b).length := by
 have key : ∀ u v : Nat, (zL u).length < (zL v).length → u < v := by
  intro u v huv
  rcases Nat.lt_or_ge u v with q | q
  ·exact q
  ·exfalso
   have h1 := zAE (zo u)
   rw [zb] at h1
   have h2 : v < B ^ (zL u).length := Nat.lt_of_le_of_lt q h1
   have := z8 h2
   omega
 rcases Nat.lt_or_ge (zL a).length (zL b).length with q | q
 ·rw [zFO (Int.ofNat_lt.2 q), zFO (Int.ofNat_lt.2 (key a b q))]
 ·have q' : (zL b).length < (zL a).length := by omega
  rw [zFN (Int.ofNat_lt.2 q'), zFN (Int.ofNat_lt.2 (key b a q'))]
theorem cmp_limb {a b : Nat} (ha : Lim (zL a)) (hb : Lim (zL b)) (hl : (zL a).length = (zL b).length) {i : Nat} (hi : i < (zL a).length) (he : ∀ j, i < j → j < (zL a).length → (zL a).getD j 0 = (zL b).getD j 0) (hne : (zL a).getD i 0 ≠ (zL b).getD i 0) :
 zCG a b = zCG ((zL a).getD i 0) ((zL b).getD i 0) := by
 rcases Int.lt_trichotomy ((zL a).getD i 0) ((zL b).getD i 0) with q | q | q
 ·have := zHi i ha hb hl hi he q
  rw [zb, zb] at this
  rw [zFO q, zFO (Int.ofNat_lt.2 this)]
 ·exact absurd q hne
 ·have := zHi i hb ha hl.symm (by omega) (fun j h1 h2 => (he j h1 (by omega)).symm) q
  rw [zb, zb] at this
  rw [zFN q, zFN (Int.ofNat_lt.2 this)]
theorem cmp_same {a b : Nat} (hl : (zL a).length = (zL b).length) (he : ∀ j, j < (zL a).length → (zL a).getD j 0 = (zL b).getD j 0) : zCG a b = 0 := by
 have : zL a = zL b := by
  apply List.ext_getElem hl
  intro i h1 h2
  have := he i h1
  rw [zCC 0 h1, zCC 0 h2] at this
  exact this
 rw [zKz (by rw [natL_inj this])]
/-- What the estimate begins with: at least the quotient. -/
theorem guess_ge {B top v1 v2 u2 g : Nat} (hv1 : 0 < v1) (h2 : u2 < B) (hg : g * (v1 * B + v2) ≤ top * B + u2) : g ≤ top / v1 := by
 rw [Nat.le_div_iff_mul_le hv1]
 have : g * v1 * B ≤ top * B + u2 := by
  refine Nat.le_trans ?_ hg
  rw [Nat.mul_add, Nat.mul_assoc]
  exact Nat.le_add_right _ _
 have : g * v1 * B < (top + 1) * B := by rw [Nat.add_mul]; omega
 have := Nat.lt_of_mul_lt_mul_right this
 omega
/-- The two conditions of the loop, together. -/
theorem zKA {B top v1 v2 u2 g rest : Nat} (hr : rest + g * v1 = top) (hg : g < B) (h2 : v2 < B) : (rest < B ∧ rest * B + u2 < g * v2) ↔ top * B + u2 < g * (v1 * B + v2) := by
 have e : g * (v1 * B + v2) = g * v1 * B + g * v2 := by rw [Nat.mul_add, Nat.mul_assoc]
 have e2 : top * B = rest * B + g * v1 * B := by rw [← hr, Nat.add_mul]
 rw [e, e2]
 constructor
 ·rintro ⟨_, h⟩; omega
 ·intro h
  refine ⟨?_, by omega⟩
  rcases Nat.lt_or_ge rest B with q | q
  ·exact q
  ·exfalso
   have h3 : B * B ≤ rest * B := Nat.mul_le_mul_right _ q
   have h4 : g * v2 ≤ B * B := Nat.mul_le_mul (by omega) (by omega)
   omega
/-- One limb of a subtraction of a product. -/
theorem sub_step {P w g va u0 c b t y : Nat} (h : w + g * va = u0 + P * (c + b)) {ui : Nat} (b' : Nat) (hx : (y : Int) = (ui : Int) - ((c + t) % B : Nat) - b + B * b') :
 w + P * y + (g * va + P * t) = u0 + P * ui + P * B * ((c + t) / B + b') := by
 have e : P * ((c + t) % B) + P * B * ((c + t) / B) = P * (c + t) := zE1 (c + t) P
 have h1 : (y : Int) + ((c + t) % B : Nat) + b = ui + B * b' := by omega
 have h2 : y + (c + t) % B + b = ui + B * b' := by omega
 have h3 : P * y + P * ((c + t) % B) + P * b = P * ui + P * (B * b') := by rw [← Nat.mul_add, ← Nat.mul_add, h2, Nat.mul_add]
 rw [Nat.mul_add (P * B), Nat.mul_assoc P B b']
 rw [Nat.mul_add] at e h
 omega
/-- What the zAa is: its number and what remains. -/
theorem zJ0 {u v g w : Nat} {n b : Nat} (hw : w < B ^ n) (hv : v < B ^ n) (hu : u < B ^ n) (hb : b ≤ 1) (h : w + g * v = u + B ^ n * b) (h1 : u / v ≤ g) (h2 : g ≤ u / v + 1) (hv0 : 0 < v) :
 (b = 0 → g = u / v ∧ w = u % v) ∧ (b = 1 → g = u / v + 1 ∧ (w + v) = u % v + B ^ n) := by
 have hd := Nat.div_add_mod u v
 have hm := Nat.mod_lt u hv0
 have hc : v * (u / v) = (u / v) * v := Nat.mul_comm _ _
 constructor
 ·intro h0
  subst h0
  rw [Nat.mul_zero, Nat.add_zero] at h
  have hge : g ≤ u / v := by rw [Nat.le_div_iff_mul_le hv0]; omega
  have : g = u / v := by omega
  subst this
  exact ⟨Y, by omega⟩
 ·intro h0
  subst h0
  rw [Nat.mul_one] at h
  have hg : g = u / v + 1 := by
   rcases Nat.lt_or_ge g (u / v + 1) with q | q
   ·exfalso
    have : g = u / v := by omega
    subst this
    omega
   ·omega
  subst hg
  rw [Nat.add_mul, Nat.one_mul] at h
  exact ⟨Y, by omega⟩
end Go.Ax.Bg
namespace Go.Ax.Tb
/-- strings.Cut at one byte. -/
def zAR (b : UInt8) : List UInt8 → List UInt8 × List UInt8 × Bool
 | [] => ([], [], false)
 | c :: r => if c = b then ([], r, true) else (c :: (zAR b r).1, (zAR b r).2.1, (zAR b r).2.2)
theorem cutF_no {b : UInt8} {s : List UInt8} (h : b ∉ s) : zAR b s = (s, [], false) := by
 induction s with
 | nil => rfl
 | cons c r ih =>
  simp only [List.mem_cons, not_or] at h
  rw [zAR, if_neg (fun e => h.1 e.symm), ih h.2]
theorem zK4 {b : UInt8} {l r : List UInt8} (h : b ∉ l) : zAR b (l ++ b :: r) = (l, r, true) := by
 induction l with
 | nil => rw [List.nil_append, zAR, if_pos rfl]
 | cons c q ih =>
  simp only [List.mem_cons, not_or] at h
  rw [List.cons_append, zAR, if_neg (fun e => h.1 e.symm), ih h.2]
theorem zI2 (b : UInt8) (s : List UInt8) : (zAR b s).1.length + (zAR b s).2.1.length + (if (zAR b s).2.2 then 1 else 0) = s.length := by
 induction s with
 | nil => rfl
 | cons c r ih =>
  rw [zAR]
  split
  ·simp
  ·simp only [List.length_cons]; omega
/-- .. and by the index of the byte. -/
theorem zGp (b : UInt8) (s : List UInt8) : zAR b s = if 0 ≤ Lib.indexByte s b then (s.take (Lib.indexByte s b).toNat, s.drop ((Lib.indexByte s b).toNat + 1), true) else (s, [], false) := by
 induction s with
 | nil => rfl
 | cons c r ih =>
  rw [zAR, Lib.indexByte]
  by_cases hc : c = b
  ·subst hc; simp
  ·have hb : (c == b) = false := by simpa using hc
   simp only [hb, Bool.false_eq_true, if_false, hc]
   rw [ih]
   have hge := Lib.indexByte_ge r b
   by_cases h1 : Lib.indexByte r b = -1
   ·simp [h1]
   ·have h2 : (Lib.indexByte r b == -1) = false := by simpa using h1
    simp only [h2, Bool.false_eq_true, if_false]
    rw [if_pos (by omega), if_pos (by omega)]
    have e : (Lib.indexByte r b + 1).toNat = (Lib.indexByte r b).toNat + 1 := by omega
    rw [e]; rfl
def numV (s : List UInt8) : Int := match Lib.atoiAll s with
 | .ok n => n
 | .range => Lib.atoiSat s
 | _ => 0
def zAa (c : UInt8) : Prop := 48 ≤ c.toNat ∧ c.toNat ≤ 57
theorem zBX {d : Nat} (h : d < 10) : zAa (UInt8.ofNat (48 + d)) ∧ (UInt8.ofNat (48 + d)).toNat = 48 + d := by
 have e : (UInt8.ofNat (48 + d)).toNat = 48 + d := by simp; omega
 exact ⟨⟨by omega, by omega⟩, e⟩
theorem zAd (u : Nat) : ∀ c ∈ Lib.decDigits u, zAa c := by
 induction u using Nat.strongRecOn with
 | _ u ih =>
  intro c hc
  rw [Lib.decDigits] at hc
  split at hc
  ·rename_i h
   simp only [List.mem_singleton] at hc
   subst hc; exact (zBX h).1
  ·rw [List.mem_append] at hc
   rcases hc with hc | hc
   ·exact ih _ (by omega) c hc
   ·simp only [List.mem_singleton] at hc
    subst hc; exact (zBX (Nat.mod_lt _ (by decide))).1
theorem zAv (u : Nat) : Lib.decDigits u ≠ [] := by
 rw [Lib.decDigits]
 split <;> simp
theorem zKU (l : List UInt8) (c : UInt8) : ∀ (acc m : Nat), Lib.parseUint10 acc l = .ok m → Lib.parseUint10 acc (l ++ [c]) = Lib.parseUint10 m [c] := by
 induction l with
 | nil => intro acc m h; simp only [Lib.parseUint10, Lib.NumEnd.ok.injEq] at h; subst h; rfl
 | cons x r ih =>
  intro acc m h
  rw [List.cons_append]
  simp only [Lib.parseUint10] at h ⊢
  split at h
  ·split at h
   ·cases h
   ·split at h
    ·cases h
    ·rename_i h1 h2 h3
     rw [if_pos h1, if_neg h2, if_neg h3]
     exact ih _ m h
  ·cases h
theorem zId (u : Nat) (h : u < 18446744073709551616) : Lib.parseUint10 0 (Lib.decDigits u) = .ok u := by
 induction u using Nat.strongRecOn with
 | _ u ih =>
  rw [Lib.decDigits]
  split
  ·rename_i h1
   have := (zBX h1).2
   simp only [Lib.parseUint10, this]
   rw [if_pos (by omega), if_neg (by omega), if_neg (by omega)]
   simp
  ·have := (zBX (Nat.mod_lt u (show 0 < 10 by decide))).2
   rw [zKU _ _ 0 (u / 10) (ih _ (by omega) (by omega))]
   simp only [Lib.parseUint10, this]
   rw [if_pos (by omega), if_neg (by omega), if_neg (by omega)]
   simp only [Lib.NumEnd.ok.injEq]
   omega
theorem zIo (u : Nat) (h : u < 9223372036854775808) : Lib.atoiAll (Lib.decDigits u) = .ok (u : Int) := by
 have hd := zAd u
 have hp := zId u (by omega)
 have hn := zAv u
 generalize Lib.decDigits u = l at *
 cases l with
 | nil => exact absurd rfl hn
 | cons c r =>
  have hc := hd c (by simp)
  unfold zAa at hc
  unfold Lib.atoiAll
  simp only
  rw [if_neg (by omega)]
  unfold Lib.parseMag
  rw [if_neg (by simp), hp]
  simp only
  rw [if_neg (by omega), if_neg (by omega), if_neg (by omega)]
theorem itoa_nat (u : Nat) : Lib.itoa (u : Int) = Lib.decDigits u := by
 unfold Lib.itoa
 rw [if_neg (by omega)]; simp
def same (v : Int) : List Int → Nat
 | [] => 0
 | x :: r => if x = v then same v r + 1 else 0
theorem digit_ne {c : UInt8} (h : zAa c) (b : UInt8) (hb : b.toNat < 48 ∨ 57 < b.toNat) : b ≠ c := fun e => by
 subst e; unfold zAa at h; omega
theorem zBQ (u : Nat) (b : UInt8) (hb : b.toNat < 48 ∨ 57 < b.toNat) : b ∉ Lib.decDigits u := fun h => digit_ne (zAd u b h) b hb rfl
end Go.Ax.Tb
namespace Go.Ax.Bg
open Go.Ax.Tb (zAa zBX zAd zAv)
/-- What digits spell. -/
def decS (a : Nat) (c : UInt8) : Nat := a * 10 + (c.toNat - 48)
def zAG (acc : Nat) (l : List UInt8) : Nat := l.foldl decS acc
theorem zDR (acc : Nat) : zAG acc [] = acc := rfl
theorem zBg (acc : Nat) (c : UInt8) (r : List UInt8) : zAG acc (c :: r) = zAG (acc * 10 + (c.toNat - 48)) r := by
 unfold zAG; rw [List.foldl_cons, decS]
theorem zEB (l m : List UInt8) (acc : Nat) : zAG acc (l ++ m) = zAG (zAG acc l) m := by
 unfold zAG; rw [List.foldl_append]
theorem zEA (l : List UInt8) (acc : Nat) : zAG acc l = acc * 10 ^ l.length + zAG 0 l := by
 induction l generalizing acc with
 | nil => rw [zDR, zDR]; simp
 | cons c r ih =>
  rw [zBg, zBg, ih, ih (0 * 10 + _), List.length_cons, Nat.pow_succ]
  generalize c.toNat - 48 = d
  generalize 10 ^ r.length = e
  generalize zAG 0 r = v
  rw [Nat.add_mul, Nat.zero_mul, Nat.zero_add, Nat.mul_assoc, Nat.mul_comm 10 e]
  omega
theorem zHk (l : List UInt8) (c : UInt8) (acc : Nat) : zAG acc (l ++ [c]) = zAG acc l * 10 + (c.toNat - 48) := by rw [zEB, zBg, zDR]
theorem zCI (u : Nat) : zAG 0 (Lib.decDigits u) = u := by
 induction u using Nat.strongRecOn with
 | _ u ih =>
  rw [Lib.decDigits]
  split
  ·rename_i h
   have := (zBX h).2
   rw [zBg, zDR, this]; omega
  ·have := (zBX (Nat.mod_lt u (show 0 < 10 by decide))).2
   rw [zHk, ih _ (by omega), this]
   omega
theorem zFP {l : List UInt8} (h : ∀ c ∈ l, zAa c) : zAG 0 l < 10 ^ l.length := by
 induction l with
 | nil => rw [zDR]; simp
 | cons c r ih =>
  have hc := h c (by simp)
  have i := ih (fun x hx => h x (by simp [hx]))
  unfold zAa at hc
  rw [zBg, zEA, List.length_cons, Nat.pow_succ]
  have : (c.toNat - 48) * 10 ^ r.length ≤ 9 * 10 ^ r.length := Nat.mul_le_mul_right _ (by omega)
  rw [Nat.zero_mul, Nat.zero_add]
  generalize 10 ^ r.length = e at *
  generalize (c.toNat - 48) * e = q at *
  omega
theorem zK5 {c : UInt8} {r : List UInt8} (h : zAa c) (h0 : c ≠ 48) : 10 ^ r.length ≤ zAG 0 (c :: r) := by
 unfold zAa at h
 have hc : c.toNat ≠ 48 := fun e => h0 (UInt8.toNat_inj.1 e)
 rw [zBg, zEA]
 have : 1 * 10 ^ r.length ≤ (0 * 10 + (c.toNat - 48)) * 10 ^ r.length := Nat.mul_le_mul_right _ (by omega)
 generalize (0 * 10 + (c.toNat - 48)) * 10 ^ r.length = q at *
 omega
theorem snocInd {α : Type} {p : List α → Prop} (h0 : p []) (h1 : ∀ l x, p l → p (l ++ [x])) : ∀ l, p l := by
 intro l
 have key : ∀ (n : Nat) (l : List α), l.length = n → p l := by
  intro n
  induction n with
  | zero => intro l hl; rw [List.length_eq_zero_iff.1 hl]; exact h0
  | succ n ih =>
   intro l hl
   have hne : l ≠ [] := by intro e; subst e; simp at hl
   rw [← List.dropLast_concat_getLast hne]
   exact h1 _ _ (ih _ (by simp [hl]))
 exact key _ l Y
/-- A number's text: digits, not empty, and no 0 ahead of others. -/
def zD3 (s : List UInt8) : Prop := s ≠ [] ∧ (∀ c ∈ s, zAa c) ∧ (s.getD 0 0 ≠ 48 ∨ s.length = 1)
theorem zFK (u : Nat) : zD3 (Lib.decDigits u) := by
 refine ⟨zAv u, zAd u, ?_⟩
 induction u using Nat.strongRecOn with
 | _ u ih =>
  rw [Lib.decDigits]
  split
  ·exact .inr Y
  ·left
   rename_i h
   have hne := zAv (u / 10)
   rcases ih (u / 10) (by omega) with h1 | h1
   ·cases hq : Lib.decDigits (u / 10) with
    | nil => exact absurd hq hne
    | cons c r => rw [hq] at h1; simpa using h1
   ·have hlt : u / 10 < 10 := by
     have hl := Lib.decDigits_length (u / 10)
     rw [h1] at hl
     have := Lib.lt_pow_nDigits (u / 10)
     rw [← hl] at this
     simpa using this
    rw [Lib.decDigits_one hlt]
    simp only [List.cons_append, List.getD_cons_zero]
    intro e
    have := congrArg UInt8.toNat e
    rw [(zBX hlt).2] at this
    have : (48 : UInt8).toNat = 48 := rfl
    omega
theorem zCl {s : List UInt8} (h : zD3 s) : Lib.decDigits (zAG 0 s) = s := by
 obtain ⟨h1, h2, h3⟩ := h
 revert h1 h2 h3
 refine snocInd (p := fun s => s ≠ [] → (∀ c ∈ s, zAa c) → (s.getD 0 0 ≠ 48 ∨ s.length = 1) → Lib.decDigits (zAG 0 s) = s) ?_ ?_ s
 ·intro h; exact absurd rfl h
 ·intro l c ih _ hd h3
  have hc := hd c (by simp)
  have hcv : UInt8.ofNat (48 + (c.toNat - 48)) = c := by
   unfold zAa at hc
   rw [show 48 + (c.toNat - 48) = c.toNat by omega]
   simp
  rw [zHk]
  cases l with
  | nil =>
   rw [zDR, List.nil_append, Nat.zero_mul, Nat.zero_add]
   rw [Lib.decDigits, dif_pos (by unfold zAa at hc; omega), hcv]
  | cons x r =>
   have hx : x ≠ 48 := by
    rcases h3 with h3 | h3
    ·simpa using h3
    ·simp at h3
   have hxd := hd x (by simp)
   have hge := zK5 (r := r) hxd hx
   have hpos : 1 ≤ 10 ^ r.length := Nat.one_le_pow _ _ (by decide)
   have i := ih (by simp) (fun c hc => hd c (by simp at hc ⊢; rcases hc with rfl | hc; exact .inl rfl; exact .inr (.inl hc))) (.inl (by simpa using hx))
   generalize zAG 0 (x :: r) = v at *
   unfold zAa at hc
   rw [Lib.decDigits, dif_neg (by omega)]
   rw [show (v * 10 + (c.toNat - 48)) / 10 = v by omega, show (v * 10 + (c.toNat - 48)) % 10 = c.toNat - 48 by omega, i, hcv]
/-- How long a text is. -/
theorem zBY {n k : Nat} (hk : 1 ≤ k) (h : n < 10 ^ k) : (Lib.decDigits n).length ≤ k := by
 have hl := Lib.decDigits_length n
 rcases Nat.lt_or_ge k (Lib.decDigits n).length with hlt | hge
 ·exfalso
  have hc := zFK n
  have hv := zCI n
  cases hq : Lib.decDigits n with
  | nil => exact zAv n hq
  | cons c r =>
   rw [hq] at hc hv hlt
   simp only [List.length_cons] at hlt
   have hne : c ≠ 48 := by
    rcases hc.2.2 with h | h
    ·simpa using h
    ·simp at h; subst h; simp at hlt; omega
   have := zK5 (r := r) (hc.2.1 c (by simp)) hne
   rw [hv] at this
   have : 10 ^ k ≤ 10 ^ r.length := Nat.pow_le_pow_right (by decide) (by omega)
   omega
 ·exact hge
theorem zDT (n : Nat) : n < 10 ^ (Lib.decDigits n).length := by
 have := zFP (zAd n)
 rwa [zCI] at this
/-- Nine digits behind the others. -/
def pad (k m : Nat) : List UInt8 := List.replicate (k - (Lib.decDigits m).length) 48 ++ Lib.decDigits m
theorem zJy (k : Nat) (l : List UInt8) : zAG 0 (List.replicate k 48 ++ l) = zAG 0 l := by
 induction k with
 | zero => rfl
 | succ k ih => rw [List.replicate_succ, List.cons_append, zBg]; exact ih
theorem pad_len {k m : Nat} (hk : 1 ≤ k) (h : m < 10 ^ k) : (pad k m).length = k := by
 have := zBY hk h
 unfold pad; simp; omega
theorem zMB (k m : Nat) : ∀ c ∈ pad k m, zAa c := by
 intro c hc
 unfold pad at hc
 rcases List.mem_append.1 hc with h | h
 ·rw [(List.mem_replicate.1 h).2]; exact ⟨by decide, by decide⟩
 ·exact zAd m c h
theorem zIU {n k : Nat} (hk : 1 ≤ k) (h : 10 ^ k ≤ n) : Lib.decDigits n = Lib.decDigits (n / 10 ^ k) ++ pad k (n % 10 ^ k) := by
 have hp : 0 < 10 ^ k := Nat.pow_pos (by decide)
 have hm := Nat.mod_lt n hp
 have hd : n / 10 ^ k ≠ 0 := by have := Nat.div_pos h hp; omega
 have hc := zFK (n / 10 ^ k)
 have hcan : zD3 (Lib.decDigits (n / 10 ^ k) ++ pad k (n % 10 ^ k)) := by
  refine ⟨by simp [hc.1], fun c hcm => ?_, .inl ?_⟩
  ·rcases List.mem_append.1 hcm with h | h
   ·exact hc.2.1 c h
   ·exact zMB _ _ c h
  ·cases hq : Lib.decDigits (n / 10 ^ k) with
   | nil => exact absurd hq hc.1
   | cons c r =>
    rw [hq] at hc
    simp only [List.cons_append, List.getD_cons_zero]
    rcases hc.2.2 with h | h
    ·simpa using h
    ·simp only [List.length_cons, Nat.add_eq_right, List.length_eq_zero_iff] at h
     subst h
     intro e
     subst e
     have := zCI (n / 10 ^ k)
     rw [hq] at this
     exact hd (this.symm.trans (by decide))
 have hv : zAG 0 (Lib.decDigits (n / 10 ^ k) ++ pad k (n % 10 ^ k)) = n := by
  rw [zEB, zCI, zEA, pad_len hk hm]
  have : zAG 0 (pad k (n % 10 ^ k)) = n % 10 ^ k := by unfold pad; rw [zJy, zCI]
  rw [this, Nat.mul_comm]
  exact Nat.div_add_mod n _
 have := zCl hcan
 rw [hv] at this
 exact this
end Go.Ax.Bg
namespace Go.Ax
open Go.Ax.Bg
variable [Pins]
def zDl (l : List Int) : AV := .ro (.ints .u32 l) 0 l.length
def zg (n : Nat) : AV := .ro (.ints .u32 (zL n)) 0 (zL n).length
/-- Limbs cut at their true length are the number's. -/
theorem AEq.lim {l : List Int} {k n : Nat} (h : l.take k = zL n) (hk : k ≤ l.length) : AEq (.ro (.ints .u32 l) 0 k) (zg n) := by
 have hl : (zL n).length = k := by rw [← h, List.length_take, Nat.min_eq_left hk]
 refine AEq.trans AEq.take ?_
 rw [h]
 unfold zg
 rw [hl]
 exact AEq.rfl'
theorem AEq.natNil : AEq .nil (zg 0) := by
 have : zg 0 = .ro (.ints .u32 []) 0 0 := by unfold zg; rw [zAf]; rfl
 rw [this]
 exact AEq.nil
theorem zA4 {n : Nat} : 0 < (zL n).length ↔ n ≠ 0 := by
 have _p := ‹Pins›
 constructor
 ·rintro h rfl; rw [zAf] at h; simp at h
 ·intro h; rcases Nat.eq_zero_or_pos (zL n).length with q | q
  ·exact absurd (natL_nil.1 (List.length_eq_zero_iff.1 q)) h
  ·exact q
end Go.Ax
namespace Go.Proofs.YtkncmbklkhjmgaaGreatDoor
open Go.Ax Go.Ax.Bg Go.RowKit
attribute [local irreducible] Ax zAO QOp zK
theorem norm_raw (l : List Int) (hl : Lim l) (hlen : l.length ≤ 1000000000) : zN Tryz.prog 223 [.ro (.ints .u32 l) 0 l.length] (.ro (.ints .u32 l) 0 (zL (zP l)).length) := by
 refine zK.value0 (zC (P := Tryz.prog) (fn := Tryz.f223) Y Y (by kernel_rfl) Y (fun c hR hfix => ?_)) (fix := fun _ => False) (fun _ h => h) Y Y
 refine rn1 ?_
 refine zY (ι := Nat) (fun k => [(0, .ro (.ints .u32 l) 0 k)]) (fun _ => []) (fun k => k ≤ l.length ∧ ∀ i, k ≤ i → i < l.length → l.getD i 0 = 0) (fun k => k) l.length ⟨⟨Y, trivial⟩, Y, Nat.le_refl _, fun i h1 h2 => by omega⟩ ?_
 rintro k ⟨hk, hz⟩
 have fin : (k = 0 ∨ l.getD (k - 1) 0 ≠ 0) → (zL (zP l)).length = k := fun h => by
  rw [← zL7 hl hk hz h, List.length_take, Nat.min_eq_left hk]
 refine rn6 ?_
 refine zW Y Y (fun h0 => ?_) (fun h0 => ?_)
 ·have hk1 : 0 < k := by omega
  have e1 : ((k : Int) - 1).toNat = k - 1 := by omega
  refine zDc ?_
  refine zB Y (fun h1 => ?_) (fun h1 => ?_)
  ·rw [e1] at h1
   refine rn19 ?_
   refine zM ⟨k - 1, ⟨by omega, fun i h2 h3 => ?_⟩, by omega, ⟨?_, trivial⟩, Y⟩
   ·by_cases h4 : i = k - 1
    ·subst h4; exact h1
    ·exact hz i (by omega) h3
   ·show some (AV.ro (.ints .u32 l) (0 + 0) _) = _
    congr 2
    omega
  ·rw [e1] at h1
   refine rn5 ?_
   exact zE hR Y (by rw [fin (.inr h1)]; rfl)
 ·refine rn6 ?_
  exact zE hR Y (by rw [fin (.inl (by omega))]; rfl)
theorem zCE (l : List Int) (hl : Lim l) (hlen : l.length ≤ 1000000000) : zN Tryz.prog 223 [zDl l] (zg (zP l)) := by
 refine zN.res (norm_raw l hl hlen) ?_
 exact AEq.lim (zMS hl) (z8 (zAE hl))
theorem zHI (m : Nat) (hm : m < 18446744073709551616) : zN Tryz.prog 227 [.int .u64 (m : Nat)] (zg m) := by
 have hc := zCE [((m % 4294967296 : Nat) : Int), ((m / 2 ^ 32 % 4294967296 : Nat) : Int)] (by
  rw [Lim.cons]; exact ⟨zCD m, Lim.one (zCD _)⟩) (by simp)
 have hv : zP [((m % 4294967296 : Nat) : Int), ((m / 2 ^ 32 % 4294967296 : Nat) : Int)] = m := by
  simp only [zP, Int.toNat_natCast]
  unfold B
  omega
 rw [hv] at hc
 refine zK.value0 (zC (P := Tryz.prog) (fn := Tryz.f227) Y Y (by kernel_rfl) Y (fun c hR hfix => ?_)) (fix := fun _ => False) (fun _ h => h) Y Y
 refine rn0 ?_
 refine zF (zDr (m := m) Y Y Y zC5) ?_
 repeat (refine zF (zU rfl) ?_)
 refine zF (zDs (m := m) (s := 32) Y Y Y) ?_
 refine zF (zDr Y Y Y zC5) ?_
 repeat (refine zd rfl rfl rfl rfl rfl rfl rfl rfl rfl rfl rfl ?_)
 refine zA Y Y Y hc ?_
 refine rn0 ?_
 exact zE hR Y Y
theorem zIa {a b c : Nat} (ha : a < 4294967296) (hb : b < 4294967296) (hc : c < 4294967296) : a * b < 18446744073709551616 ∧ c + a * b < 18446744073709551616 := by
 have : a * b ≤ 4294967295 * 4294967295 := Nat.mul_le_mul (by omega) (by omega)
 omega
theorem zL5 (n : List Int) (x y : Nat) (hn : Lim n) (hlen : n.length ≤ 100000000) (hx : x < 4294967296) (hy : y < 4294967296) :
 zN Tryz.prog 162 [zDl n, .int .u32 (x : Nat), .int .u32 (y : Nat)] (zg (zP n * x + y)) := by
 refine zK.value0 (zC (P := Tryz.prog) (fn := Tryz.f162) Y Y (by kernel_rfl) Y (fun c hR hfix => ?_)) (fix := fun _ => False) (fun _ h => h) Y Y
 refine rn3 ?_
 refine zBl Y Y Y Y Y Y Y Y (by show (0 : Int) ≤ 0 ∧ _ ≤ _ ∧ (4 : Int) * _ ≤ _ ∧ _; omega) ?_
 refine rn0 ?_
 refine zF (zp (m := y) Y Y Y zAQ (by omega)) ?_
 refine zIJ 0 (.ints .u32 []) Y ⟨Nat.zero_le _, Y, fun i j hi _ => absurd hi (Nat.not_lt_zero _)⟩ ?_
 refine rn3 ?_
 refine zY (ι := Nat × List Int × Nat) (fun p => [(0, zDl n), (1, .int .u32 (x : Nat)), (7, .sl 0 0 p.1), (8, .int .u64 (p.2.2 : Nat)), (17, zDl n), (18, .int .i64 (n.length : Nat)), (19, .int .i64 (p.1 : Nat))]) (fun p => [some ⟨223, .ints .u32 p.2.1⟩])
  (fun p => p.1 ≤ n.length ∧ p.2.1.length = p.1 ∧ Lim p.2.1 ∧ p.2.2 < 4294967296 ∧ zP p.2.1 + B ^ p.1 * p.2.2 = zP (n.take p.1) * x + y) (fun p => n.length - p.1) (0, [], y) ⟨⟨rfl, rfl, rfl, rfl, rfl, rfl, rfl, trivial⟩, rfl, Nat.zero_le _, rfl, Lim.nil, hy, by simp [zP]⟩ ?_
 rintro ⟨i, out, cr⟩ ⟨h1, h2, h3, h4, h5⟩
 simp only at *
 refine rn4 ?_
 refine zB Y (fun h6 => ?_) (fun h6 => ?_)
 ·have hil : i < n.length := by omega
  obtain ⟨d, hd, hdB⟩ := hn.nat i
  have hb := zIa (a := d) (b := x) (c := cr) hdB hx h4
  have hq : (cr + d * x) / 4294967296 < 4294967296 := by omega
  refine rn6 ?_
  refine zG 24 (.int .u32 (d : Nat)) Y (AEq.of_eq (by rw [hd])) ?_
  refine zF (zp (m := d) Y Y Y zAQ (by omega)) ?_
  repeat (refine zF (zU rfl) ?_)
  refine zF (zp (m := x) Y Y Y zAQ (by omega)) ?_
  refine zF (zF3 Y Y zAQ hb.1) ?_
  refine zF (zDL Y Y zAQ hb.2) ?_
  refine rn0 ?_
  refine zF (zDr Y Y Y zC5) ?_
  repeat (refine zd rfl rfl rfl rfl rfl rfl rfl rfl rfl rfl rfl ?_)
  refine zS Y Y Y Y Y Y Y Y Y h2 Y Y (Nat.le_refl 1) Y (by show (i + 1) * 4 ≤ _ ∧ _; omega) (fun i j _ _ => rfl) (by rw [hfix]; exact fun h => h) ?_
  refine rn0 ?_
  refine zF (zDs (s := 32) Y Y Y) ?_
  refine rn5 ?_
  refine zM ⟨(i + 1, out ++ [(((cr + d * x) % 4294967296 : Nat) : Int)], (cr + d * x) / 4294967296), ⟨by simp only; omega, by simp [h2], Lim.append.2 ⟨h3, Lim.one (zCD _)⟩, hq, ?_⟩, by simp only; omega, ⟨Y, Y, Y, Y, Y, Y, Y, trivial⟩, Y⟩
  have := zFB h2 h5 (c := cr + d * x) (d := d * x) rfl
  rw [zX n i, hd, Int.toNat_natCast, Nat.add_mul, Nat.mul_assoc]
  simp only at this ⊢
  rw [this]
  omega
 ·have hie : i = n.length := by omega
  subst hie
  rw [List.take_length] at h5
  refine rn5 ?_
  refine zF (zDr (m := cr) Y Y Y zC5) ?_
  repeat (refine zd rfl rfl rfl rfl rfl rfl rfl rfl rfl rfl rfl ?_)
  refine zS Y Y Y Y Y Y Y Y Y h2 Y Y (Nat.le_refl 1) Y (by show (n.length + 1) * 4 ≤ _ ∧ _; omega) (fun i j _ _ => rfl) (by rw [hfix]; exact fun h => h) ?_
  have hl : Lim (out ++ [((cr % 4294967296 : Nat) : Int)]) := Lim.append.2 ⟨h3, Lim.one (zCD _)⟩
  have hc := zCE _ hl (by simp; omega)
  have hv : zP (out ++ [((cr % 4294967296 : Nat) : Int)]) = zP n * x + y := by
   rw [zCA, h2, Int.toNat_natCast, Nat.mod_eq_of_lt h4]; exact h5
  rw [hv] at hc
  refine zCB 0 42 (n.length + 1) [] Y zl Y (by show _ ≤ (out ++ [((cr % 4294967296 : Nat) : Int)]).length; simp; omega) trivial ?_
  refine zA Y Y (by show [AV.ro _ 0 (n.length + 1)] ++ [] = [zDl (out ++ [((cr % 4294967296 : Nat) : Int)])]; simp only [zDl, List.length_append, h2]; rfl) hc ?_
  refine rn0 ?_
  exact zE hR Y Y
theorem isNaNi (n : Int) : zN Tryz.prog 286 [.int .i64 n] (.bool false) := by
 refine zK.value0 (zC (P := Tryz.prog) (fn := Tryz.f286) Y Y (by kernel_rfl) Y (fun c hR hfix => ?_)) (fix := fun _ => False) (fun _ h => h) Y Y
 refine rn3 ?_
 refine zE hR Y ?_
 simp [zAX]
theorem isNaNu (n : Int) : zN Tryz.prog 287 [.int .u32 n] (.bool false) := by
 refine zK.value0 (zC (P := Tryz.prog) (fn := Tryz.f287) Y Y (by kernel_rfl) Y (fun c hR hfix => ?_)) (fix := fun _ => False) (fun _ h => h) Y Y
 refine rn3 ?_
 refine zE hR Y ?_
 simp [zAX]
theorem cmpi (x y : Int) : zN Tryz.prog 272 [.int .i64 x, .int .i64 y] (.int .i64 (zCG x y)) := by
 refine zK.value0 (zC (P := Tryz.prog) (fn := Tryz.f272) Y Y (by kernel_rfl) Y (fun c hR hfix => ?_)) (fix := fun _ => False) (fun _ h => h) Y Y
 refine rn0 ?_
 refine zA Y Y Y (isNaNi x) ?_
 refine rn0 ?_
 refine zA Y Y Y (isNaNi y) ?_
 refine rn4 ?_
 refine zB Y (fun h => ?_) (fun h => ?_)
 ·refine rn2 ?_
  refine zE hR Y ?_
  unfold zCG; rw [if_pos h]; rfl
 ·refine rn6 ?_
  refine zB Y (fun h2 => ?_) (fun h2 => ?_)
  ·refine rn2 ?_
   refine zE hR Y ?_
   unfold zCG; rw [if_neg h, if_pos h2]; rfl
  ·refine rn1 ?_
   refine zE hR Y ?_
   unfold zCG; rw [if_neg h, if_neg h2]; rfl
theorem cmpu (x y : Int) : zN Tryz.prog 273 [.int .u32 x, .int .u32 y] (.int .i64 (zCG x y)) := by
 refine zK.value0 (zC (P := Tryz.prog) (fn := Tryz.f273) Y Y (by kernel_rfl) Y (fun c hR hfix => ?_)) (fix := fun _ => False) (fun _ h => h) Y Y
 refine rn0 ?_
 refine zA Y Y Y (isNaNu x) ?_
 refine rn0 ?_
 refine zA Y Y Y (isNaNu y) ?_
 refine rn4 ?_
 refine zB Y (fun h => ?_) (fun h => ?_)
 ·refine rn2 ?_
  refine zE hR Y ?_
  unfold zCG; rw [if_pos h]; rfl
 ·refine rn6 ?_
  refine zB Y (fun h2 => ?_) (fun h2 => ?_)
  ·refine rn2 ?_
   refine zE hR Y ?_
   unfold zCG; rw [if_neg h, if_pos h2]; rfl
  ·refine rn1 ?_
   refine zE hR Y ?_
   unfold zCG; rw [if_neg h, if_neg h2]; rfl
theorem zIR (a b : Nat) (ha : (zL a).length ≤ 1000000000) (hb : (zL b).length ≤ 1000000000) : zN Tryz.prog 224 [zg a, zg b] (.int .i64 (zCG a b)) := by
 have c1 := cmpi (zL a).length (zL b).length
 refine zK.value0 (zC (P := Tryz.prog) (fn := Tryz.f224) Y Y (by kernel_rfl) Y (fun c hR hfix => ?_)) (fix := fun _ => False) (fun _ h => h) Y Y
 have la := zo a
 have lb := zo b
 have e1 := cmp_len a b
 have e2 : ∀ i, i < (zL a).length → (zL a).length = (zL b).length → (∀ j, i < j → j < (zL a).length → (zL a).getD j 0 = (zL b).getD j 0) → (zL a).getD i 0 ≠ (zL b).getD i 0 → zCG a b = zCG ((zL a).getD i 0) ((zL b).getD i 0) := fun i hi hl hj hne => cmp_limb la lb hl hi hj hne
 have e3 : (zL a).length = (zL b).length → (∀ j, j < (zL a).length → (zL a).getD j 0 = (zL b).getD j 0) → zCG a b = 0 := cmp_same
 unfold zg
 generalize zL a = x at *
 generalize zL b = y at *
 generalize zCG (a : Int) (b : Int) = r at *
 refine rn3 ?_
 refine zB Y (fun h0 => ?_) (fun h0 => ?_)
 ·refine rn3 ?_
  refine zA Y Y Y c1 ?_
  refine rn2 ?_
  refine zE hR Y ?_
  rw [e1 (by omega)]; rfl
 ·have hl : x.length = y.length := by omega
  refine rn7 ?_
  refine zY (ι := Nat) (fun k => [(0, .ro (.ints .u32 x) 0 x.length), (1, .ro (.ints .u32 y) 0 y.length), (5, .int .i64 ((k : Int) - 1))]) (fun _ => []) (fun k => k ≤ x.length ∧ ∀ j, k ≤ j → j < x.length → x.getD j 0 = y.getD j 0) (fun k => k) x.length ⟨⟨Y, Y, Y, trivial⟩, Y, Nat.le_refl _, fun j h1 h2 => by omega⟩ ?_
  rintro k ⟨hk, hz⟩
  refine rn7 ?_
  refine zB Y (fun h1 => ?_) (fun h1 => ?_)
  ·have ek : ((k : Int) - 1).toNat = k - 1 := by omega
   refine rn1 ?_
   refine zBy (by kernel_rfl) (by kernel_rfl) Y ?_
   refine rn6 ?_
   refine zB Y (fun h2 => ?_) (fun h2 => ?_)
   ·rw [ek] at h2
    have c2 := cmpu (x.getD (k - 1) 0) (y.getD (k - 1) 0)
    repeat (refine zAA ?_)
    refine zz (by kernel_rfl) ?_
    refine zI 0 Y (by kernel_rfl) (by kernel_rfl) (by kernel_rfl) Y (zU Y) Y ?_
    refine zI 1 Y (by kernel_rfl) (by kernel_rfl) (by kernel_rfl) Y (zU Y) Y ?_
    refine zI 2 Y (by kernel_rfl) (by kernel_rfl) (by kernel_rfl) Y (zx Y Y Y Y (by first | (simp only [Nat.zero_add, Int.toNat_natCast, Int.toNat_zero]; exact Y) | exact Y) (by omega)) Y ?_
    refine zI 4 Y (by kernel_rfl) (by kernel_rfl) (by kernel_rfl) Y (zU Y) Y ?_
    refine zI 5 Y (by kernel_rfl) (by kernel_rfl) (by kernel_rfl) Y (zU Y) Y ?_
    refine zI 6 Y (by kernel_rfl) (by kernel_rfl) (by kernel_rfl) Y (zx Y Y Y Y (by first | (simp only [Nat.zero_add, Int.toNat_natCast, Int.toNat_zero]; exact Y) | exact Y) (by omega)) Y ?_
    apply zBf [(35, .int .u32 (x.getD ((k : Int) - 1).toNat 0)), (39, .int .u32 (y.getD ((k : Int) - 1).toNat 0))]
    ·intro fin
     refine zD (is := [3, 7]) (by kernel_rfl) (by simp) Y ⟨fun o ho => ?_, fun o ho => ?_, trivial⟩
     all_goals (cases ho)
     ·refine rn6 ?_
      refine zD (is := [7]) (by kernel_rfl) (by simp) Y ⟨fun o ho => ?_, trivial⟩
      all_goals (cases ho)
      refine rn6 ?_
      exact fin _ ⟨Y, Y, trivial⟩
     ·refine rn6 ?_
      refine zD (is := [3]) (by kernel_rfl) (by simp) Y ⟨fun o ho => ?_, trivial⟩
      all_goals (cases ho)
      refine rn6 ?_
      exact fin _ ⟨Y, Y, trivial⟩
    refine zD (is := [8]) (by kernel_rfl) (by simp) Y ⟨fun o ho => ?_, trivial⟩
    all_goals (cases ho)
    skip
    refine zA Y Y Y (by rw [ek]; exact c2) ?_
    refine rn1 ?_
    refine zI 9 Y (by kernel_rfl) (by kernel_rfl) (by kernel_rfl) Y (zT Y) Y ?_
    refine zr (by kernel_rfl) ?_
    refine rn6 ?_
    refine zE hR Y ?_
    rw [e2 (k - 1) (by omega) hl (fun j h3 h4 => hz j (by omega) h4) h2]; rfl
   ·rw [ek] at h2
    refine rn7 ?_
    refine zM ⟨k - 1, ⟨by omega, fun j h3 h4 => ?_⟩, by omega, ⟨Y, Y, ?_, trivial⟩, Y⟩
    ·by_cases h5 : j = k - 1
     ·subst h5; exact Classical.not_not.1 h2
     ·exact hz j (by omega) h4
    ·show some (AV.int .i64 _) = _
     congr 2
     omega
  ·refine rn5 ?_
   refine zE hR Y ?_
   rw [e3 hl (fun j h3 => hz j (by omega) h3)]; rfl
theorem zBh {out : List Int} {m : Nat} (h : out.length = m) : [AV.ro (.ints .u32 out) 0 m] ++ [] = [zDl out] := by
 subst h; rfl
theorem add_ok (a b : Nat) (ha : (zL a).length ≤ 100000000) (hb : (zL b).length ≤ 100000000) : zN Tryz.prog 246 [zg a, zg b] (zg (a + b)) := by
 refine zK.value0 (zC (P := Tryz.prog) (fn := Tryz.f246) Y Y (by kernel_rfl) Y (fun c hR hfix => ?_)) (fix := fun _ => False) (fun _ h => h) Y Y
 obtain ⟨p, q, hpq, hlen, hL⟩ : ∃ p q : Nat, p + q = a + b ∧ (zL q).length ≤ (zL p).length ∧ (((zL a).length < (zL b).length ∧ p = b ∧ q = a) ∨ (¬ (zL a).length < (zL b).length ∧ p = a ∧ q = b)) := by
  rcases Nat.lt_or_ge (zL a).length (zL b).length with h | h
  ·exact ⟨b, a, by omega, by omega, .inl ⟨h, Y, Y⟩⟩
  ·exact ⟨a, b, Y, h, .inr ⟨by omega, Y, Y⟩⟩
 have hpl : (zL p).length ≤ 100000000 := by rcases hL with ⟨_, rfl, rfl⟩ | ⟨_, rfl, rfl⟩ <;> assumption
 apply zAD (H := []) [(0, zg p), (1, zg q)]
 ·intro fin
  unfold zg at fin ⊢
  refine rn4 ?_
  refine zB Y (fun h0 => ?_) (fun h0 => ?_)
  ·have : p = b ∧ q = a := by
    rcases hL with h | h
    ·exact h.2
    ·exact absurd (by omega) h.1
   obtain ⟨rfl, rfl⟩ := this
   skip
   refine zZ Y ?_
   refine zCN ?_
   exact fin _ ⟨Y, Y, trivial⟩
  ·have : p = a ∧ q = b := by
    rcases hL with h | h
    ·exact absurd (by omega) h0
    ·exact h.2
   obtain ⟨rfl, rfl⟩ := this
   refine zCN ?_
   exact fin _ ⟨Y, Y, trivial⟩
 have hx := zo p
 have hy := zo q
 have hv : zP (zL p) + zP (zL q) = a + b := by rw [zb, zb, hpq]
 unfold zg
 rw [← hv] at hR
 generalize zL p = x at *
 generalize zL q = y at *
 refine rn3 ?_
 refine zBl Y Y Y Y Y Y Y Y (by show (0 : Int) ≤ 0 ∧ _ ≤ _ ∧ (4 : Int) * _ ≤ _ ∧ _; omega) ?_
 refine rn3 ?_
 refine zGh 0 (.ints .u32 []) Y ⟨Nat.zero_le _, Y, fun i j hi _ => absurd hi (Nat.not_lt_zero _)⟩ ?_
 refine zY (ι := Nat × List Int × Nat) (fun p => [(1, .ro (.ints .u32 y) 0 y.length), (5, .sl 0 0 p.1), (6, .int .u64 (p.2.2 : Nat)), (20, .ro (.ints .u32 x) 0 x.length), (21, .int .i64 (x.length : Nat)), (22, .int .i64 (p.1 : Nat))]) (fun p => [some ⟨223, .ints .u32 p.2.1⟩])
  (fun p => p.1 ≤ x.length ∧ p.2.1.length = p.1 ∧ Lim p.2.1 ∧ p.2.2 < 4294967296 ∧ zP p.2.1 + B ^ p.1 * p.2.2 = zP (x.take p.1) + zP (y.take p.1)) (fun p => x.length - p.1) (0, [], 0) ⟨⟨rfl, rfl, rfl, rfl, rfl, rfl, trivial⟩, rfl, Nat.zero_le _, rfl, Lim.nil, by decide, by simp [zP]⟩ ?_
 rintro ⟨i, out, cr⟩ ⟨h1, h2, h3, h4, h5⟩
 simp only at *
 refine rn4 ?_
 refine zB Y (fun h6 => ?_) (fun h6 => ?_)
 ·have hil : i < x.length := by omega
  obtain ⟨d, hd, hdB⟩ := hx.nat i
  obtain ⟨e, he, heB⟩ := hy.nat i
  refine rn6 ?_
  refine zG 28 (.int .u32 (d : Nat)) Y (AEq.of_eq (by rw [hd])) ?_
  refine zF (zp (m := d) Y Y Y zAQ (by omega)) ?_
  refine zF (zDL Y Y zAQ (by omega)) ?_
  refine rn4 ?_
  apply zAD (H := [some ⟨223, .ints .u32 out⟩]) [(1, .ro (.ints .u32 y) 0 y.length), (5, .sl 0 0 i), (6, .int .u64 (cr + d + e : Nat)), (20, .ro (.ints .u32 x) 0 x.length), (21, .int .i64 (x.length : Nat)), (22, .int .i64 (i : Nat))]
  ·intro fin
   refine zB Y (fun h7 => ?_) (fun h7 => ?_)
   ·refine rn6 ?_
    refine zG 39 (.int .u32 (e : Nat)) Y (AEq.of_eq (by rw [he])) ?_
    refine zF (zp (m := e) Y Y Y zAQ (by omega)) ?_
    refine zF (zDL Y Y zAQ (by omega)) ?_
    refine zCN ?_
    exact fin _ ⟨Y, Y, Y, Y, Y, Y, trivial⟩
   ·have he0 : e = 0 := by
     have : y.getD i 0 = 0 := by simp [List.getD, List.getElem?_eq_none (show y.length ≤ i by omega)]
     omega
    subst he0
    refine zCN ?_
    exact fin _ ⟨Y, Y, Y, Y, Y, Y, trivial⟩
  refine rn0 ?_
  refine zF (zDr Y Y Y zC5) ?_
  repeat (refine zd rfl rfl rfl rfl rfl rfl rfl rfl rfl rfl rfl ?_)
  refine zS Y Y Y Y Y Y Y Y Y h2 Y Y (Nat.le_refl 1) Y (by show (i + 1) * 4 ≤ _ ∧ _; omega) (fun i j _ _ => rfl) (by rw [hfix]; exact fun h => h) ?_
  refine rn0 ?_
  refine zF (zDs (s := 32) Y Y Y) ?_
  refine rn5 ?_
  exact zM ⟨(i + 1, out ++ [(((cr + d + e) % 4294967296 : Nat) : Int)], (cr + d + e) / 4294967296), ⟨by simp only; omega, by simp [h2], Lim.append.2 ⟨h3, Lim.one (zCD _)⟩, by simp only; omega, zIm h2 h5 hd he⟩, by simp only; omega, ⟨Y, Y, Y, Y, Y, Y, trivial⟩, Y⟩
 ·have hie : i = x.length := by omega
  subst hie
  rw [List.take_length, List.take_of_length_le hlen] at h5
  refine rn5 ?_
  refine zF (zDr (m := cr) Y Y Y zC5) ?_
  repeat (refine zd rfl rfl rfl rfl rfl rfl rfl rfl rfl rfl rfl ?_)
  refine zS Y Y Y Y Y Y Y Y Y h2 Y Y (Nat.le_refl 1) Y (by show (x.length + 1) * 4 ≤ _ ∧ _; omega) (fun i j _ _ => rfl) (by rw [hfix]; exact fun h => h) ?_
  have hl : Lim (out ++ [((cr % 4294967296 : Nat) : Int)]) := Lim.append.2 ⟨h3, Lim.one (zCD _)⟩
  have hc := zCE _ hl (by simp; omega)
  have hv : zP (out ++ [((cr % 4294967296 : Nat) : Int)]) = zP x + zP y := by
   rw [zCA, h2, Int.toNat_natCast, Nat.mod_eq_of_lt h4]; exact h5
  rw [hv] at hc
  refine zCB 0 54 (x.length + 1) [] Y zl Y (by show _ ≤ (out ++ [((cr % 4294967296 : Nat) : Int)]).length; simp; omega) trivial ?_
  refine zA Y Y (zBh (by simp [h2])) hc ?_
  refine rn0 ?_
  exact zE hR Y Y
theorem sub_ok (a b : Nat) (hab : b ≤ a) (ha : (zL a).length ≤ 100000000) : zN Tryz.prog 247 [zg a, zg b] (zg (a - b)) := by
 refine zK.value0 (zC (P := Tryz.prog) (fn := Tryz.f247) Y Y (by kernel_rfl) Y (fun c hR hfix => ?_)) (fix := fun _ => False) (fun _ h => h) Y Y
 have hx := zo a
 have hy := zo b
 have hlen : (zL b).length ≤ (zL a).length := z8 (by have := zAE hx; rw [zb] at this; omega)
 have hva : zP (zL a) = a := zb a
 have hvb : zP (zL b) = b := zb b
 have haB : a < B ^ (zL a).length := by have := zAE hx; rwa [zb] at this
 unfold zg
 generalize zL a = x at *
 generalize zL b = y at *
 refine rn3 ?_
 refine zBl Y Y Y Y Y Y Y Y (by show (0 : Int) ≤ 0 ∧ _ ≤ _ ∧ (4 : Int) * _ ≤ _ ∧ _; omega) ?_
 refine rn3 ?_
 refine zGh 0 (.ints .u32 []) Y ⟨Nat.zero_le _, Y, fun i j hi _ => absurd hi (Nat.not_lt_zero _)⟩ ?_
 refine zY (ι := Nat × List Int × Nat) (fun p => [(1, .ro (.ints .u32 y) 0 y.length), (5, .sl 0 0 p.1), (6, .int .i64 (p.2.2 : Nat)), (13, .ro (.ints .u32 x) 0 x.length), (14, .int .i64 (x.length : Nat)), (15, .int .i64 (p.1 : Nat))]) (fun p => [some ⟨223, .ints .u32 p.2.1⟩])
  (fun p => p.1 ≤ x.length ∧ p.2.1.length = p.1 ∧ Lim p.2.1 ∧ p.2.2 ≤ 1 ∧ zP p.2.1 + zP (y.take p.1) = zP (x.take p.1) + B ^ p.1 * p.2.2) (fun p => x.length - p.1) (0, [], 0) ⟨⟨rfl, rfl, rfl, rfl, rfl, rfl, trivial⟩, rfl, Nat.zero_le _, rfl, Lim.nil, by decide, by simp [zP]⟩ ?_
 rintro ⟨i, out, br⟩ ⟨h1, h2, h3, h4, h5⟩
 simp only at *
 refine rn4 ?_
 refine zB Y (fun h6 => ?_) (fun h6 => ?_)
 ·have hil : i < x.length := by omega
  obtain ⟨d, hd, hdB⟩ := hx.nat i
  obtain ⟨e, he, heB⟩ := hy.nat i
  refine rn6 ?_
  refine zG 20 (.int .u32 (d : Nat)) Y (AEq.of_eq (by rw [hd])) ?_
  refine zF (zDa (m := d) Y Y Y (by omega)) ?_
  refine rn7 ?_
  apply zAD (H := [some ⟨223, .ints .u32 out⟩]) [(1, .ro (.ints .u32 y) 0 y.length), (5, .sl 0 0 i), (9, .int .i64 ((d : Int) - (br : Int) - (e : Int))), (13, .ro (.ints .u32 x) 0 x.length), (14, .int .i64 (x.length : Nat)), (15, .int .i64 (i : Nat))]
  ·intro fin
   refine zB Y (fun h7 => ?_) (fun h7 => ?_)
   ·refine rn6 ?_
    refine zG 32 (.int .u32 (e : Nat)) Y (AEq.of_eq (by rw [he])) ?_
    refine zF (zDa (m := e) Y Y Y (by omega)) ?_
    refine zCN ?_
    exact fin _ ⟨Y, Y, Y, Y, Y, Y, trivial⟩
   ·have he0 : e = 0 := by
     have : y.getD i 0 = 0 := by simp [List.getD, List.getElem?_eq_none (show y.length ≤ i by omega)]
     omega
    subst he0
    refine zCN ?_
    exact fin _ ⟨Y, Y, by show some (AV.int .i64 ((d : Int) - (br : Int))) = _; simp, Y, Y, Y, trivial⟩
  obtain ⟨yv, br', hyv, hbr, hyB⟩ : ∃ yv br' : Nat, yv + br + e = d + 4294967296 * br' ∧ br' ≤ 1 ∧ yv < 4294967296 := by
   rcases Nat.lt_or_ge d (br + e) with q | q
   ·exact ⟨d + 4294967296 - br - e, 1, by omega, by omega, by omega⟩
   ·exact ⟨d - br - e, 0, by omega, by omega, by omega⟩
  refine rn4 ?_
  apply zAD (H := [some ⟨223, .ints .u32 out⟩]) [(1, .ro (.ints .u32 y) 0 y.length), (5, .sl 0 0 i), (6, .int .i64 (br' : Nat)), (9, .int .i64 (yv : Nat)), (13, .ro (.ints .u32 x) 0 x.length), (14, .int .i64 (x.length : Nat)), (15, .int .i64 (i : Nat))]
  ·intro fin
   refine zB Y (fun h7 => ?_) (fun h7 => ?_)
   ·have : br' = 1 := by omega
    skip
    refine zZ Y ?_
    refine zCN ?_
    subst this
    exact fin _ ⟨Y, Y, Y, by show some (AV.int .i64 ((d : Int) - (br : Int) - (e : Int) + 4294967296)) = _; congr 2; omega, Y, Y, Y, trivial⟩
   ·have : br' = 0 := by omega
    subst this
    refine zCN ?_
    exact fin _ ⟨Y, Y, Y, by show some (AV.int .i64 ((d : Int) - (br : Int) - (e : Int))) = _; congr 2; omega, Y, Y, Y, trivial⟩
  refine rn0 ?_
  refine zF (zp (m := yv) Y Y Y zC5 hyB) ?_
  repeat (refine zd rfl rfl rfl rfl rfl rfl rfl rfl rfl rfl rfl ?_)
  refine zS Y Y Y Y Y Y Y Y Y h2 Y Y (Nat.le_refl 1) Y (by show (i + 1) * 4 ≤ _ ∧ _; omega) (fun i j _ _ => rfl) (by rw [hfix]; exact fun h => h) ?_
  refine rn5 ?_
  exact zM ⟨(i + 1, out ++ [(yv : Int)], br'), ⟨by simp only; omega, by simp [h2], Lim.append.2 ⟨h3, Lim.one (by omega)⟩, hbr, zMO h2 h5 hd he hyv⟩, by simp only; omega, ⟨Y, Y, Y, Y, Y, Y, trivial⟩, Y⟩
 ·have hie : i = x.length := by omega
  subst hie
  rw [List.take_length, List.take_of_length_le hlen, hva, hvb] at h5
  have hc := zCE _ h3 (by omega)
  have hv : zP out = a - b := by
   have hob := zAE h3
   rw [h2] at hob
   have : br = 0 ∨ br = 1 := by omega
   rcases this with rfl | rfl
   ·rw [Nat.mul_zero] at h5; omega
   ·rw [Nat.mul_one] at h5; omega
  rw [hv] at hc
  refine rn5 ?_
  refine zCB 0 45 x.length [] Y zl Y (by show _ ≤ out.length; omega) trivial ?_
  refine zA Y Y (zBh h2) hc ?_
  refine rn0 ?_
  exact zE hR Y Y
theorem zGF (n : List Int) (x : Nat) (hn : Lim n) (hlen : n.length ≤ 100000000) (hx : 0 < x ∧ x < 4294967296) :
 zN Tryz.prog 226 [zDl n, .int .u32 (x : Nat)] (.tup [zg (zP n / x), .int .u32 (zP n % x : Nat)]) := by
 refine zK.value0 (zC (P := Tryz.prog) (fn := Tryz.f226) Y Y (by kernel_rfl) Y (fun c hR hfix => ?_)) (fix := fun _ => False) (fun _ h => h) Y Y
 unfold zDl
 refine rn3 ?_
 refine zBl Y Y Y Y Y Y Y Y (by show (0 : Int) ≤ _ ∧ _ ≤ _ ∧ (4 : Int) * _ ≤ _ ∧ _; omega) ?_
 refine rn7 ?_
 refine zY (ι := Nat × List Int × Nat) (fun p => [(0, .ro (.ints .u32 n) 0 n.length), (1, .int .u32 (x : Nat)), (6, .sl 0 0 n.length), (7, .int .u64 (p.2.2 : Nat)), (8, .int .i64 ((p.1 : Int) - 1))]) (fun p => [some ⟨223, .ints .u32 p.2.1⟩])
  (fun p => p.1 ≤ n.length ∧ p.2.1.length = n.length ∧ Lim p.2.1 ∧ p.2.2 < x ∧ zP (n.drop p.1) = x * zP (p.2.1.drop p.1) + p.2.2) (fun p => p.1) (n.length, List.replicate n.length 0, 0) ⟨⟨rfl, rfl, rfl, rfl, rfl, trivial⟩, rfl, Nat.le_refl _, by simp, Lim.zeros _, hx.1, by simp [zP]⟩ ?_
 rintro ⟨i, out, rs⟩ ⟨h1, h2, h3, h4, h5⟩
 simp only at *
 refine rn7 ?_
 refine zB Y (fun h6 => ?_) (fun h6 => ?_)
 ·obtain ⟨j, rfl⟩ : ∃ j, i = j + 1 := ⟨i - 1, by omega⟩
  obtain ⟨d, hd, hdB⟩ := hn.nat j
  have ej : (((j + 1 : Nat) : Int) - 1) = (j : Nat) := by omega
  have ejt : (((j + 1 : Nat) : Int) - 1).toNat = j := by omega
  have htop : rs * 4294967296 + d < x * 4294967296 := by
   have : (rs + 1) * 4294967296 ≤ x * 4294967296 := Nat.mul_le_mul_right _ h4
   omega
  have hq : (rs * 4294967296 + d) / x < 4294967296 := Nat.div_lt_of_lt_mul htop
  have hm : (rs * 4294967296 + d) % x < x := Nat.mod_lt _ hx.1
  have hdm := Nat.div_add_mod (rs * 4294967296 + d) x
  generalize hqe : (rs * 4294967296 + d) / x = q at *
  generalize hme : (rs * 4294967296 + d) % x = r at *
  refine rn1 ?_
  refine zF (zHA (m := rs) (s := 32) Y Y (by decide) zAQ (zF7 (by omega))) ?_
  refine rn6 ?_
  refine zG 24 (.int .u32 (d : Nat)) Y (AEq.of_eq (by rw [ejt, hd])) ?_
  refine zF (zp (m := d) Y Y Y zAQ (by omega)) ?_
  refine zF (QOp.res (zJb Y Y zAQ Y (zF7 (by omega)) (by omega)) (by rw [zKQ hdB])) ?_
  refine rn0 ?_
  refine zF (zp (m := x) Y Y Y zAQ (by omega)) ?_
  refine zF (QOp.res (q_uquo Y Y zAQ (by omega) hx.1) (by rw [hqe])) ?_
  refine zF (zp (m := q) Y Y Y zC5 hq) ?_
  refine zG 28 (.int .i64 (j : Nat)) Y (AEq.of_eq (by rw [ej])) ?_
  refine rn7 ?_
  refine zF (zp (m := x) Y Y Y zAQ (by omega)) ?_
  refine zF (QOp.res (q_urem Y Y hx.1) (by rw [hme])) ?_
  refine rn7 ?_
  refine zM ⟨(j, out.set j (q : Int), r), ⟨by simp only; omega, by simp [h2], h3.set (by omega), hm, ?_⟩, by simp only; omega, ⟨Y, Y, Y, Y, ?_, trivial⟩, Y⟩
  rotate_left
  ·show some (AV.int .i64 _) = _
   congr 2
   omega
  simp only
  rw [zIV (by omega), zHO, hd, Int.toNat_natCast, h5]
  simp only [zP, Int.toNat_natCast]
  have e1 : x * (q + B * zP (out.drop (j + 1))) = x * q + B * (x * zP (out.drop (j + 1))) := by rw [Nat.mul_add, Nat.mul_left_comm]
  rw [e1, Nat.mul_add]
  generalize x * zP (out.drop (j + 1)) = w at *
  generalize x * q = w2 at *
  show d + (4294967296 * w + 4294967296 * rs) = w2 + 4294967296 * w + r
  omega
 ·have hie : i = 0 := by omega
  subst hie
  rw [List.drop_zero, List.drop_zero] at h5
  have hv : zP out = zP n / x ∧ rs = zP n % x := by
   rw [h5, Nat.mul_comm]
   constructor
   ·rw [Nat.add_comm, Nat.add_mul_div_right _ _ hx.1, Nat.div_eq_of_lt h4, Nat.zero_add]
   ·rw [Nat.add_comm, Nat.add_mul_mod_self_right, Nat.mod_eq_of_lt h4]
  have hc := zCE _ h3 (by omega)
  rw [hv.1] at hc
  obtain ⟨_, hv2⟩ := hv
  refine rn5 ?_
  refine zCB 0 39 n.length [(7, .int .u64 (rs : Nat))] Y zl Y (by show _ ≤ out.length; omega) ⟨Y, trivial⟩ ?_
  refine zA Y Y (zBh h2) hc ?_
  repeat (refine zF (zU rfl) ?_)
  refine zF (zp (m := rs) Y Y Y zC5 (by omega)) ?_
  refine rn0 ?_
  refine zE hR Y ?_
  rw [hv2]; rfl
end Go.Proofs.YtkncmbklkhjmgaaGreatDoor
