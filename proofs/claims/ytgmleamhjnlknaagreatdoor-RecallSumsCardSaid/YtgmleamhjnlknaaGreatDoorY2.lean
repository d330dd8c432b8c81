import Derived.Lib.Bytealg
import Derived.Laws.Externs
import Derived.Laws.CopyRow
import Derived.OpenShut
import Derived.Lib.LaidTab
import Derived.Lib.ItoaNum
import Derived.Stop.LaidErr
import Derived.Test.YtgmleamhjnlknaaGreatDoorProg
import Derived.Lib.AtoiAll
import Derived.Laws.StructEq
import Derived.ChangeKeysEq
import Derived.WideLaws
import Derived.Laws.Bits64
import Derived.Laws.BitsLemmas
import Derived.Lib.AppendStr
import Derived.Lib.UnsafeStr
import Derived.Lib.Builder
import Derived.Laws.Small
import Derived.Test.YtgmleamhjnlknaaGreatDoorY1
set_option linter.unusedVariables false
set_option linter.unusedSimpArgs false
namespace Go.Ax
variable [Pins]
open Go.RowKit
section
variable {P : Program} {fn : Func} {c : Ctx} {fr : Fr} {H : zg} {k : List It}
end
/-- What a value is told as, once the objects of HF are only read. -/
def FzTo (HF : zg) (x y : AV) : Prop := y = x ∨ y = .any ∨ (y = x.frz HF ∧ inB HF x)
def fzk (HF : zg) (fr : Fr) : Fr → Prop
 | [] => True
 | (t, y) :: r => (∃ x, zAt t fr = some x ∧ FzTo HF x y) ∧ fzk HF fr r
theorem look_fzk {HF : zg} {fr L : Fr} {t : Nat} {y : AV} (h : fzk HF fr L) (hl : zAt t L = some y) : ∃ x, zAt t fr = some x ∧ FzTo HF x y := by
 have _pin := (inferInstance : Pins)
 induction L with
 | nil => simp [zAt] at hl
 | cons p r ih =>
   obtain ⟨u, x⟩ := p
   obtain ⟨h1, h2⟩ := h
   simp only [zAt] at hl
   by_cases he : t = u
   · subst he; simp at hl; subst hl; exact h1
   · have hb : Nat.beq t u = false := zBM he
     simp [hb] at hl
     exact ih h2 hl
/-- Objects that nobody writes any more join the region. -/
theorem Rep.freeze {c : Ctx} {w : World} {a : Act} {σ : Nat → Option Blk} {S : Nat → Prop} {n : Nat} {fr L : Fr} {H : zg} (hr : Rep c w a σ S n fr H) (HF H' : zg) (hsub : subH HF H) (hrl : ∀ (h : Nat) (o : AObj), HF[h]? = some (some o) → zAO o.c)
   (hlen : H'.length = H.length)
   (hH : ∀ (h : Nat) (o' : AObj), H'[h]? = some (some o') → (∀ o : AObj, HF[h]? ≠ some (some o)) ∧ ∃ o : AObj, H[h]? = some (some o) ∧ o'.ty = o.ty ∧ o'.c.len = o.c.len ∧ o'.c.kd = o.c.kd ∧ ∀ i j, i < o.c.len → j < o.c.sz → FzTo HF (o.c.at i j) (o'.c.at i j))
   (hL : fzk HF fr L) : ∃ S', Rep c w a σ S' n L H' := by
 have hlive : zIo w S σ HF := fun h o ho => hr.hr.live h o (hsub h o ho)
 let S' : Nat → Prop := fun b => S b ∨ ∃ h o s C, HF[h]? = some (some o) ∧ σ h = some (.at b s C)
 have hup : ∀ {σ1 : Nat → Option Blk} {x v}, VR w S σ1 x v → VR w S' σ1 x v := fun h => h.mono (fun _ h => .inl h) (fun _ _ => rfl) _ (fun _ _ h => h)
 have hfz : ∀ {x y v}, FzTo HF x y → VR w S σ x v → VR w S' σ y v := by
   intro x y v h hv
   rcases h with rfl | rfl | ⟨rfl, hin⟩
   · exact hup hv
   · exact .any _ _
   · exact VR.freeze hlive hrl (fun _ h => .inl h) (fun h o b s C h1 h2 => .inr ⟨h, o, s, C, h1, h2⟩) hv σ hin
 refine ⟨S', ⟨fun h o' ho' => ?_, fun h1 h2 o1 o2 b s C s' C' q1 q2 e1 e2 => ?_, fun b hb => ?_, fun h hl => hr.hr.dom h (by omega)⟩, ⟨hr.kp.os, hr.kp.output, hr.kp.tape, hr.kp.size, hr.kp.block, fun b hb => .inl (hr.kp.S1 b hb), fun b hb => ?_, hr.kp.fixed, fun h hf => by rw [hlen]; exact hr.kp.fixlt h hf, fun h o b s C q e => ?_⟩, hr.defers, hr.size, fun t y hy => ?_⟩
 · obtain ⟨hno, o, h1, h2, h3, h4, h5⟩ := hH h o' ho'
   rw [h3, kd_sz h4]
   rcases hr.hr.live h o h1 with g | ⟨b, C, cur, g1, g2, g3, g4, g5, g6, g7⟩
   · exact .inl g
   · refine .inr ⟨b, C, cur, g1, (g2.mono rfl hup).kd h2 h4, g3, g4, g5, ?_, fun i j hi hj => ?_⟩
     · rintro (hs | ⟨h', o2, s2, C2, q1, q2⟩)
       · exact g6 hs
       · have := hr.hr.dist h h' o o2 b _ C s2 C2 h1 (hsub h' o2 q1) g1 q2
         subst this
         exact hno o2 q1
     · obtain ⟨v, e1, e2, e3⟩ := g7 i j hi hj
       exact ⟨v, e1, hfz (h5 i j hi hj) e2, e3⟩
 · obtain ⟨_, p, p1, _⟩ := hH h1 o1 q1
   obtain ⟨_, p', p1', _⟩ := hH h2 o2 q2
   exact hr.hr.dist h1 h2 p p' b s C s' C' p1 p1' e1 e2
 · rcases hb with hs | ⟨h, o, s, C, q1, q2⟩
   · exact hr.hr.small b hs
   · obtain ⟨_, cu, g, _⟩ := hr.obj (hsub h o q1) q2
     exact g.lt
 · rcases hb with hs | ⟨h, o, s, C, q1, q2⟩
   · exact hr.kp.S2 b hs
   · rcases hr.kp.own h o b s C (hsub h o q1) q2 with g | g
     · exact .inr (.inl g)
     · exact .inr (.inr g)
 · obtain ⟨_, p, p1, _⟩ := hH h o q
   exact hr.kp.own h p b s C p1 e
 · obtain ⟨x, hx, hf⟩ := look_fzk hL hy
   exact ⟨(hr.slots t x hx).1, hfz hf (hr.slots t x hx).2⟩
section
variable {P : Program} {fn : Func} {c : Ctx} {fr : Fr} {H : zg} {k : List It}
theorem zCo {x : Code} (H' : zg) (he : H = H') (hk : Ax P fn c (.code x k) fr H') : Ax P fn c (.code x k) fr H := he ▸ hk
theorem zFL {all : Array Oper} {fuel : Nat} {listed : Array Bool} (H' : zg) (hs : zAk H H') (h : Ax P fn c (.any all fuel listed k) fr H') : Ax P fn c (.any all fuel listed k) fr H :=
 fun w a σ S hr => h w a σ S (hr.heap hs)
theorem zBR {all : Array Oper} {fuel : Nat} {listed : Array Bool} (t : Nat) {v : AV} (y : AV) (hl : zAt t fr = some v) (h : AEq v y) (hk : Ax P fn c (.any all fuel listed k) ((t, y) :: fr) H) : Ax P fn c (.any all fuel listed k) fr H :=
 fun w a σ S hr => hk w a σ S (hr.slot hl h)
end
end Go.Ax
namespace Go.Ax
variable [Pins]
open Go.RowKit
section
variable {ind : Bool} {P : Program} {fn : Func} {c : Ctx} {fr : Fr} {H : zg} {k : List It}
variable {d : Option Nat} {ty : TypeId} {pos : String} {after : Array Edge} {gu : Option (Nat × Bool)}
theorem q_extern {g : Operand} {args : List Operand} {ats : Array TypeId} {f : FuncId} {fx : Func} {e : Array Value → Sem Value} {ags : List AV} {r : AV} (hg : ev fr g = some (.fn f [])) (ha : evs fr args = some ags)
   (hf : P.funcs[f]? = some fx) (hname : (fx.name == "runtime.NumGoroutine") = false) (hb : fx.body.isNone = true) (hn : Extern.findNext fx = none) (he : Extern.find fx = some e)
   (hrun : ∀ w S σ vals, VRs w S σ ags vals → ∃ x, VR w S σ r x ∧ ∀ w', (e vals).run P w' = .ok x w') :
   QOp ind P fn c fr H ⟨d, .call { callee := .value g, args := args.toArray, argTypes := ats }, ty, pos, after, gu⟩ r := by
 intro w a σ S hr
 have h1 := hr.evAt hg
 obtain ⟨e1, e2⟩ := zGC hr args ags ha
 generalize hz : a.eval g = z at h1
 cases h1 with
 | fn _ _ _ vs hl hv =>
   have hvs : vs = #[] := by
     have : vs.size = 0 := by simpa using hl
     exact Array.eq_empty_of_size_eq_zero this
   subst hvs
   have hv0 : VRs w S σ ags (args.map a.eval).toArray := by
     refine ⟨by simp [e1], fun i hi => ?_⟩
     have := e2 i hi
     have hlt : i < args.length := by omega
     have eb : (args.map a.eval).toArray.getD i undef = (args.map a.eval).getD i undef := by simp [List.getD, hlt]
     rw [eb]; exact this
   obtain ⟨x, hx2, hall⟩ := hrun w S σ _ hv0
   refine ⟨x, hx2, fun w' _ => ?_⟩
   have hc := run_callFunc_extern (P := P) hf hname hb hn he (args.map a.eval).toArray w'
   rw [hall w'] at hc
   simp only [execOp, resolve, hz, Deferred.ofValue, Sem.run_bind, Sem.run_pure, Result.andThen_ok, invoke, List.map_toArray, Array.empty_append, Array.append_empty] at hc ⊢
   exact hc
theorem VRs.strByte {w : World} {S : Nat → Prop} {σ : Nat → Option Blk} {s : List UInt8} {b : Int} {vals : Array Value} (h : VRs w S σ [.str s, .int .u8 b] vals) : vals = #[zFd s, .int .u8 b] := by
 have _pin := (inferInstance : Pins)
 obtain ⟨h1, h2⟩ := h
 have a := h2 0 (by simp)
 have b' := h2 1 (by simp)
 apply Array.ext
 · simpa using h1
 · intro i hi1 hi2
   have hlt : i < 2 := by simpa using hi2
   match i, hlt with
   | 0, _ =>
     simp only [List.getD_cons_zero, Array.getD, hi1, dite_true] at a
     generalize hv : vals[0] = v at *
     have hv' : vals.getInternal 0 hi1 = v := hv
     rw [hv'] at a
     cases a; rfl
   | 1, _ =>
     simp only [List.getD_cons_succ, List.getD_cons_zero, Array.getD, hi1, dite_true] at b'
     generalize hv : vals[1] = v at *
     have hv' : vals.getInternal 1 hi1 = v := hv
     rw [hv'] at b'
     cases b'; rfl
/-- internal/bytealg.IndexByteString -/
theorem zJb {g x y : Operand} {ats : Array TypeId} {f : FuncId} {fx : Func} {s : List UInt8} {b : Int} (hg : ev fr g = some (.fn f [])) (hx : ev fr x = some (.str s)) (hy : ev fr y = some (.int .u8 b))
   (hf : P.funcs[f]? = some fx) (hname : (fx.name == "runtime.NumGoroutine") = false) (hb : fx.body.isNone = true) (hn : Extern.findNext fx = none) (he : Extern.find fx = some Extern.BytealgIndexByte.indexByte) :
   QOp ind P fn c fr H ⟨d, .call { callee := .value g, args := #[x, y], argTypes := ats }, ty, pos, after, gu⟩ (.int .i64 (Lib.indexByte s b.toNat.toUInt8)) :=
 q_extern (args := [x, y]) (ags := [.str s, .int .u8 b]) hg (by simp [evs, hx, hy]) hf hname hb hn he (fun w S σ vals hv => ⟨_, .int _ _ _, fun w' => by rw [hv.strByte]; exact Lib.run_indexByteString _ _ _⟩)
end
theorem AEq.tup2 {x x' y : AV} (h : AEq x x') : AEq (.tup [x, y]) (.tup [x', y]) := by
 have _pin := (inferInstance : Pins)
 intro w S σ v hv
 cases hv with
 | tup _ _ vs hl hv =>
   refine .tup _ _ _ hl (fun i hi => ?_)
   have := hv i hi
   match i, hi with
   | 0, _ => exact h _ _ _ _ this
   | 1, _ => exact this
theorem zV.res {P : Program} {f : FuncId} {args : List AV} {H : zg} {fix : Nat → Prop} {K K' : AV → zg → Prop} (hc : zV P f args H fix K) (hK : ∀ r H', K r H' → ∃ r', AEq r r' ∧ K' r' H') : zV P f args H fix K' := by
 refine ⟨hc.1, fun w σ S vals h0 h1 h2 h3 => Calls.mono (hc.2 w σ S vals h0 h1 h2 h3) fun e w' he => ?_⟩
 obtain ⟨v, r, σ', S', H', g1, g2, g3, g4, g5⟩ := he
 obtain ⟨r', hr1, hr2⟩ := hK _ _ g5
 exact ⟨v, r', σ', S', H', g1, g2, hr1 _ _ _ _ g3, ⟨g4.os, g4.output, g4.tape, g4.size, g4.block, g4.S1, g4.S2, g4.fixed, g4.fixlt, g4.own⟩, hr2⟩
def AEqs : List AV → List AV → Prop
 | [], [] => True
 | x :: r, y :: q => AEq x y ∧ AEqs r q
 | _, _ => False
theorem AEqs.length : ∀ {a b : List AV}, AEqs a b → a.length = b.length
 | [], [], _ => have _pin := (inferInstance : Pins); rfl
 | _ :: r, _ :: q, h => by simp [AEqs.length h.2]
 | [], _ :: _, h => h.elim
 | _ :: _, [], h => h.elim
theorem AEqs.get : ∀ {a b : List AV}, AEqs a b → ∀ i, i < a.length → AEq (a.getD i .any) (b.getD i .any)
 | [], [], _, i, hi => by have _pin := (inferInstance : Pins); simp at hi
 | x :: r, y :: q, h, 0, _ => h.1
 | x :: r, y :: q, h, i + 1, hi => by simpa using AEqs.get h.2 i (by simpa using hi)
 | [], _ :: _, h, _, _ => h.elim
 | _ :: _, [], h, _, _ => h.elim
/-- A contract, at arguments told otherwise. -/
theorem zk.args {P : Program} {f : FuncId} {ags ags' : List AV} {r : AV} (hc : zk P f ags' r) (h : AEqs ags ags') : zk P f ags r := by
 intro H
 have h1 := hc H
 unfold zV at h1 ⊢
 refine ⟨h1.1, fun w σ S vals hp hr hf hv => h1.2 w σ S vals hp hr hf ⟨hv.1.trans h.length, fun j hj => ?_⟩⟩
 rw [← h.length] at hj
 exact h.get j hj _ _ _ _ (hv.2 j hj)
theorem zk.res {P : Program} {f : FuncId} {args : List AV} {r r' : AV} (hc : zk P f args r) (h : AEq r r') : zk P f args r' :=
 fun H => (hc H).res fun _ _ ⟨h1, h2⟩ => ⟨r', h1 ▸ h, rfl, h2⟩
end Go.Ax
namespace Go.Ax
variable [Pins]
open Go.RowKit
section
variable {ind : Bool} {P : Program} {fn : Func} {c : Ctx} {fr : Fr} {H : zg} {k : List It}
variable {d : Option Nat} {ty : TypeId} {pos : String} {after : Array Edge} {g : Option (Nat × Bool)}
/-- The address of an array's element (of one cell). -/
theorem zJH {x ix : Operand} {t e : TypeId} {n h i j jx : Nat} {kk : IntKind} {m : Int} (ht : P.underlying t = some (.array n e)) (hs : (P.info? e).map (·.size) = some 1) (hx : ev fr x = some (.ptr h i j)) (hi : ev fr ix = some (.int kk m)) (hj : j + m.toNat = jx) (hb : 0 ≤ m ∧ m < n) :
   QOp ind P fn c fr H ⟨d, .indexAddr t x ix, ty, pos, after, g⟩ (.ptr h i jx) := by
 intro w a σ S hr
 have h1 := hr.evAt hx
 have h2 := hr.evInt hi
 subst hj
 generalize hz : a.eval x = z at h1
 cases h1 with
 | ptr _ _ _ _ b s C hσ =>
   refine ⟨_, .ptr _ h i (j + m.toNat) b s C hσ, fun w' _ => ?_⟩
   cases hq : P.info? e with
   | none => simp [hq] at hs
   | some inf =>
     have hsz : inf.size = 1 := by simpa [hq] using hs
     simp [execOp, hz, h2, Instr.indexAt, Instr.sureAddr, asIntOf, run_underlying ht, hb, sizeOf, typeInfo, hq, hsz, Addr.add_lit, Nat.add_assoc]
theorem zJ8 {x ix : Operand} {t e : TypeId} {n i j jx : Nat} {cl : Cells} {kk : IntKind} {m : Int} (ht : P.underlying t = some (.array n e)) (hs : (P.info? e).map (·.size) = some 1) (hx : ev fr x = some (.rp cl i j)) (hi : ev fr ix = some (.int kk m)) (hj : j + m.toNat = jx) (hb : 0 ≤ m ∧ m < n) :
   QOp ind P fn c fr H ⟨d, .indexAddr t x ix, ty, pos, after, g⟩ (.rp cl i jx) := by
 intro w a σ S hr
 have h1 := hr.evAt hx
 have h2 := hr.evInt hi
 subst hj
 generalize hz : a.eval x = z at h1
 cases h1 with
 | rp _ _ _ _ b o val hS hc hvv h1' =>
   refine ⟨.pointer (some ⟨b, o + m.toNat, none⟩), .rp _ _ _ _ _ _ (fun e => val (m.toNat + e)) hS (fun e he => ?_) (fun e he => ?_) (fun e he => h1' _ (by omega)), fun w' _ => ?_⟩
   · have := hc (m.toNat + e) (by omega)
     rwa [← Nat.add_assoc] at this
   · have := hvv (m.toNat + e) (by omega)
     rwa [← Nat.add_assoc] at this
   · cases hq : P.info? e with
     | none => simp [hq] at hs
     | some inf =>
       have hsz : inf.size = 1 := by simpa [hq] using hs
       simp [execOp, hz, h2, Instr.indexAt, Instr.sureAddr, asIntOf, run_underlying ht, hb, sizeOf, typeInfo, hq, hsz, Addr.add_lit]
/-- Reading a whole struct or array. -/
theorem zH9 {x : Operand} {t : TypeId} {u : TypeDesc} {h i : Nat} {ob : AObj} {inf : TypeInfo} {L : List AV} (ht : P.underlying t = some u) (hu : zBg u = true) (hinf : P.info? t = some inf) (hsz : inf.size = ob.c.sz) (hx : ev fr x = some (.ptr h i 0)) (hh : H[h]? = some (some ob))
   (hL : (List.range ob.c.sz).map (ob.c.at i) = L) (hi : i < ob.c.len) : QOp false P fn c fr H ⟨d, .load t x, ty, pos, after, g⟩ (.agg L) := by
 intro w a σ S hr
 have h1 := hr.evAt hx
 subst hL
 generalize hz : a.eval x = z at h1
 cases h1 with
 | ptr _ _ _ _ b s C hσ =>
   obtain ⟨hs', cur, g1, g2, g3, g4, g5, g6⟩ := hr.obj hh hσ
   subst hs'
   have hcell : ∀ w' : World, w'.heap = w.heap → ∀ j, j < ob.c.sz → ∃ y, w'.cell? ⟨b, i * ob.c.sz + j, none⟩ = some y ∧ VR w S σ (ob.c.at i j) y ∧ y.oneCell' = true := by
     intro w' hw j hj
     obtain ⟨y, e1, e2, e3⟩ := g6 i j hi hj
     obtain ⟨mk, g1, _, _⟩ := g1.cells (by omega)
     exact ⟨y, by simp [World.cell?, hw, g1, e1], e2, e3⟩
   let cs : List Value := (List.range ob.c.sz).map (fun j => (w.cell? ⟨b, i * ob.c.sz + j, none⟩).getD undef)
   refine ⟨.agg cs.toArray, .agg _ _ _ (by simp [cs]) (fun j hj => ?_) (fun j hj => ?_), fun w' hw => ?_⟩
   · have hj' : j < ob.c.sz := by simpa using hj
     obtain ⟨y, e1, e2, _⟩ := hcell w rfl j hj'
     simpa [cs, Array.getD, hj', e1, List.getD] using e2
   · have hj' : j < ob.c.sz := by simpa using hj
     obtain ⟨y, e1, _, e3⟩ := hcell w rfl j hj'
     simpa [cs, Array.getD, hj', e1] using e3
   · have hw := hw.resolve_left (by decide)
     have hl := run_loadCells_list (P := P) w' ⟨b, i * ob.c.sz, none⟩ cs (fun j v hv => by
       have hj : j < ob.c.sz := by simpa [cs] using (List.getElem?_eq_some_iff.1 hv).1
       obtain ⟨y, e1, _, _⟩ := hcell w rfl j hj
       simp only [cs, List.getElem?_map, List.getElem?_range hj, Option.map_some, Option.some.injEq] at hv
       subst hv
       rw [e1, Addr.add_lit]
       have := World.cell?_of_block (w := w) (w' := w') (a := ⟨b, i * ob.c.sz + j, none⟩) (by rw [hw])
       rw [this, e1]; rfl)
     have hcl : cs.length = inf.size := by simp [cs, hsz]
     rw [hcl] at hl
     have hz' : a.eval x = .pointer (some ⟨b, i * ob.c.sz, none⟩) := by rw [hz]; simp
     simp [execOp, hz', Instr.loadAt, Instr.sureAddr, loadVar, zCl ht, hu, sizeOf, typeInfo, hinf, hl]
theorem zAS {x : Operand} {t : TypeId} {u : TypeDesc} {i : Nat} {cl : Cells} {inf : TypeInfo} {L : List AV} (ht : P.underlying t = some u) (hu : zBg u = true) (hinf : P.info? t = some inf) (hsz : inf.size = cl.sz) (hx : ev fr x = some (.rp cl i 0))
   (hL : (List.range cl.sz).map (cl.at i) = L) : QOp false P fn c fr H ⟨d, .load t x, ty, pos, after, g⟩ (.agg L) := by
 intro w a σ S hr
 have h1 := hr.evAt hx
 subst hL
 generalize hz : a.eval x = z at h1
 cases h1 with
 | rp _ _ _ _ b o val hS hc hvv h1' =>
   let cs : List Value := (List.range cl.sz).map val
   refine ⟨.agg cs.toArray, .agg _ _ _ (by simp [cs]) (fun j hj => ?_) (fun j hj => ?_), fun w' hw => ?_⟩
   · have hj' : j < cl.sz := by simpa using hj
     have := (hvv j (by omega)).mono (w' := w) (fun _ h => h) (fun _ _ => rfl) σ (fun _ _ h => by cases h)
     simpa [cs, Array.getD, hj', List.getD] using this
   · have hj' : j < cl.sz := by simpa using hj
     have := h1' j (by omega)
     simpa [cs, Array.getD, hj'] using this
   · have hw := hw.resolve_left (by decide)
     have hl := run_loadCells_list (P := P) w' ⟨b, o, none⟩ cs (fun j v hv => by
       have hj : j < cl.sz := by simpa [cs] using (List.getElem?_eq_some_iff.1 hv).1
       simp only [cs, List.getElem?_map, List.getElem?_range hj, Option.map_some, Option.some.injEq] at hv
       subst hv
       rw [Addr.add_lit]
       have := World.cell?_of_block (w := w) (w' := w') (a := ⟨b, o + j, none⟩) (by rw [hw])
       rw [this]; exact hc j (by omega))
     have hcl : cs.length = inf.size := by simp [cs, hsz]
     rw [hcl] at hl
     simp [execOp, hz, Instr.loadAt, Instr.sureAddr, loadVar, zCl ht, hu, sizeOf, typeInfo, hinf, hl]
/-- The address of a field. -/
theorem zL {x : Operand} {s : TypeId} {fs : Array Field} {f h i j jx : Nat} {fd : Field} {inf : TypeInfo} (ht : P.underlying s = some (.struct fs)) (hf : fs[f]? = some fd) (hi : P.info? fd.type = some inf) (hne : Nat.beq inf.size 0 = false) (hx : ev fr x = some (.ptr h i j)) (hj : j + fd.offset = jx) :
   QOp ind P fn c fr H ⟨d, .fieldAddr s x f, ty, pos, after, g⟩ (.ptr h i jx) := by
 intro w a σ S hr
 have h1 := hr.evAt hx
 subst hj
 have hne' : ¬ inf.size = 0 := fun e => by rw [e] at hne; cases hne
 generalize hz : a.eval x = z at h1
 cases h1 with
 | ptr _ _ _ _ b sz C hσ =>
   refine ⟨_, .ptr _ h i (j + fd.offset) b sz C hσ, fun w' _ => ?_⟩
   simp [execOp, hz, Instr.fieldAt, run_underlying ht, hf, Instr.sureAddr, fieldPlace, sizeOf, typeInfo, hi, hne', Addr.add_lit, Nat.add_assoc]
theorem zDh {x : Operand} {s : TypeId} {fs : Array Field} {f i j jx : Nat} {cl : Cells} {fd : Field} {inf : TypeInfo} (ht : P.underlying s = some (.struct fs)) (hf : fs[f]? = some fd) (hi : P.info? fd.type = some inf) (hne : Nat.beq inf.size 0 = false) (hx : ev fr x = some (.rp cl i j)) (hj : j + fd.offset = jx) :
   QOp ind P fn c fr H ⟨d, .fieldAddr s x f, ty, pos, after, g⟩ (.rp cl i jx) := by
 intro w a σ S hr
 have h1 := hr.evAt hx
 subst hj
 have hne' : ¬ inf.size = 0 := fun e => by rw [e] at hne; cases hne
 generalize hz : a.eval x = z at h1
 cases h1 with
 | rp _ _ _ _ b o val hS hc hvv h1' =>
   refine ⟨.pointer (some ⟨b, o + fd.offset, none⟩), .rp _ _ _ _ _ _ (fun e => val (fd.offset + e)) hS (fun e he => ?_) (fun e he => ?_) (fun e he => h1' _ (by omega)), fun w' _ => ?_⟩
   · have := hc (fd.offset + e) (by omega)
     rwa [← Nat.add_assoc] at this
   · have := hvv (fd.offset + e) (by omega)
     rwa [← Nat.add_assoc] at this
   · simp [execOp, hz, Instr.fieldAt, run_underlying ht, hf, Instr.sureAddr, fieldPlace, sizeOf, typeInfo, hi, hne', Addr.add_lit]
/-- A pointer that is not nil. -/
theorem zAT {x : Operand} {h i j : Nat} (hx : ev fr x = some (.ptr h i j)) : QOp ind P fn c fr H ⟨d, .nilCheck x, ty, pos, after, g⟩ (.ptr h i j) := by
 intro w a σ S hr
 have h1 := hr.evAt hx
 generalize hz : a.eval x = z at h1
 cases h1 with
 | ptr _ _ _ _ b s C hσ => exact ⟨_, .ptr _ h i j b s C hσ, fun w' _ => by simp [execOp, hz]⟩
theorem zIC {x : Operand} {cl : Cells} {i j : Nat} (hx : ev fr x = some (.rp cl i j)) : QOp ind P fn c fr H ⟨d, .nilCheck x, ty, pos, after, g⟩ (.rp cl i j) := by
 intro w a σ S hr
 have h1 := hr.evAt hx
 generalize hz : a.eval x = z at h1
 cases h1 with
 | rp _ _ _ _ b o val hS hc hvv h1' => exact ⟨_, .rp _ _ _ _ _ _ val hS hc hvv h1', fun w' _ => by simp [execOp, hz]⟩
/-- A store of a whole struct or array. -/
theorem zl {all : Array Oper} {t : TypeId} {x y : Operand} {ty : TypeId} {pos : String} {after : Array Edge} {rest : List Oper} {h i : Nat} {ob : AObj} {L : List AV} {c' : Cells}
   (hx : ev fr x = some (.ptr h i 0)) (hy : ev fr y = some (.agg L)) (hs : (P.info? t).map (·.size) = some ob.c.sz) (hh : H[h]? = some (some ob)) (hl : L.length = ob.c.sz) (hi : i < ob.c.len)
   (h1 : c'.len = ob.c.len) (h2 : c'.sz = ob.c.sz) (h3 : ∀ i' j', i' < ob.c.len → j' < ob.c.sz → c'.at i' j' = if i' = i then L.getD j' .any else ob.c.at i' j')
   (hk : Ax P fn c (.ops false all rest k) fr (H.set h (some ⟨ob.ty, c'⟩))) (hz0 : ob.c.sz ≠ 0 := by (intro hh; cases hh)) : Ax P fn c (.ops false all (⟨none, .store t x y, ty, pos, after, none⟩ :: rest) k) fr H := by
 refine ax_w0 (fun w a σ S hr => ?_) hk
 have e1 := hr.evAt hx
 have e2 := hr.evAt hy
 generalize hz : a.eval x = z at e1
 generalize hzy : a.eval y = u at e2
 cases e2 with
 | agg _ _ vs hvl hvv hv1 =>
   cases e1 with
   | ptr _ _ _ _ b s C hσ =>
     obtain ⟨hs', cur, g1, g2, g3, g4, g5, g6⟩ := hr.obj hh hσ
     subst hs'
     obtain ⟨mk, g1, hmk, hrow⟩ := g1.cells hz0
     have hfit : i * ob.c.sz + ob.c.sz ≤ cur.size := by
       rw [g2]
       have : (i + 1) * ob.c.sz ≤ C * ob.c.sz := Nat.mul_le_mul_right _ (by omega)
       rw [Nat.add_mul] at this; omega
     have hvsz : vs.size = ob.c.sz := by rw [hvl, hl]
     have hst := zCY P b (i * ob.c.sz) ob.ty mk vs.toList 0 cur w g1 hmk (by simp [hvsz]; exact hfit) (fun v hv => by
       obtain ⟨j, hj, rfl⟩ := List.getElem_of_mem hv
       have hj' : j < vs.size := by simpa using hj
       have := hv1 j (by rw [← hvl]; exact hj')
       simpa [Array.getD, hj'] using this)
     simp only [Nat.add_zero] at hst
     generalize hcur : (cur.toList.take (i * ob.c.sz) ++ vs.toList ++ cur.toList.drop (i * ob.c.sz + vs.toList.length)).toArray = cur' at hst
     have hlen' : cur'.size = cur.size := by rw [← hcur]; simp [hvsz]; omega
     have hat : ∀ p, p < cur.size → cur'[p]? = if i * ob.c.sz ≤ p ∧ p < i * ob.c.sz + ob.c.sz then vs[p - i * ob.c.sz]? else cur[p]? := by
       intro p hp
       rw [← hcur]
       simp only [List.getElem?_toArray, List.append_assoc]
       by_cases c1 : p < i * ob.c.sz
       · rw [List.getElem?_append_left (by simp; omega), List.getElem?_take, if_pos c1, if_neg (by omega)]; simp
       · rw [List.getElem?_append_right (by simp; omega)]
         have ht : (cur.toList.take (i * ob.c.sz)).length = i * ob.c.sz := by simp; omega
         rw [ht]
         by_cases c2 : p < i * ob.c.sz + ob.c.sz
         · rw [List.getElem?_append_left (by simp [hvsz]; omega), if_pos ⟨by omega, c2⟩]; simp
         · rw [List.getElem?_append_right (by simp [hvsz]; omega), if_neg (by omega)]
           simp only [Array.length_toList, hvsz, List.getElem?_drop, Array.getElem?_toList]
           congr 1; omega
     refine ⟨w.setRow b cur', σ, S, ?_, hr.setRow hh hσ hrow h2 (by omega) (by rw [hlen', g2]) (fun i' j' hi' hj' => ?_)⟩
     · simp only [Nat.add_zero] at hz
       simp only [execOp, hz, hzy, Instr.storeAt, Instr.sureAddr, storeVar, Sem.run_bind, Sem.run_pure, Result.andThen_ok, zFb hs, Value.cells, hvsz]
       simp [hst]
     · rw [h1] at hi'
       rw [h2] at hj' ⊢
       rw [h3 i' j' hi' hj']
       have hp : i' * ob.c.sz + j' < cur.size := by
         rw [g2]
         have : (i' + 1) * ob.c.sz ≤ C * ob.c.sz := Nat.mul_le_mul_right _ (by omega)
         rw [Nat.add_mul] at this; omega
       rw [hat _ hp]
       by_cases he : i' = i
       · subst he
         rw [if_pos rfl, if_pos ⟨by omega, by omega⟩]
         have hjv : j' < vs.size := by omega
         refine ⟨vs.getD j' undef, by simp [Array.getD, hjv], hvv j' (by omega), hv1 j' (by omega)⟩
       · rw [if_neg he]
         have hne : ¬ (i * ob.c.sz ≤ i' * ob.c.sz + j' ∧ i' * ob.c.sz + j' < i * ob.c.sz + ob.c.sz) := by
           rintro ⟨q1, q2⟩
           rcases Nat.lt_or_gt_of_ne he with hlt | hlt
           · have : (i' + 1) * ob.c.sz ≤ i * ob.c.sz := Nat.mul_le_mul_right _ hlt
             rw [Nat.add_mul] at this; omega
           · have : (i + 1) * ob.c.sz ≤ i' * ob.c.sz := Nat.mul_le_mul_right _ hlt
             rw [Nat.add_mul] at this; omega
         rw [if_neg hne]
         exact g6 i' j' hi' hj'
end
end Go.Ax
namespace Go.Ax
variable [Pins]
open Go.RowKit
section
variable {P : Program} {fn : Func} {c : Ctx} {fr : Fr} {H : zg} {k : List It}
theorem zF7 {w : World} {a : Act} {σ : Nat → Option Blk} {S : Nat → Prop} {n : Nat} (hr : Rep c w a σ S n fr H) {all : Array Oper} {d : Option Nat} {op : Op} {ty : TypeId} {pos : String} {after : Array Edge} {j t : Nat} {p : Bool}
   (hy : zEk all j = some t) (hb : zAt t fr = some (.tup [])) : Region.wanted ⟨d, op, ty, pos, after, some (j, p)⟩ (yielded all a.tmps) = false := by
 obtain ⟨h1, h2⟩ := hr.slots t _ hb
 have h3 : t < a.tmps.size := by rw [hr.size]; exact h1
 generalize hz : a.tmps.getD t undef = z at h2
 cases h2
 rename_i vs hl hv
 have h4 : a.tmps[t]? = some (.tuple vs) := by
   simp only [Array.getD, h3, dite_true] at hz
   simp only [Array.getElem?_eq_getElem h3]
   exact congrArg some hz
 unfold zEk at hy
 simp only [Region.wanted, yielded, hy, Option.bind_some, h4]
 cases p <;> rfl
theorem zGD {w : World} {S : Nat → Prop} {σ : Nat → Option Blk} : VR w S σ (.tup []) undef := have _pin := (inferInstance : Pins); .tup _ _ _ rfl (fun i hi => absurd hi (Nat.not_lt_zero _))
/-- An operation that is passed over leaves nothing in its slot. -/
theorem zp {q : Bool} {all : Array Oper} {d : Nat} {op : Op} {ty : TypeId} {pos : String} {after : Array Edge} {rest : List Oper} {j t : Nat} {p b : Bool}
   (hy : zEk all j = some t) (hb : zAt t fr = some (.bool b)) (hne : (b == p) = false) (h : Ax P fn c (.ops q all rest k) ((d, .tup []) :: fr) H) : Ax P fn c (.ops q all (⟨some d, op, ty, pos, after, some (j, p)⟩ :: rest) k) fr H := by
 cases q with
 | false =>
   intro hd w a σ S hr
   obtain ⟨hd1, hd2⟩ := zBl hd
   simp only [wpList, zFS hr hy hb, hne, Bool.false_eq_true, if_false]
   exact h hd2 w _ σ S (hr.put zGD (hd1 d rfl))
 | true =>
   intro hd w a σ S hr
   obtain ⟨hd1, hd2⟩ := zBl hd
   simp only [wpQuiet, zFS hr hy hb, hne, Bool.false_eq_true, if_false]
   exact h hd2 w _ σ S (hr.put zGD (hd1 d rfl))
theorem zB7 {q : Bool} {all : Array Oper} {d : Nat} {op : Op} {ty : TypeId} {pos : String} {after : Array Edge} {rest : List Oper} {j t : Nat} {p : Bool}
   (hy : zEk all j = some t) (hb : zAt t fr = some (.tup [])) (h : Ax P fn c (.ops q all rest k) ((d, .tup []) :: fr) H) : Ax P fn c (.ops q all (⟨some d, op, ty, pos, after, some (j, p)⟩ :: rest) k) fr H := by
 cases q with
 | false =>
   intro hd w a σ S hr
   obtain ⟨hd1, hd2⟩ := zBl hd
   simp only [wpList, zF7 hr hy hb, Bool.false_eq_true, if_false]
   exact h hd2 w _ σ S (hr.put zGD (hd1 d rfl))
 | true =>
   intro hd w a σ S hr
   obtain ⟨hd1, hd2⟩ := zBl hd
   simp only [wpQuiet, zF7 hr hy hb, Bool.false_eq_true, if_false]
   exact h hd2 w _ σ S (hr.put zGD (hd1 d rfl))
end
end Go.Ax
namespace Go.Ax
variable [Pins]
open Go.RowKit
section
variable {P : Program} {fn : Func} {c : Ctx} {fr : Fr} {H : zg} {k : List It}
end
end Go.Ax
namespace Go.Ax
variable [Pins]
mutual
def zD1 (n : Nat) : AV → Bool
 | .sl h _ _ => Nat.blt h n
 | .ptr h _ _ => Nat.blt h n
 | .fn _ l => zB0 n l
 | .agg l => zB0 n l
 | .tup l => zB0 n l
 | .mp h => Nat.blt h n
 | _ => true
def zB0 (n : Nat) : List AV → Bool
 | [] => true
 | v :: r => zD1 n v && zB0 n r
end
theorem zCi {n : Nat} {l : List AV} (h : zB0 n l = true) (i : Nat) (hi : i < l.length) : zD1 n (l.getD i .any) = true := by
 have _pin := (inferInstance : Pins)
 induction l generalizing i with
 | nil => simp at hi
 | cons v r ih =>
   simp only [zB0, Bool.and_eq_true] at h
   cases i with
   | zero => exact h.1
   | succ i => simpa using ih h.2 i (by simpa using hi)
theorem VR.cutv {w : World} {S : Nat → Prop} {σ : Nat → Option Blk} {n : Nat} {x : AV} {v : Value} (h : VR w S σ x v) : zD1 n x = true → ∀ σ' : Nat → Option Blk, (∀ h, h < n → σ' h = σ h) → VR w S σ' x v := by
 induction h with
 | int => intros; constructor
 | bool => intros; constructor
 | str => intros; constructor
 | nil => intros; constructor
 | ro0 => intros; constructor
 | ro σ c i len b o cap val hSb hlen hc hv h1 ih => intro _ σ' _; exact .ro _ _ _ _ _ _ _ val hSb hlen hc hv h1
 | sl σ h i len b s C cap hσ hlen hcap => intro hb σ' hs; exact .sl _ _ _ _ _ _ _ _ (by rw [hs h (Nat.le_of_ble_eq_true hb)]; exact hσ) hlen hcap
 | sl0 σ h hσ => intro hb σ' hs; exact .sl0 _ _ (by rw [hs h (Nat.le_of_ble_eq_true hb)]; exact hσ)
 | rp σ c i j b o val hSb hc hv h1 ih => intro _ σ' _; exact .rp _ _ _ _ _ _ val hSb hc hv h1
 | ptr σ h i j b s C hσ => intro hb σ' hs; exact .ptr _ _ _ _ _ _ _ (by rw [hs h (Nat.le_of_ble_eq_true hb)]; exact hσ)
 | nilp => intros; constructor
 | fn σ f cap vs hl hv ih => intro hn σ' hs; exact .fn _ _ _ _ hl (fun i hi => ih i hi (zCi hn i hi) _ hs)
 | nilfn => intros; constructor
 | iface => intros; constructor
 | nilif => intros; constructor
 | agg σ l vs hl hv h1 ih => intro hn σ' hs; exact .agg _ _ _ hl (fun i hi => ih i hi (zCi hn i hi) _ hs) h1
 | tup σ l vs hl hv ih => intro hn σ' hs; exact .tup _ _ _ hl (fun i hi => ih i hi (zCi hn i hi) _ hs)
 | mp σ h b hσ => intro hb σ' hs; exact .mp _ _ _ (by rw [hs h (Nat.le_of_ble_eq_true hb)]; exact hσ)
 | rom σ ks vs b es clock e hSb hb hn hl hd he hk hv => intro _ σ' _; exact .rom _ _ _ b es clock e hSb hb hn hl hd he hk hv
 | any => intros; constructor
theorem Lays.cutv {w : World} {S : Nat → Prop} {σ σ' : Nat → Option Blk} {o : AObj} {b : Nat} {cur : Array Value} {C n : Nat} (h : Lays w S σ o b cur C) (hc : ∀ ks vs, o.c = .mp ks vs → zB0 n ks = true ∧ zB0 n vs = true) (hs : ∀ h, h < n → σ' h = σ h) : Lays w S σ' o b cur C := by
 have _pin := (inferInstance : Pins)
 cases h with
 | row mk h hm hC => exact .row mk h hm hC
 | map ks vs es clock hc' hC h hn hl hd he =>
   obtain ⟨b1, b2⟩ := hc ks vs hc'
   exact .map ks vs es clock hc' hC h hn hl hd (fun i hi => let ⟨e, e1, e2, e3⟩ := he i hi; ⟨e, e1, e2.cutv (zCi b1 i hi) _ hs, e3.cutv (zCi b2 i (by omega)) _ hs⟩)
def zJA (n : Nat) : Cells → Bool
 | .ints _ _ => true
 | .strs _ => true
 | .box l => zB0 n l
 | .fn _ _ _ => false
 | .mp ks vs => zB0 n ks && zB0 n vs
theorem zMj {n : Nat} {c : Cells} (h : zJA n c = true) (i j : Nat) (hj : j < c.sz) : zD1 n (c.at i j) = true := by
 cases c with
 | ints => rfl
 | strs => rfl
 | box l => exact zCi h j hj
 | fn => cases h
 | mp => exact absurd hj (Nat.not_lt_zero _)
def belowO (n : Nat) : Option AObj → Bool
 | none => true
 | some o => zJA n o.c
def zI6 (n : Nat) : zg → Bool
 | [] => true
 | x :: r => belowO n x && zI6 n r
theorem zHp {n : Nat} {H : zg} (hb : zI6 n H = true) {h : Nat} {o : AObj} (ho : H[h]? = some (some o)) : zJA n o.c = true := by
 have _pin := (inferInstance : Pins)
 induction H generalizing h with
 | nil => simp at ho
 | cons x r ih =>
   simp only [zI6, Bool.and_eq_true] at hb
   cases h with
   | zero => simp at ho; subst ho; exact hb.1
   | succ h => exact ih hb.2 (by simpa using ho)
def zGc (n : Nat) : Fr → Bool
 | [] => true
 | (_, v) :: r => zD1 n v && zGc n r
theorem zHd {n : Nat} {fr : Fr} (hb : zGc n fr = true) {t : Nat} {v : AV} (hl : zAt t fr = some v) : zD1 n v = true := by
 have _pin := (inferInstance : Pins)
 induction fr with
 | nil => simp [zAt] at hl
 | cons p r ih =>
   obtain ⟨u, x⟩ := p
   simp only [zGc, Bool.and_eq_true] at hb
   simp only [zAt] at hl
   cases hq : Nat.beq t u with
   | true => rw [hq] at hl; simp at hl; subst hl; exact hb.1
   | false => rw [hq] at hl; exact ih hb.2 (by simpa using hl)
def cutσ (n : Nat) (σ : Nat → Option Blk) (h : Nat) : Option Blk := if h < n then σ h else none
theorem Rep.cut {c : Ctx} {w : World} {a : Act} {σ : Nat → Option Blk} {S : Nat → Prop} {n : Nat} {fr : Fr} {H H0 H1 : zg} (hr : Rep c w a σ S n fr H) (hH : H = H0 ++ H1) (hf : ∀ h, c.fix h → h < H0.length)
   (hbH : zI6 H0.length H0 = true) (hbF : zGc H0.length fr = true) : Rep c w a (cutσ H0.length σ) S n fr H0 := by
 subst hH
 have hs : ∀ h, h < H0.length → cutσ H0.length σ h = σ h := fun h hl => if_pos hl
 have hget : ∀ {h : Nat} {o : AObj}, H0[h]? = some (some o) → h < H0.length ∧ (H0 ++ H1)[h]? = some (some o) := by
   intro h o ho
   have hl : h < H0.length := (List.getElem?_eq_some_iff.1 ho).1
   exact ⟨hl, by rw [List.getElem?_append_left hl]; exact ho⟩
 refine ⟨⟨fun h o ho => ?_, fun h h' o o' b s C s' C' q1 q2 e1 e2 => ?_, hr.hr.small, fun h hl => if_neg (by omega)⟩, ⟨hr.kp.os, hr.kp.output, hr.kp.tape, hr.kp.size, hr.kp.block, hr.kp.S1, hr.kp.S2, fun h hh => by rw [hs h (hf h hh)]; exact hr.kp.fixed h hh, hf, fun h o b s C q e => ?_⟩, hr.defers, hr.size, fun t v hl => ⟨(hr.slots t v hl).1, (hr.slots t v hl).2.cutv (zHd hbF hl) _ hs⟩⟩
 · obtain ⟨hl, ho'⟩ := hget ho
   rw [hs h hl]
   rcases hr.hr.live h o ho' with g | ⟨b, C, cur, g1, g2, g3, g4, g5, g6, g7⟩
   · exact .inl g
   · refine .inr ⟨b, C, cur, g1, g2.cutv (fun ks vs hc => by have := zHp hbH ho; rw [hc] at this; simpa [zJA] using this) hs, g3, g4, g5, g6, fun i j hi hj => ?_⟩
     obtain ⟨v, k1, k2, k3⟩ := g7 i j hi hj
     exact ⟨v, k1, k2.cutv (zMj (zHp hbH ho) i j hj) _ hs, k3⟩
 · obtain ⟨hl, ho⟩ := hget q1
   obtain ⟨hl', ho'⟩ := hget q2
   rw [hs h hl] at e1
   rw [hs h' hl'] at e2
   exact hr.hr.dist h h' o o' b s C s' C' ho ho' e1 e2
 · obtain ⟨hl, ho⟩ := hget q
   rw [hs h hl] at e
   exact hr.kp.own h o b s C ho e
section
variable {P : Program} {fn : Func} {c : Ctx} {fr : Fr} {H : zg} {k : List It}
/-- The same memory, its cells told otherwise. -/
theorem Rep.heapA {w : World} {a : Act} {σ : Nat → Option Blk} {S : Nat → Prop} {n : Nat} {H' : zg} (hr : Rep c w a σ S n fr H) (hlen : H'.length = H.length)
   (hs : ∀ (h : Nat) (o' : AObj), H'[h]? = some (some o') → ∃ o : AObj, H[h]? = some (some o) ∧ o'.ty = o.ty ∧ o'.c.len = o.c.len ∧ o'.c.kd = o.c.kd ∧ ∀ i j, i < o.c.len → j < o.c.sz → AEq (o.c.at i j) (o'.c.at i j)) : Rep c w a σ S n fr H' := by
 refine ⟨⟨fun h o' ho => ?_, fun h h' o o' b s C s' C' q1 q2 e1 e2 => ?_, hr.hr.small, fun h hl => hr.hr.dom h (by rw [← hlen]; exact hl)⟩, ⟨hr.kp.os, hr.kp.output, hr.kp.tape, hr.kp.size, hr.kp.block, hr.kp.S1, hr.kp.S2, hr.kp.fixed, fun h hf => by rw [hlen]; exact hr.kp.fixlt h hf, fun h o b s C q e => ?_⟩, hr.defers, hr.size, hr.slots⟩
 · obtain ⟨o, h1, h2, h3, h4, h5⟩ := hs h o' ho
   rw [h3, kd_sz h4]
   rcases hr.hr.live h o h1 with g | ⟨b, C, cur, g1, g2, g3, g4, g5, g6, g7⟩
   · exact .inl g
   · refine .inr ⟨b, C, cur, g1, g2.kd h2 h4, g3, g4, g5, g6, fun i j hi hj => ?_⟩
     obtain ⟨v, k1, k2, k3⟩ := g7 i j hi hj
     exact ⟨v, k1, h5 i j hi hj _ _ _ _ k2, k3⟩
 · obtain ⟨p, h1, _⟩ := hs h o q1
   obtain ⟨p', h1', _⟩ := hs h' o' q2
   exact hr.hr.dist h h' p p' b s C s' C' h1 h1' e1 e2
 · obtain ⟨p, h1, _⟩ := hs h o q
   exact hr.kp.own h p b s C h1 e
theorem zI5 {all : Array Oper} {rest : List Oper} (H' : zg) (hlen : H'.length = H.length) (hs : ∀ (h : Nat) (o' : AObj), H'[h]? = some (some o') → ∃ o : AObj, H[h]? = some (some o) ∧ o'.ty = o.ty ∧ o'.c.len = o.c.len ∧ o'.c.kd = o.c.kd ∧ ∀ i j, i < o.c.len → j < o.c.sz → AEq (o.c.at i j) (o'.c.at i j))
   (hk : Ax P fn c (.ops false all rest k) fr H') : Ax P fn c (.ops false all rest k) fr H := fun hd w a σ S hr => hk hd w a σ S (hr.heapA hlen hs)
end
/-- Any contract, at arguments told otherwise. -/
theorem zV.args {P : Program} {f : FuncId} {ags ags' : List AV} {H : zg} {fix : Nat → Prop} {K : AV → zg → Prop} (hc : zV P f ags' H fix K) (h : AEqs ags ags') : zV P f ags H fix K := by
 unfold zV at hc ⊢
 refine ⟨hc.1, fun w σ S vals hp hr hf hv => hc.2 w σ S vals hp hr hf ⟨hv.1.trans h.length, fun j hj => ?_⟩⟩
 rw [← h.length] at hj
 exact h.get j hj _ _ _ _ (hv.2 j hj)
end Go.Ax
namespace Go.Ax
variable [Pins]
def zBB (n : Nat) : Cells → Prop
 | .mp ks vs => zB0 n ks = true ∧ zB0 n vs = true
 | c => ∀ i j, i < c.len → j < c.sz → zD1 n (c.at i j) = true
theorem zBB.row {n : Nat} {c : Cells} (h : zBB n c) : ∀ i j, i < c.len → j < c.sz → zD1 n (c.at i j) = true := by
 have _pin := (inferInstance : Pins)
 cases c <;> first | exact h | exact fun i j hi => absurd hi (Nat.not_lt_zero _)
theorem zBB.mp {n : Nat} {c : Cells} (h : zBB n c) {ks vs : List AV} (hc : c = .mp ks vs) : zB0 n ks = true ∧ zB0 n vs = true := by have _pin := (inferInstance : Pins); subst hc; exact h
theorem Rep.cutP {c : Ctx} {w : World} {a : Act} {σ : Nat → Option Blk} {S : Nat → Prop} {n : Nat} {fr : Fr} {H H0 H1 : zg} (hr : Rep c w a σ S n fr H) (hH : H = H0 ++ H1) (hf : ∀ h, c.fix h → h < H0.length)
   (hbH : ∀ (h : Nat) (o : AObj), H0[h]? = some (some o) → zBB H0.length o.c) (hbF : zGc H0.length fr = true) : Rep c w a (cutσ H0.length σ) S n fr H0 := by
 subst hH
 have hs : ∀ h, h < H0.length → cutσ H0.length σ h = σ h := fun h hl => if_pos hl
 have hget : ∀ {h : Nat} {o : AObj}, H0[h]? = some (some o) → h < H0.length ∧ (H0 ++ H1)[h]? = some (some o) := by
   intro h o ho
   have hl : h < H0.length := (List.getElem?_eq_some_iff.1 ho).1
   exact ⟨hl, by rw [List.getElem?_append_left hl]; exact ho⟩
 refine ⟨⟨fun h o ho => ?_, fun h h' o o' b s C s' C' q1 q2 e1 e2 => ?_, hr.hr.small, fun h hl => if_neg (by omega)⟩, ⟨hr.kp.os, hr.kp.output, hr.kp.tape, hr.kp.size, hr.kp.block, hr.kp.S1, hr.kp.S2, fun h hh => by rw [hs h (hf h hh)]; exact hr.kp.fixed h hh, hf, fun h o b s C q e => ?_⟩, hr.defers, hr.size, fun t v hl => ⟨(hr.slots t v hl).1, (hr.slots t v hl).2.cutv (zHd hbF hl) _ hs⟩⟩
 · obtain ⟨hl, ho'⟩ := hget ho
   rw [hs h hl]
   rcases hr.hr.live h o ho' with g | ⟨b, C, cur, g1, g2, g3, g4, g5, g6, g7⟩
   · exact .inl g
   · refine .inr ⟨b, C, cur, g1, g2.cutv (fun ks vs hc => (hbH h o ho).mp hc) hs, g3, g4, g5, g6, fun i j hi hj => ?_⟩
     obtain ⟨v, k1, k2, k3⟩ := g7 i j hi hj
     exact ⟨v, k1, k2.cutv ((hbH h o ho).row i j hi hj) _ hs, k3⟩
 · obtain ⟨hl, ho⟩ := hget q1
   obtain ⟨hl', ho'⟩ := hget q2
   rw [hs h hl] at e1
   rw [hs h' hl'] at e2
   exact hr.hr.dist h h' o o' b s C s' C' ho ho' e1 e2
 · obtain ⟨hl, ho⟩ := hget q
   rw [hs h hl] at e
   exact hr.kp.own h o b s C ho e
section
variable {P : Program} {fn : Func} {c : Ctx} {fr : Fr} {H : zg} {k : List It}
theorem zAy {x : Code} (H0 H1 : zg) (L : Fr) (hH : H = H0 ++ H1) (hL : zB8 fr L) (hf : ∀ h, c.fix h → h < H0.length) (hbH : ∀ (h : Nat) (o : AObj), H0[h]? = some (some o) → zBB H0.length o.c) (hbF : zGc H0.length L = true)
   (hk : Ax P fn c (.code x k) L H0) : Ax P fn c (.code x k) fr H :=
 fun w a σ S hr => hk w a _ S ((hr.weaken hL).cutP hH hf hbH hbF)
variable {ind : Bool} {d : Option Nat} {t t' ty : TypeId} {pos : String} {after : Array Edge} {g : Option (Nat × Bool)}
/-- Words of bits. -/
def andB (k : IntKind) (m n : Int) : Int := k.wrap ((BitVec.ofInt k.bits m &&& BitVec.ofInt k.bits n).toNat : Int)
def orB (k : IntKind) (m n : Int) : Int := k.wrap ((BitVec.ofInt k.bits m ||| BitVec.ofInt k.bits n).toNat : Int)
def xorB (k : IntKind) (m n : Int) : Int := k.wrap ((BitVec.ofInt k.bits m ^^^ BitVec.ofInt k.bits n).toNat : Int)
def shrB (k : IntKind) (m n : Int) : Int := m.fdiv (2 ^ (min n.toNat k.bits))
def shlB (k : IntKind) (m n : Int) : Int := k.wrap (m * 2 ^ (min n.toNat k.bits))
theorem q_and {x y : Operand} {k : IntKind} {m n : Int} (hx : ev fr x = some (.int k m)) (hy : ev fr y = some (.int k n)) :
   QOp ind P fn c fr H ⟨d, .binOp .and t x y t', ty, pos, after, g⟩ (.int k (andB k m n)) := by
 intro w a σ S hr
 have h1 := hr.evInt hx
 have h2 := hr.evInt hy
 refine ⟨_, .int _ _ _, fun w' _ => ?_⟩
 simp [execOp, h1, h2, zAN, binOp, Op.intBits, andB]
theorem q_or {x y : Operand} {k : IntKind} {m n : Int} (hx : ev fr x = some (.int k m)) (hy : ev fr y = some (.int k n)) :
   QOp ind P fn c fr H ⟨d, .binOp .or t x y t', ty, pos, after, g⟩ (.int k (orB k m n)) := by
 intro w a σ S hr
 have h1 := hr.evInt hx
 have h2 := hr.evInt hy
 refine ⟨_, .int _ _ _, fun w' _ => ?_⟩
 simp [execOp, h1, h2, zAN, binOp, Op.intBits, orB]
theorem q_shr {x y : Operand} {k k' : IntKind} {m n : Int} (hx : ev fr x = some (.int k m)) (hy : ev fr y = some (.int k' n)) (hn : 0 ≤ n) :
   QOp ind P fn c fr H ⟨d, .binOp .shr t x y t', ty, pos, after, g⟩ (.int k (shrB k m n)) := by
 intro w a σ S hr
 have h1 := hr.evInt hx
 have h2 := hr.evInt hy
 refine ⟨_, .int _ _ _, fun w' _ => ?_⟩
 have h3 : ¬ n < 0 := by omega
 simp [execOp, h1, h2, zAN, binOp, Op.shift, shrB, h3]
theorem q_shl {x y : Operand} {k k' : IntKind} {m n : Int} (hx : ev fr x = some (.int k m)) (hy : ev fr y = some (.int k' n)) (hn : 0 ≤ n) :
   QOp ind P fn c fr H ⟨d, .binOp .shl t x y t', ty, pos, after, g⟩ (.int k (shlB k m n)) := by
 intro w a σ S hr
 have h1 := hr.evInt hx
 have h2 := hr.evInt hy
 refine ⟨_, .int _ _ _, fun w' _ => ?_⟩
 have h3 : ¬ n < 0 := by omega
 simp [execOp, h1, h2, zAN, binOp, Op.shift, shlB, h3]
end
end Go.Ax
namespace Go.Ax
variable [Pins]
open Go.RowKit
def nilOf : AV → Option Bool
 | .nilp => some true
 | .ptr _ _ _ => some false
 | .rp _ _ _ => some false
 | _ => none
section
variable {P : Program} {fn : Func} {c : Ctx} {fr : Fr} {H : zg} {k : List It} {ind : Bool} {d : Option Nat} {ty : TypeId} {pos : String} {after : Array Edge} {g : Option (Nat × Bool)}
end
end Go.Ax
namespace Go.Ax
variable [Pins]
open Go.ChangeShapes Go.WideShapes Go.ChangeAt Go.RowKit
section
variable {H : Type} {enc : TypeId × Value → H} {P : Program} {W : World}
abbrev allS (W : World) : Nat → Prop := fun b => b < W.heap.size
/-- One after the other, cells are told by abstract values. -/
def zCf (W : World) (l : List AV) (cs : List Value) : Prop :=
 l.length = cs.length ∧ ∀ i, i < cs.length → VR W (allS W) (fun _ => none) (l.getD i .any) (cs.getD i undef) ∧ (cs.getD i undef).oneCell' = true
/-- A reader: type t, n cells, told by e of some a that is ok. -/
def Rd {α : Type} (enc : TypeId × Value → H) (P : Program) (W : World) (t : TypeId) (n : Nat) (e : α → List AV) (ok : α → Prop) : Prop :=
 ∀ fuel cs x, DataW.trod enc P W 0 (fun _ => true) true fuel t cs = some x → ∃ a, ok a ∧ cs.length = n ∧ zCf W (e a) cs
theorem zGi {W : World} {v : AV} {c : Value} (h : VR W (allS W) (fun _ => none) v c) (h1 : c.oneCell' = true) : zCf W [v] [c] := by
 have _pin := (inferInstance : Pins)
 refine ⟨rfl, fun i hi => ?_⟩
 have : i = 0 := by simpa using hi
 subst this
 exact ⟨h, h1⟩
theorem Rd.bool {t : TypeId} (ht : P.underlying t = some .bool) : Rd enc P W t 1 (fun b : Bool => [AV.bool b]) (fun _ => True) := by
 intro fuel cs x h
 obtain ⟨b, rfl, _⟩ := DataW.trod_bool ht h
 exact ⟨b, trivial, rfl, zGi (.bool _ _) rfl⟩
theorem Rd.int {t : TypeId} {k : IntKind} (ht : P.underlying t = some (.int k)) : Rd enc P W t 1 (fun n : Int => [AV.int k n]) (fun n => (Lit.int k n).wf = true) := by
 intro fuel cs x h
 obtain ⟨n, rfl, _, hw⟩ := DataW.trod_int ht h
 exact ⟨n, hw, rfl, zGi (.int _ _ _) rfl⟩
theorem Rd.str {t : TypeId} (ht : P.underlying t = some .string) : Rd enc P W t 1 (fun s : List UInt8 => [AV.str s]) (fun s => s.length ≤ 9223372036854775807) := by
 intro fuel cs x h
 obtain ⟨s, rfl, _, hs⟩ := DataW.trod_string ht h
 have e : Value.string s = zFd s.data.toList := by
   show Value.string s = Value.string ⟨s.data.toList.toArray⟩
   rw [Array.toArray_toList]
 refine ⟨s.data.toList, ?_, rfl, ?_⟩
 · unfold maxLen at hs; simpa using hs
 · rw [e]; exact zGi (.str _ _) rfl
/-- The row that a list's elements make, each of n cells. -/
def zCN {α : Type} (d : α) (n : Nat) (e : α → List AV) (l : List α) : Cells := .fn l.length n (fun i j => (e (l.getD i d)).getD j .any)
theorem Rd.slice {α : Type} {t t' : TypeId} {n : Nat} {e : α → List AV} {ok : α → Prop} (d : α) (ht : P.underlying t = some (.slice t')) (hc : P.cellsOf t' = n) (hn : Nat.blt 0 n = true) (h : Rd enc P W t' n e ok) :
   Rd enc P W t 1 (fun l : List α => [AV.ro (zCN d n e l) 0 l.length]) (fun l => l.length ≤ 9223372036854775807 ∧ ∀ a ∈ l, ok a) := by
 have hn := Nat.le_of_ble_eq_true hn
 intro fuel cs x hx
 rcases DataW.trod_slice ht hx with ⟨rfl, _⟩ | ⟨a, len, cap, elems, rest, m, _, rfl, _, _, hl, hm, hlen, hel, _, _⟩
 · exact ⟨[], ⟨Nat.zero_le _, fun a ha => by simp at ha⟩, rfl, zGi (.ro0 _ _ _ _ _) rfl⟩
 subst hc
 have each : ∀ i, i < len → ∃ z : α × List Value, ok z.1 ∧ W.cells? 0 (a.add (i * P.cellsOf t')) (P.cellsOf t') = some z.2 ∧ zCf W (e z.1) z.2 := by
   intro i hi
   have h1 := hel i hi
   have h2 : elems[i]? = some (elems[i]'(by omega)) := List.getElem?_eq_getElem _
   rw [h2, Option.bind_eq_some_iff] at h1
   obtain ⟨cs', hcs, hy⟩ := h1
   obtain ⟨z, hz, hzl, hzr⟩ := h _ _ _ hy
   exact ⟨(z, cs'), hz, hcs, hzr⟩
 cases len with
 | zero => exact ⟨[], ⟨Nat.zero_le _, fun a ha => by simp at ha⟩, rfl, zGi (.ro0 _ _ _ _ _) rfl⟩
 | succ len =>
   have ha : a = ⟨a.block, a.off, none⟩ ∧ a.block < W.heap.size := by
     obtain ⟨z, _, hcs, _⟩ := each 0 (Nat.succ_pos _)
     obtain ⟨_, hl2, hce⟩ := World.cells?_some hcs
     have h0 := hce 0 hn
     have hz0 : z.2[0]? = some (z.2[0]'(by omega)) := List.getElem?_eq_getElem _
     rw [hz0] at h0
     simp only [Nat.zero_mul] at h0
     have e0 : ∀ q : Addr, q.add 0 = q := by intro q; simp [Addr.add]
     rw [e0, e0] at h0
     have hsp : a = ⟨a.block, a.off, none⟩ := by
       have hb := h0
       unfold World.cell? at hb
       split at hb
       · cases hsp : a.spot with
         | none => cases a; simp_all
         | some s => simp [hsp] at hb
       · cases hb
     refine ⟨hsp, ?_⟩
     rcases Nat.lt_or_ge a.block W.heap.size with hh | hh
     · exact hh
     · rw [hsp] at h0
       unfold World.cell? at h0
       have : W.heap[a.block]? = none := by simp [hh]
       simp [this] at h0
   let f : Nat → α × List Value := fun i => if hi : i < len + 1 then Classical.choose (each i hi) else (d, [])
   have hf : ∀ i, i < len + 1 → ok (f i).1 ∧ W.cells? 0 (a.add (i * P.cellsOf t')) (P.cellsOf t') = some (f i).2 ∧ zCf W (e (f i).1) (f i).2 := by
     intro i hi
     have := Classical.choose_spec (each i hi)
     simp only [f, hi, dite_true]
     exact this
   let l : List α := (List.range (len + 1)).map (fun i => (f i).1)
   have hll : l.length = len + 1 := by simp [l]
   have hlg : ∀ i, i < len + 1 → l.getD i d = (f i).1 := by intro i hi; simp [l, List.getD, hi]
   refine ⟨l, ⟨by unfold maxLen at hm; omega, fun b hb => ?_⟩, rfl, ?_⟩
   · obtain ⟨i, hi, rfl⟩ := List.mem_map.1 hb
     exact (hf i (List.mem_range.1 hi)).1
   · refine zGi ?_ rfl
     rw [ha.1, hll]
     refine .ro _ _ _ _ _ _ _ (fun i j => (f i).2.getD j undef) ha.2 hl (fun i j hi hj => ?_) (fun i j hi hj => ?_) (fun i j hi hj => ?_)
     all_goals
       obtain ⟨g1, g2, g3, g4⟩ := hf i hi
       obtain ⟨_, q2, q3⟩ := World.cells?_some g2
       have hj' : j < (f i).2.length := by rw [q2]; exact hj
     · have h3 := q3 j hj
       rw [List.getElem?_eq_getElem hj'] at h3
       rw [ha.1, add_plain, add_plain] at h3
       show W.cell? ⟨a.block, a.off + i * P.cellsOf t' + j, none⟩ = some ((f i).2.getD j undef)
       rw [h3, List.getD, List.getElem?_eq_getElem hj']; rfl
     · show VR W (allS W) (fun _ => none) ((e (l.getD (0 + i) d)).getD j .any) _
       rw [Nat.zero_add, hlg i hi]
       exact (g4 j hj').1
     · exact (g4 j hj').2
/-- One part behind the other. -/
theorem zCf.append {l l' : List AV} {cs cs' : List Value} (h : zCf W l cs) (h' : zCf W l' cs') : zCf W (l ++ l') (cs ++ cs') := by
 have _pin := (inferInstance : Pins)
 refine ⟨by simp [h.1, h'.1], fun i hi => ?_⟩
 by_cases hlt : i < cs.length
 · have e1 : (l ++ l').getD i .any = l.getD i .any := by simp [List.getD, List.getElem?_append, h.1, hlt]
   have e2 : (cs ++ cs').getD i undef = cs.getD i undef := by simp [List.getD, List.getElem?_append, hlt]
   rw [e1, e2]; exact h.2 i hlt
 · have e1 : (l ++ l').getD i .any = l'.getD (i - cs.length) .any := by simp [List.getD, List.getElem?_append, h.1, hlt]
   have e2 : (cs ++ cs').getD i undef = cs'.getD (i - cs.length) undef := by simp [List.getD, List.getElem?_append, hlt]
   rw [e1, e2]; exact h'.2 _ (by simp at hi; omega)
/-- Readers of some cells in a row: the fields of a struct from one on. -/
def RdF {α : Type} (enc : TypeId × Value → H) (P : Program) (W : World) (fs : List Field) (o n : Nat) (e : α → List AV) (ok : α → Prop) : Prop :=
 ∀ fuel (cs : List Value) (m : Nat), cs.length = m → o + n = m → (∀ f ∈ fs, ∃ x, DataW.trod enc P W 0 (fun _ => true) true fuel f.type ((cs.drop f.offset).take (P.cellsOf f.type)) = some x) → ∃ a, ok a ∧ zCf W (e a) (cs.drop o)
theorem RdF.nil {o : Nat} : RdF enc P W [] o 0 (fun _ : Unit => []) (fun _ => True) := by
 have _pin := (inferInstance : Pins)
 intro fuel cs m h1 h2 _
 refine ⟨(), trivial, ?_⟩
 rw [List.drop_of_length_le (by omega)]
 exact ⟨rfl, fun i hi => by simp at hi⟩
theorem RdF.cons {α β : Type} {f : Field} {fs : List Field} {o n m : Nat} {e : α → List AV} {ok : α → Prop} {e' : β → List AV} {ok' : β → Prop} (ho : f.offset = o) (hc : P.cellsOf f.type = n) (h : Rd enc P W f.type n e ok) (h' : RdF enc P W fs (o + n) m e' ok') :
   RdF enc P W (f :: fs) o (n + m) (fun a : α × β => e a.1 ++ e' a.2) (fun a => ok a.1 ∧ ok' a.2) := by
 intro fuel cs k h1 h2 h3
 obtain ⟨x, hx⟩ := h3 f (by simp)
 obtain ⟨a, ha, hl, hr⟩ := h _ _ _ hx
 obtain ⟨b, hb, hr'⟩ := h' fuel cs k h1 (by omega) (fun g hg => h3 g (by simp [hg]))
 refine ⟨(a, b), ⟨ha, hb⟩, ?_⟩
 rw [ho, hc] at hr
 have e1 : cs.drop o = (cs.drop o).take n ++ cs.drop (o + n) := by rw [← List.drop_drop, List.take_append_drop]
 rw [e1]
 exact hr.append hr'
theorem Rd.struct {α : Type} {t : TypeId} {fs : Array Field} {n : Nat} {e : α → List AV} {ok : α → Prop} (ht : P.underlying t = some (.struct fs)) (hc : P.cellsOf t = n) (h : RdF enc P W fs.toList 0 n e ok) : Rd enc P W t n e ok := by
 have _pin := (inferInstance : Pins)
 intro fuel cs x hx
 obtain ⟨xs, m, _, _, hl, hxl, hf⟩ := DataW.trod_struct ht hx
 obtain ⟨a, ha, hr⟩ := h m cs n (by omega) (by omega) (fun f hf' => by
   obtain ⟨i, hi, rfl⟩ := List.getElem_of_mem hf'
   have h1 := hf i fs.toList[i] (by simp at hi; simp [hi])
   have h2 : xs[i]? = some (xs[i]'(by simp at hi; omega)) := List.getElem?_eq_getElem _
   rw [h2] at h1
   exact ⟨_, h1⟩)
 exact ⟨a, ha, by omega, by simpa using hr⟩
/-- The same, told by another list of abstract values. -/
theorem zCf.conv {l l' : List AV} {cs : List Value} (h : zCf W l cs) (hl : l'.length = l.length) (he : ∀ i, i < l.length → AEq (l.getD i .any) (l'.getD i .any)) : zCf W l' cs :=
 have _pin := (inferInstance : Pins); ⟨hl.trans h.1, fun i hi => ⟨he i (by rw [h.1]; exact hi) _ _ _ _ (h.2 i hi).1, (h.2 i hi).2⟩⟩
theorem Rd.map {α β : Type} {t : TypeId} {n : Nat} {e : α → List AV} {ok : α → Prop} {e' : β → List AV} {ok' : β → Prop} (h : Rd enc P W t n e ok) (f : α → β) (hok : ∀ a, ok a → ok' (f a)) (hl : ∀ a, (e' (f a)).length = (e a).length)
   (he : ∀ a i, i < (e a).length → AEq ((e a).getD i .any) ((e' (f a)).getD i .any)) : Rd enc P W t n e' ok' := by
 intro fuel cs x hx
 obtain ⟨a, ha, h1, h2⟩ := h fuel cs x hx
 exact ⟨f a, hok a ha, h1, h2.conv (hl a) (he a)⟩
theorem zMT (k : IntKind) (l : List Int) : AEq (.ro (zCN 0 1 (fun n : Int => [AV.int k n]) l) 0 l.length) (.ro (.ints k l) 0 l.length) := by
 refine AEq.ro rfl (fun d j hd hj => ?_)
 have hj0 : j = 0 := Nat.lt_one_iff.1 hj
 subst hj0
 rfl
theorem zMa (l : List (List UInt8)) : AEq (.ro (zCN [] 1 (fun s : List UInt8 => [AV.str s]) l) 0 l.length) (.ro (.strs l) 0 l.length) := by
 refine AEq.ro rfl (fun d j hd hj => ?_)
 have hj0 : j = 0 := Nat.lt_one_iff.1 hj
 subst hj0
 rfl
theorem Rd.ints {t t' : TypeId} {k : IntKind} (ht : P.underlying t = some (.slice t')) (hc : P.cellsOf t' = 1) (hk : P.underlying t' = some (.int k)) :
   Rd enc P W t 1 (fun l : List Int => [AV.ro (.ints k l) 0 l.length]) (fun l => l.length ≤ 9223372036854775807 ∧ ∀ n ∈ l, (Lit.int k n).wf = true) :=
 (Rd.slice 0 ht hc rfl (Rd.int hk)).map id (fun _ h => h) (fun _ => rfl) (fun l i hi => by
   have : i = 0 := by simpa using hi
   subst this
   exact zMT k l)
theorem Rd.strs {t t' : TypeId} (ht : P.underlying t = some (.slice t')) (hc : P.cellsOf t' = 1) (hk : P.underlying t' = some .string) :
   Rd enc P W t 1 (fun l : List (List UInt8) => [AV.ro (.strs l) 0 l.length]) (fun l => l.length ≤ 9223372036854775807 ∧ ∀ s ∈ l, s.length ≤ 9223372036854775807) :=
 (Rd.slice [] ht hc rfl (Rd.str hk)).map id (fun _ h => h) (fun _ => rfl) (fun l i hi => by
   have : i = 0 := by simpa using hi
   subst this
   exact zMa l)
/-- An argument that is one cell. -/
theorem Rd.one {α : Type} {t : TypeId} {e : α → List AV} {ok : α → Prop} {v : Value} {d : DataW H} {p : List MemPlace} (h : Rd enc P W t 1 e ok) (hv : v.cells = #[v]) (hd : DataW.Trod enc P W 0 (fun _ => true) true t v d p) :
   ∃ a, ok a ∧ VR W (allS W) (fun _ => none) ((e a).getD 0 .any) v := by
 have _pin := (inferInstance : Pins)
 obtain ⟨fuel, hx⟩ := hd
 rw [hv] at hx
 obtain ⟨a, ha, _, hr⟩ := h _ _ _ hx
 exact ⟨a, ha, (hr.2 0 Nat.zero_lt_one).1⟩
/-- A struct or an array. -/
theorem Rd.agg {α : Type} {t : TypeId} {n : Nat} {e : α → List AV} {ok : α → Prop} {vs : Array Value} {d : DataW H} {p : List MemPlace} (h : Rd enc P W t n e ok) (hd : DataW.Trod enc P W 0 (fun _ => true) true t (.agg vs) d p) :
   ∃ a, ok a ∧ VR W (allS W) (fun _ => none) (.agg (e a)) (.agg vs) := by
 have _pin := (inferInstance : Pins)
 obtain ⟨fuel, hx⟩ := hd
 obtain ⟨a, ha, _, hr⟩ := h _ _ _ hx
 have hc : (Value.agg vs).cells = vs := rfl
 rw [hc] at hr
 refine ⟨a, ha, .agg _ _ _ (by rw [hr.1]; simp) (fun i hi => ?_) (fun i hi => ?_)⟩
 all_goals
   rw [hr.1] at hi
   have g := hr.2 i hi
   have hi' : i < vs.size := by simpa using hi
   have e1 : vs.toList.getD i undef = vs.getD i undef := by simp [List.getD, Array.getD, hi']
   rw [e1] at g
 · exact g.1
 · exact g.2
end
end Go.Ax
namespace Go.Ax
variable [Pins]
open Go.RowKit
section
variable {H : Type} {enc : TypeId × Value → H} {P : Program} {W : World}
theorem Rd.pair {t e : TypeId} (ht : P.underlying t = some (.array 2 e)) (hc : P.cellsOf e = 1) (hc2 : P.cellsOf t = 2) (hk : P.underlying e = some (.int .i64)) :
   Rd enc P W t 2 (fun x : Int × Int => [AV.int .i64 x.1, AV.int .i64 x.2]) (fun _ => True) := by
 have _pin := (inferInstance : Pins)
 intro fuel cs x hx
 obtain ⟨xs, m, _, _, hl, hxl, hf⟩ := DataW.trod_array ht hx
 rw [hc2] at hl
 rw [hc] at hf
 have each : ∀ i, i < 2 → ∃ n : Int, zCf W [AV.int .i64 n] ((cs.drop (i * 1)).take 1) := by
   intro i hi
   have h1 := hf i hi
   have h2 : xs[i]? = some (xs[i]'(by omega)) := List.getElem?_eq_getElem _
   rw [h2] at h1
   obtain ⟨n, _, _, hr⟩ := Rd.int hk _ _ _ h1
   exact ⟨n, hr⟩
 obtain ⟨a, ha⟩ := each 0 (by decide)
 obtain ⟨b, hb⟩ := each 1 (by decide)
 refine ⟨(a, b), trivial, hl, ?_⟩
 have e1 : cs = (cs.drop (0 * 1)).take 1 ++ (cs.drop (1 * 1)).take 1 := by
   match cs, hl with
   | [c0, c1], _ => rfl
 rw [e1]
 exact ha.append hb
end
end Go.Ax
namespace Go.Proofs.YtgmleamhjnlknaaGreatDoor
open Go.Ax
/-- What the walks of this seat know of the listed variables. -/
def pinG (w : World) : Prop := True
 ∧ Lib.TabIs Tryz.prog w "internal/strconv.uint64pow10" .u64 Lib.pow10Tab
 ∧ True
instance : Pins := ⟨fun w _ => pinG w⟩
theorem zMQ {n : String} {w w' : World} (h : ∀ b, b < w.heap.size → w'.heap[b]? = w.heap[b]?) {cs : Array Value} (hv : w.var? Tryz.prog n = some cs) : w'.var? Tryz.prog n = some cs := by
 unfold World.var? at hv ⊢
 cases hg : Tryz.prog.globalNamed n with
 | none => simp [hg] at hv
 | some g =>
   simp only [hg, Option.bind_some] at hv ⊢
   have hlt : g < w.heap.size := by
     rcases Nat.lt_or_ge g w.heap.size with q | q
     · exact q
     · have : w.heap[g]? = none := by simp [q]
       simp [this] at hv
   rw [h g hlt]; exact hv
theorem pin_up {W : World} {S : Nat → Prop} (h : pinG W) : zDw W S (fun _ => none) [] := by
 intro w' S' _ _ hb
 have hb' : ∀ b, b < W.heap.size → w'.heap[b]? = W.heap[b]? := fun b hl => hb b hl (by rintro ⟨h, o, s, C, h1, _⟩; simp at h1)
 show pinG w'
 unfold pinG at h ⊢
 obtain ⟨_, h⟩ := h
 obtain ⟨h1, h⟩ := h
 refine ⟨trivial, ?_⟩
 refine ⟨zMQ hb' h1, ?_⟩
 trivial
end Go.Proofs.YtgmleamhjnlknaaGreatDoor
namespace Go.Ax.Bg
abbrev B : Nat := 4294967296
/-- The value of limbs, the least significant one first; the limbs of a number. -/
def zm : List Int → Nat
 | [] => 0
 | x :: r => x.toNat + B * zm r
def zh (n : Nat) : List Int := if h : n = 0 then [] else ((n % B : Nat) : Int) :: zh (n / B)
termination_by n
decreasing_by exact Nat.div_lt_self (Nat.pos_of_ne_zero h) (by decide)
def Lim (l : List Int) : Prop := ∀ x ∈ l, 0 ≤ x ∧ x < 4294967296
theorem zBK : zh 0 = [] := by rw [zh, dif_pos rfl]
theorem zFF {n : Nat} (h : n ≠ 0) : zh n = ((n % B : Nat) : Int) :: zh (n / B) := by rw [zh, dif_neg h]
theorem zAG (n : Nat) : zm (zh n) = n := by
 induction n using Nat.strongRecOn with
 | _ n ih =>
   by_cases h : n = 0
   · subst h; rw [zBK]; rfl
   · rw [zFF h, zm, ih _ (Nat.div_lt_self (Nat.pos_of_ne_zero h) (by decide)), Int.toNat_natCast]
     exact Nat.mod_add_div n B
theorem Lim.cons {x : Int} {r : List Int} : Lim (x :: r) ↔ (0 ≤ x ∧ x < 4294967296) ∧ Lim r := by simp [Lim]
theorem Lim.append {l m : List Int} : Lim (l ++ m) ↔ Lim l ∧ Lim m := by
 constructor
 · exact fun h => ⟨fun x hx => h x (List.mem_append_left _ hx), fun x hx => h x (List.mem_append_right _ hx)⟩
 · rintro ⟨h1, h2⟩ x hx
   rcases List.mem_append.1 hx with h | h
   · exact h1 x h
   · exact h2 x h
theorem Lim.nil : Lim [] := fun x hx => by simp at hx
theorem Lim.one {x : Int} (h : 0 ≤ x ∧ x < 4294967296) : Lim [x] := by rw [Lim.cons]; exact ⟨h, Lim.nil⟩
theorem zAW (n : Nat) : Lim (zh n) := by
 induction n using Nat.strongRecOn with
 | _ n ih =>
   by_cases h : n = 0
   · subst h; rw [zBK]; exact Lim.nil
   · rw [zFF h, Lim.cons]
     refine ⟨?_, ih _ (Nat.div_lt_self (Nat.pos_of_ne_zero h) (by decide))⟩
     have := Nat.mod_lt n (show 0 < B by decide)
     unfold B at this ⊢; omega
theorem Lim.get {l : List Int} (h : Lim l) {i : Nat} (hi : i < l.length) : 0 ≤ l.getD i 0 ∧ l.getD i 0 < 4294967296 := h _ (zA6 0 hi)
theorem Lim.take {l : List Int} (h : Lim l) (k : Nat) : Lim (l.take k) := fun x hx => h x (List.mem_of_mem_take hx)
theorem Lim.drop {l : List Int} (h : Lim l) (k : Nat) : Lim (l.drop k) := fun x hx => h x (List.mem_of_mem_drop hx)
theorem zB1 (l m : List Int) : zm (l ++ m) = zm l + B ^ l.length * zm m := by
 induction l with
 | nil => simp [zm]
 | cons x r ih =>
   rw [List.cons_append, zm, zm, ih, List.length_cons, Nat.pow_succ]
   rw [Nat.mul_add, Nat.add_assoc, Nat.mul_comm (B ^ r.length) B, Nat.mul_assoc]
theorem zAp {l : List Int} (h : Lim l) : zm l < B ^ l.length := by
 induction l with
 | nil => simp [zm]
 | cons x r ih =>
   rw [Lim.cons] at h
   have i := ih h.2
   rw [zm, List.length_cons, Nat.pow_succ]
   have hx : x.toNat < B := by unfold B; omega
   have : zm r + 1 ≤ B ^ r.length := i
   calc x.toNat + B * zm r < B + B * zm r := by omega
     _ = B * (zm r + 1) := by rw [Nat.mul_add, Nat.mul_one]; omega
     _ ≤ B * B ^ r.length := Nat.mul_le_mul_left _ this
     _ = B ^ r.length * B := Nat.mul_comm _ _
theorem zFq (k : Nat) : zm (List.replicate k 0) = 0 := by
 induction k with
 | zero => rfl
 | succ k ih => rw [List.replicate_succ, zm, ih]; rfl
/-- Without superfluous zeros, limbs are those of their value. -/
theorem zKE {l : List Int} (h : Lim l) (hz : l = [] ∨ l.getD (l.length - 1) 0 ≠ 0) : zh (zm l) = l := by
 induction l with
 | nil => exact zBK
 | cons x r ih =>
   rw [Lim.cons] at h
   have hx : x.toNat < B := by unfold B; omega
   have hxe : ((x.toNat : Nat) : Int) = x := by omega
   have hr : r = [] ∨ r.getD (r.length - 1) 0 ≠ 0 := by
     cases r with
     | nil => exact .inl rfl
     | cons y q =>
       right
       rcases hz with hz | hz
       · cases hz
       · simpa using hz
   have i := ih h.2 hr
   have hne : zm (x :: r) ≠ 0 := by
     rw [zm]
     cases r with
     | nil =>
       rcases hz with hz | hz
       · cases hz
       · simp at hz; simp [zm]; omega
     | cons y q =>
       intro h0
       have h1 : zm (y :: q) = 0 := by
         have : B * zm (y :: q) = 0 := by omega
         rcases Nat.mul_eq_zero.1 this with h | h
         · exact absurd h (by decide)
         · exact h
       rw [h1, zBK] at i
       cases i
   rw [zFF hne]
   have e1 : zm (x :: r) % B = x.toNat := by rw [zm, Nat.add_mul_mod_self_left, Nat.mod_eq_of_lt hx]
   have e2 : zm (x :: r) / B = zm r := by
     rw [zm, Nat.add_mul_div_left _ _ (by decide), Nat.div_eq_of_lt hx, Nat.zero_add]
   rw [e1, e2, i, hxe]
theorem zIk {n : Nat} : zh n = [] ∨ (zh n).getD ((zh n).length - 1) 0 ≠ 0 := by
 induction n using Nat.strongRecOn with
 | _ n ih =>
   by_cases h : n = 0
   · subst h; exact .inl zBK
   · right
     rw [zFF h]
     have hlt := Nat.div_lt_self (Nat.pos_of_ne_zero h) (show 1 < B by decide)
     rcases ih (n / B) hlt with h1 | h1
     · rw [h1]
       have : n / B = 0 := by
         have := zAG (n / B)
         rw [h1] at this; exact this.symm
       have hn : n < B := by
         rcases Nat.lt_or_ge n B with q | q
         · exact q
         · have := Nat.div_pos q (show 0 < B by decide); omega
       simp only [List.length_cons, List.length_nil, Nat.zero_add, Nat.sub_self, List.getD_cons_zero]
       rw [Nat.mod_eq_of_lt hn]; omega
     · cases hq : zh (n / B) with
       | nil => rw [hq] at h1; simp at h1
       | cons y q =>
         rw [hq] at h1
         simpa using h1
/-- Zeros at the end cut away. -/
theorem zMG {l : List Int} (h : Lim l) {k : Nat} (hk : k ≤ l.length) (h0 : ∀ i, k ≤ i → i < l.length → l.getD i 0 = 0) (hz : k = 0 ∨ l.getD (k - 1) 0 ≠ 0) : l.take k = zh (zm l) := by
 have e : l.drop k = List.replicate (l.length - k) 0 := by
   apply List.ext_getElem
   · simp
   · intro i h1 h2
     simp only [List.length_drop] at h1
     have := h0 (k + i) (by omega) (by omega)
     rw [zCq 0 (by omega)] at this
     simpa using this
 have hv : zm l = zm (l.take k) := by
   conv => lhs; rw [← List.take_append_drop k l]
   rw [zB1, e, zFq, Nat.mul_zero, Nat.add_zero]
 rw [hv, zKE (h.take k)]
 rcases hz with hz | hz
 · subst hz; exact .inl (by simp)
 · right
   rw [List.length_take, Nat.min_eq_left hk]
   have hk0 : k ≠ 0 := fun e => by
     subst e
     cases l with
     | nil => simp at hz
     | cons x r => exact hz (h0 0 (Nat.le_refl _) (by simp))
   simp only [List.getD, List.getElem?_take, show k - 1 < k by omega, if_true]
   exact hz
theorem zAj {n k : Nat} (h : n < B ^ k) : (zh n).length ≤ k := by
 rcases zIk (n := n) with h1 | h1
 · rw [h1]; exact Nat.zero_le _
 · rcases Nat.lt_or_ge k (zh n).length with hl | hl
   · exfalso
     have hv := zAG n
     have hsplit := zB1 ((zh n).take ((zh n).length - 1)) ((zh n).drop ((zh n).length - 1))
     rw [List.take_append_drop, hv] at hsplit
     have hd : (zh n).drop ((zh n).length - 1) = [(zh n).getD ((zh n).length - 1) 0] := by
       rw [zBm (zh n) 0 _ (by omega), List.drop_of_length_le (by omega)]
     have hg := (zAW n).get (i := (zh n).length - 1) (by omega)
     rw [hd] at hsplit
     simp only [zm, Nat.mul_zero, Nat.add_zero, List.length_take] at hsplit
     rw [Nat.min_eq_left (by omega)] at hsplit
     have hx : 1 ≤ ((zh n).getD ((zh n).length - 1) 0).toNat := by omega
     have hp : B ^ k ≤ B ^ ((zh n).length - 1) := Nat.pow_le_pow_right (by decide) (by omega)
     have : B ^ ((zh n).length - 1) * 1 ≤ B ^ ((zh n).length - 1) * ((zh n).getD ((zh n).length - 1) 0).toNat := Nat.mul_le_mul_left _ hx
     omega
   · exact hl
theorem zKK {n k : Nat} (h : B ^ k ≤ n) : k < (zh n).length := by
 have h1 := zAp (zAW n)
 rw [zAG] at h1
 exact (Nat.pow_lt_pow_iff_right (show 1 < B by decide)).1 (Nat.lt_of_le_of_lt h h1)
theorem natL_inj {a b : Nat} (h : zh a = zh b) : a = b := by rw [← zAG a, ← zAG b, h]
theorem natL_nil {n : Nat} : zh n = [] ↔ n = 0 := by
 constructor
 · intro h; rw [← zAG n, h]; rfl
 · rintro rfl; exact zBK
theorem zDk {l : List Int} (i : Nat) (hi : i < l.length) : zm (l.take (i + 1)) = zm (l.take i) + B ^ i * (l.getD i 0).toNat := by
 rw [zAU l 0 i hi, zB1]
 simp only [zm, Nat.mul_zero, Nat.add_zero, List.length_take]
 rw [Nat.min_eq_left (by omega)]
theorem zCj {l : List Int} (x : Int) : zm (l ++ [x]) = zm l + B ^ l.length * x.toNat := by
 rw [zB1]; simp only [zm, Nat.mul_zero, Nat.add_zero]
/-- The comparison from the top. -/
theorem zIb {a b : List Int} (i : Nat) (ha : Lim a) (hb : Lim b) (hl : a.length = b.length) (hi : i < a.length) (he : ∀ j, i < j → j < a.length → a.getD j 0 = b.getD j 0) (hlt : a.getD i 0 < b.getD i 0) : zm a < zm b := by
 have hd : a.drop (i + 1) = b.drop (i + 1) := by
   apply List.ext_getElem
   · simp [hl]
   · intro j h1 h2
     simp only [List.length_drop] at h1 h2
     have := he (i + 1 + j) (by omega) (by omega)
     rw [zCq 0 (by omega), zCq 0 (by omega)] at this
     simpa using this
 have ea : zm a = zm (a.take (i + 1)) + B ^ (i + 1) * zm (a.drop (i + 1)) := by
   conv => lhs; rw [← List.take_append_drop (i + 1) a]
   rw [zB1, List.length_take, Nat.min_eq_left (by omega)]
 have eb : zm b = zm (b.take (i + 1)) + B ^ (i + 1) * zm (b.drop (i + 1)) := by
   conv => lhs; rw [← List.take_append_drop (i + 1) b]
   rw [zB1, List.length_take, Nat.min_eq_left (by omega)]
 rw [ea, eb, hd, zDk i hi, zDk i (by omega)]
 have h1 := zAp (ha.take i)
 rw [List.length_take, Nat.min_eq_left (by omega)] at h1
 have hga := ha.get hi
 have hgb := hb.get (i := i) (by omega)
 have h2 : B ^ i * ((a.getD i 0).toNat + 1) ≤ B ^ i * (b.getD i 0).toNat := Nat.mul_le_mul_left _ (by omega)
 rw [Nat.mul_add, Nat.mul_one] at h2
 omega
end Go.Ax.Bg
namespace Go.Ax.Bg
theorem zHO {l : List Int} {i : Nat} {x : Int} (hi : i < l.length) : zm (l.set i x) + B ^ i * (l.getD i 0).toNat = zm l + B ^ i * x.toNat := by
 induction l generalizing i with
 | nil => simp at hi
 | cons y r ih =>
   cases i with
   | zero => simp only [List.set_cons_zero, zm, Nat.pow_zero, Nat.one_mul, List.getD_cons_zero]; omega
   | succ i =>
     have h := ih (i := i) (by simpa using hi)
     simp only [List.set_cons_succ, zm, List.getD_cons_succ, Nat.pow_succ]
     have e1 : B ^ i * B * (r.getD i 0).toNat = B * (B ^ i * (r.getD i 0).toNat) := by rw [Nat.mul_comm (B ^ i) B, Nat.mul_assoc]
     have e2 : B ^ i * B * x.toNat = B * (B ^ i * x.toNat) := by rw [Nat.mul_comm (B ^ i) B, Nat.mul_assoc]
     rw [e1, e2]
     have e3 : B * (zm (r.set i x) + B ^ i * (r.getD i 0).toNat) = B * (zm r + B ^ i * x.toNat) := by rw [h]
     rw [Nat.mul_add, Nat.mul_add] at e3
     omega
theorem Lim.set {l : List Int} (h : Lim l) {i : Nat} {x : Int} (hx : 0 ≤ x ∧ x < 4294967296) : Lim (l.set i x) := fun y hy => by
 rcases List.mem_or_eq_of_mem_set hy with h1 | h1
 · exact h y h1
 · subst h1; exact hx
theorem Lim.zeros (k : Nat) : Lim (List.replicate k 0) := fun x hx => by rw [(List.mem_replicate.1 hx).2]; omega
/-- A carry is parted. -/
theorem zFl (c : Nat) (p : Nat) : p * (c % B) + p * B * (c / B) = p * c := by
 rw [Nat.mul_assoc, ← Nat.mul_add, Nat.mod_add_div]
/-- One more limb, with a carry. -/
theorem zFu {out : List Int} {i c t u : Nat} (hl : out.length = i) (h : zm out + B ^ i * t = u) {d : Nat} (hc : c = t + d) : zm (out ++ [((c % B : Nat) : Int)]) + B ^ (i + 1) * (c / B) = u + B ^ i * d := by
 rw [zCj, hl, Int.toNat_natCast, Nat.pow_succ]
 have := zFl c (B ^ i)
 have e : B ^ i * c = B ^ i * t + B ^ i * d := by rw [hc, Nat.mul_add]
 omega
theorem zCu (c : Nat) : 0 ≤ ((c % B : Nat) : Int) ∧ ((c % B : Nat) : Int) < 4294967296 := by
 have := Nat.mod_lt c (show 0 < B by decide)
 unfold B at this ⊢; omega
/-- Knuth's estimate: the quotient by the first three and the first two limbs. -/
theorem est_ge {u v U V P q : Nat} (hP : 0 < P) (hu : u < (U + 1) * P) (hv : V * P ≤ v) (hq : q * v ≤ u) : q * V ≤ U := by
 have h1 : q * V * P ≤ q * v := by rw [Nat.mul_assoc]; exact Nat.mul_le_mul_left _ hv
 have h2 : q * V * P < (U + 1) * P := Nat.lt_of_le_of_lt (Nat.le_trans h1 hq) hu
 have := Nat.lt_of_mul_lt_mul_right h2
 omega
theorem est_le {u v U V P g : Nat} (hP : 0 < P) (hu : U * P ≤ u) (hv : v ≤ (V + 1) * P) (hg : g * V ≤ U) (hgV : g ≤ V + 1) (h1 : 1 ≤ g) : (g - 1) * v ≤ u := by
 have a : (g - 1) * v ≤ (g - 1) * ((V + 1) * P) := Nat.mul_le_mul_left _ hv
 have b : (g - 1) * ((V + 1) * P) = (g - 1) * (V + 1) * P := by rw [Nat.mul_assoc]
 have c : (g - 1) * (V + 1) ≤ g * V := by
   obtain ⟨k, rfl⟩ : ∃ k, g = k + 1 := ⟨g - 1, by omega⟩
   simp only [Nat.add_sub_cancel]
   rw [Nat.mul_add, Nat.add_mul]
   omega
 have d : (g - 1) * (V + 1) * P ≤ U * P := Nat.mul_le_mul_right _ (Nat.le_trans c hg)
 omega
end Go.Ax.Bg
namespace Go.Ax.Bg
theorem zAF (l : List Int) (i : Nat) : zm (l.take (i + 1)) = zm (l.take i) + B ^ i * (l.getD i 0).toNat := by
 rcases Nat.lt_or_ge i l.length with h | h
 · exact zDk i h
 · rw [List.take_of_length_le h, List.take_of_length_le (by omega)]
   have : l.getD i 0 = 0 := by simp [List.getD, List.getElem?_eq_none h]
   rw [this]; simp
theorem Lim.get' {l : List Int} (h : Lim l) (i : Nat) : 0 ≤ l.getD i 0 ∧ l.getD i 0 < 4294967296 := by
 rcases Nat.lt_or_ge i l.length with hi | hi
 · exact h.get hi
 · have : l.getD i 0 = 0 := by simp [List.getD, List.getElem?_eq_none hi]
   omega
theorem Lim.nat {l : List Int} (h : Lim l) (i : Nat) : ∃ d : Nat, l.getD i 0 = (d : Int) ∧ d < 4294967296 := by
 have := h.get' i
 exact ⟨(l.getD i 0).toNat, by omega, by omega⟩
theorem zMB (l : List Int) (i : Nat) : zm l = zm (l.take i) + B ^ (min i l.length) * zm (l.drop i) := by
 conv => lhs; rw [← List.take_append_drop i l]
 rw [zB1, List.length_take]
theorem zHv (l : List Int) (i : Nat) : zm (l.drop i) = (l.getD i 0).toNat + B * zm (l.drop (i + 1)) := by
 rcases Nat.lt_or_ge i l.length with h | h
 · rw [zBm l 0 i h, zm]
 · rw [List.drop_of_length_le h, List.drop_of_length_le (by omega)]
   have : l.getD i 0 = 0 := by simp [List.getD, List.getElem?_eq_none h]
   rw [this]; simp [zm]
theorem zFw {l : List Int} (h : Lim l) {k : Nat} (hv : zm l < B ^ k) : zm (l.take k) = zm l := by
 rcases Nat.lt_or_ge k l.length with hl | hl
 · have e := zMB l k
   rw [Nat.min_eq_left (by omega)] at e
   have : zm (l.drop k) = 0 := by
     rcases Nat.eq_zero_or_pos (zm (l.drop k)) with h0 | h0
     · exact h0
     · exfalso
       have : B ^ k * 1 ≤ B ^ k * zm (l.drop k) := Nat.mul_le_mul_left _ h0
       omega
   rw [this] at e
   omega
 · rw [List.take_of_length_le hl]
theorem zL5 {l : List Int} {k i : Nat} (h : i < k) : (l.take k).getD i 0 = l.getD i 0 := by
 simp only [List.getD, List.getElem?_take, h, if_true]
/-- Limbs, cut to their true length. -/
theorem zMk {l : List Int} (hl : Lim l) : l.take (zh (zm l)).length = zh (zm l) := by
 have h := zAj (zAp hl)
 have hsm := zAp (zAW (zm l))
 rw [zAG] at hsm
 have hv := zFw hl hsm
 obtain ⟨n, hn⟩ : ∃ n, (zh (zm l)).length = n := ⟨_, rfl⟩
 rw [hn] at h hsm hv ⊢
 rcases Nat.eq_zero_or_pos n with q | q
 · subst q
   rw [List.take_zero, List.length_eq_zero_iff.1 hn]
 · have e := zKE (hl.take n) (.inr (fun h9 => ?_))
   · rw [hv] at e; exact e.symm
   · rw [List.length_take, Nat.min_eq_left h, zL5 (by omega)] at h9
     have hlast := zAF l (n - 1)
     rw [show n - 1 + 1 = n by omega, hv, h9] at hlast
     have h5 := zAp (hl.take (n - 1))
     rw [List.length_take, Nat.min_eq_left (by omega)] at h5
     have h6 : zm l < B ^ (n - 1) := by rw [hlast]; simpa using h5
     have := zAj h6
     omega
theorem zJz (n i : Nat) : (List.replicate n (0 : Int)).getD i 0 = 0 := by
 simp only [List.getD, List.getElem?_replicate]
 split <;> rfl
theorem bpos (i : Nat) : 0 < B ^ i := Nat.pow_pos (by decide)
/-- One limb of a sum, of a difference. -/
theorem zKJ {out x y : List Int} {i cr d e : Nat} (hl : out.length = i) (h : zm out + B ^ i * cr = zm (x.take i) + zm (y.take i)) (hd : x.getD i 0 = (d : Int)) (he : y.getD i 0 = (e : Int)) :
   zm (out ++ [(((cr + d + e) % 4294967296 : Nat) : Int)]) + B ^ (i + 1) * ((cr + d + e) / 4294967296) = zm (x.take (i + 1)) + zm (y.take (i + 1)) := by
 have := zFu hl h (c := cr + d + e) (d := d + e) (by omega)
 rw [zAF, zAF, hd, he, Int.toNat_natCast, Int.toNat_natCast]
 rw [Nat.mul_add] at this
 unfold B at *
 omega
theorem zMX {out x y : List Int} {i br d e yv br' : Nat} (hl : out.length = i) (h : zm out + zm (y.take i) = zm (x.take i) + B ^ i * br) (hd : x.getD i 0 = (d : Int)) (he : y.getD i 0 = (e : Int)) (hy : yv + br + e = d + 4294967296 * br') :
   zm (out ++ [(yv : Int)]) + zm (y.take (i + 1)) = zm (x.take (i + 1)) + B ^ (i + 1) * br' := by
 rw [zAF, zAF, hd, he, Int.toNat_natCast, Int.toNat_natCast, zCj, hl, Int.toNat_natCast, Nat.pow_succ, Nat.mul_assoc]
 have h3 : B ^ i * yv + B ^ i * br + B ^ i * e = B ^ i * d + B ^ i * (B * br') := by rw [← Nat.mul_add, ← Nat.mul_add, ← Nat.mul_add]; exact congrArg _ hy
 omega
/-- One limb of a product. -/
theorem mul_step {out : List Int} {p cr a b o u : Nat} (hp : p < out.length) (h : zm out + B ^ p * cr = u) (ho : out.getD p 0 = (o : Int)) :
   zm (out.set p (((cr + (a * b + o)) % 4294967296 : Nat) : Int)) + B ^ (p + 1) * ((cr + (a * b + o)) / 4294967296) = u + B ^ p * (a * b) := by
 have h1 := zHO (x := (((cr + (a * b + o)) % 4294967296 : Nat) : Int)) hp
 rw [ho, Int.toNat_natCast, Int.toNat_natCast] at h1
 have h2 := zFl (cr + (a * b + o)) (B ^ p)
 rw [Nat.pow_succ]
 have e : B ^ p * (cr + (a * b + o)) = B ^ p * cr + (B ^ p * (a * b) + B ^ p * o) := by rw [Nat.mul_add, Nat.mul_add]
 rw [e] at h2
 unfold B at *
 omega
theorem zCO {l : List Int} {i j : Nat} {x : Int} (h : i ≠ j) : (l.set i x).getD j 0 = l.getD j 0 := by
 simp only [List.getD, List.getElem?_set_ne h]
theorem zJL {l : List Int} {i : Nat} {x : Int} (h : i < l.length) : (l.set i x).drop i = x :: l.drop (i + 1) := by
 have h2 : i < (l.set i x).length := by simpa using h
 rw [zBm (l.set i x) 0 i h2]
 congr 1
 · simp [List.getD, h]
 · rw [List.drop_set_of_lt (by omega)]
theorem p32 : (2 : Nat) ^ 32 = 4294967296 := by decide
theorem zGe {a : Nat} (h : a < 4294967296) : a * 2 ^ 32 < 18446744073709551616 := by
 have e : a * 2 ^ 32 = a * 4294967296 := congrArg (a * ·) p32
 rw [e]; omega
theorem zK8 {a b : Nat} (h : b < 4294967296) : a * 2 ^ 32 ||| b = a * 4294967296 + b := by
 have := Nat.two_pow_add_eq_or_of_lt (i := 32) (b := b) (by simpa using h) a
 rw [Nat.mul_comm (2 ^ 32) a] at this
 rw [← this]
/-- Comparing. -/
def zCn (x y : Int) : Int := if x < y then -1 else if y < x then 1 else 0
theorem zGN {x y : Int} (h : x < y) : zCn x y = -1 := if_pos h
theorem zGR {x y : Int} (h : y < x) : zCn x y = 1 := by unfold zCn; rw [if_neg (by omega), if_pos h]
theorem zLP {x y : Int} (h : x = y) : zCn x y = 0 := by unfold zCn; rw [if_neg (by omega), if_neg (by omega)]
theorem cmp_len (a b : Nat) (h : (zh a).length ≠ (zh b).length) : zCn a b = zCn (zh a).length (zh b).length := by
 have key : ∀ u v : Nat, (zh u).length < (zh v).length → u < v := by
   intro u v huv
   rcases Nat.lt_or_ge u v with q | q
   · exact q
   · exfalso
     have h1 := zAp (zAW u)
     rw [zAG] at h1
     have h2 : v < B ^ (zh u).length := Nat.lt_of_le_of_lt q h1
     have := zAj h2
     omega
 rcases Nat.lt_or_ge (zh a).length (zh b).length with q | q
 · rw [zGN (Int.ofNat_lt.2 q), zGN (Int.ofNat_lt.2 (key a b q))]
 · have q' : (zh b).length < (zh a).length := by omega
   rw [zGR (Int.ofNat_lt.2 q'), zGR (Int.ofNat_lt.2 (key b a q'))]
theorem cmp_limb {a b : Nat} (ha : Lim (zh a)) (hb : Lim (zh b)) (hl : (zh a).length = (zh b).length) {i : Nat} (hi : i < (zh a).length) (he : ∀ j, i < j → j < (zh a).length → (zh a).getD j 0 = (zh b).getD j 0) (hne : (zh a).getD i 0 ≠ (zh b).getD i 0) :
   zCn a b = zCn ((zh a).getD i 0) ((zh b).getD i 0) := by
 rcases Int.lt_trichotomy ((zh a).getD i 0) ((zh b).getD i 0) with q | q | q
 · have := zIb i ha hb hl hi he q
   rw [zAG, zAG] at this
   rw [zGN q, zGN (Int.ofNat_lt.2 this)]
 · exact absurd q hne
 · have := zIb i hb ha hl.symm (by omega) (fun j h1 h2 => (he j h1 (by omega)).symm) q
   rw [zAG, zAG] at this
   rw [zGR q, zGR (Int.ofNat_lt.2 this)]
theorem cmp_same {a b : Nat} (hl : (zh a).length = (zh b).length) (he : ∀ j, j < (zh a).length → (zh a).getD j 0 = (zh b).getD j 0) : zCn a b = 0 := by
 have : zh a = zh b := by
   apply List.ext_getElem hl
   intro i h1 h2
   have := he i h1
   rw [zCq 0 h1, zCq 0 h2] at this
   exact this
 rw [zLP (by rw [natL_inj this])]
/-- What the estimate begins with: at least the quotient. -/
theorem guess_ge {B top v1 v2 u2 g : Nat} (hv1 : 0 < v1) (h2 : u2 < B) (hg : g * (v1 * B + v2) ≤ top * B + u2) : g ≤ top / v1 := by
 rw [Nat.le_div_iff_mul_le hv1]
 have : g * v1 * B ≤ top * B + u2 := by
   refine Nat.le_trans ?_ hg
   rw [Nat.mul_add, Nat.mul_assoc]
   exact Nat.le_add_right _ _
 have : g * v1 * B < (top + 1) * B := by rw [Nat.add_mul]; omega
 have := Nat.lt_of_mul_lt_mul_right this
 omega
/-- The two conditions of the loop, together. -/
theorem zKu {B top v1 v2 u2 g rest : Nat} (hr : rest + g * v1 = top) (hg : g < B) (h2 : v2 < B) : (rest < B ∧ rest * B + u2 < g * v2) ↔ top * B + u2 < g * (v1 * B + v2) := by
 have e : g * (v1 * B + v2) = g * v1 * B + g * v2 := by rw [Nat.mul_add, Nat.mul_assoc]
 have e2 : top * B = rest * B + g * v1 * B := by rw [← hr, Nat.add_mul]
 rw [e, e2]
 constructor
 · rintro ⟨_, h⟩; omega
 · intro h
   refine ⟨?_, by omega⟩
   rcases Nat.lt_or_ge rest B with q | q
   · exact q
   · exfalso
     have h3 : B * B ≤ rest * B := Nat.mul_le_mul_right _ q
     have h4 : g * v2 ≤ B * B := Nat.mul_le_mul (by omega) (by omega)
     omega
/-- One limb of a subtraction of a product. -/
theorem sub_step {P w g va u0 c b t y : Nat} (h : w + g * va = u0 + P * (c + b)) {ui : Nat} (b' : Nat) (hx : (y : Int) = (ui : Int) - ((c + t) % B : Nat) - b + B * b') :
   w + P * y + (g * va + P * t) = u0 + P * ui + P * B * ((c + t) / B + b') := by
 have e : P * ((c + t) % B) + P * B * ((c + t) / B) = P * (c + t) := zFl (c + t) P
 have h1 : (y : Int) + ((c + t) % B : Nat) + b = ui + B * b' := by omega
 have h2 : y + (c + t) % B + b = ui + B * b' := by omega
 have h3 : P * y + P * ((c + t) % B) + P * b = P * ui + P * (B * b') := by rw [← Nat.mul_add, ← Nat.mul_add, h2, Nat.mul_add]
 rw [Nat.mul_add (P * B), Nat.mul_assoc P B b']
 rw [Nat.mul_add] at e h
 omega
/-- What the zBF is: its number and what remains. -/
theorem zKz {u v g w : Nat} {n b : Nat} (hw : w < B ^ n) (hv : v < B ^ n) (hu : u < B ^ n) (hb : b ≤ 1) (h : w + g * v = u + B ^ n * b) (h1 : u / v ≤ g) (h2 : g ≤ u / v + 1) (hv0 : 0 < v) :
   (b = 0 → g = u / v ∧ w = u % v) ∧ (b = 1 → g = u / v + 1 ∧ (w + v) = u % v + B ^ n) := by
 have hd := Nat.div_add_mod u v
 have hm := Nat.mod_lt u hv0
 have hc : v * (u / v) = (u / v) * v := Nat.mul_comm _ _
 constructor
 · intro h0
   subst h0
   rw [Nat.mul_zero, Nat.add_zero] at h
   have hge : g ≤ u / v := by rw [Nat.le_div_iff_mul_le hv0]; omega
   have : g = u / v := by omega
   subst this
   exact ⟨rfl, by omega⟩
 · intro h0
   subst h0
   rw [Nat.mul_one] at h
   have hg : g = u / v + 1 := by
     rcases Nat.lt_or_ge g (u / v + 1) with q | q
     · exfalso
       have : g = u / v := by omega
       subst this
       omega
     · omega
   subst hg
   rw [Nat.add_mul, Nat.one_mul] at h
   exact ⟨rfl, by omega⟩
end Go.Ax.Bg
namespace Go.Ax.Tb
/-- strings.Cut at one byte. -/
def zBz (b : UInt8) : List UInt8 → List UInt8 × List UInt8 × Bool
 | [] => ([], [], false)
 | c :: r => if c = b then ([], r, true) else (c :: (zBz b r).1, (zBz b r).2.1, (zBz b r).2.2)
theorem zLN {b : UInt8} {s : List UInt8} (h : b ∉ s) : zBz b s = (s, [], false) := by
 induction s with
 | nil => rfl
 | cons c r ih =>
   simp only [List.mem_cons, not_or] at h
   rw [zBz, if_neg (fun e => h.1 e.symm), ih h.2]
theorem zLI {b : UInt8} {l r : List UInt8} (h : b ∉ l) : zBz b (l ++ b :: r) = (l, r, true) := by
 induction l with
 | nil => rw [List.nil_append, zBz, if_pos rfl]
 | cons c q ih =>
   simp only [List.mem_cons, not_or] at h
   rw [List.cons_append, zBz, if_neg (fun e => h.1 e.symm), ih h.2]
theorem zJs (b : UInt8) (s : List UInt8) : (zBz b s).1.length + (zBz b s).2.1.length + (if (zBz b s).2.2 then 1 else 0) = s.length := by
 induction s with
 | nil => rfl
 | cons c r ih =>
   rw [zBz]
   split
   · simp
   · simp only [List.length_cons]; omega
/-- .. and by the index of the byte. -/
theorem zHH (b : UInt8) (s : List UInt8) : zBz b s = if 0 ≤ Lib.indexByte s b then (s.take (Lib.indexByte s b).toNat, s.drop ((Lib.indexByte s b).toNat + 1), true) else (s, [], false) := by
 induction s with
 | nil => rfl
 | cons c r ih =>
   rw [zBz, Lib.indexByte]
   by_cases hc : c = b
   · subst hc; simp
   · have hb : (c == b) = false := by simpa using hc
     simp only [hb, Bool.false_eq_true, if_false, hc]
     rw [ih]
     have hge := Lib.indexByte_ge r b
     by_cases h1 : Lib.indexByte r b = -1
     · simp [h1]
     · have h2 : (Lib.indexByte r b == -1) = false := by simpa using h1
       simp only [h2, Bool.false_eq_true, if_false]
       rw [if_pos (by omega), if_pos (by omega)]
       have e : (Lib.indexByte r b + 1).toNat = (Lib.indexByte r b).toNat + 1 := by omega
       rw [e]; rfl
/-- A number's text: table.number. -/
def numB (s : List UInt8) : Bool := match Lib.atoiAll s with
 | .ok n => decide (0 ≤ n) && decide (Lib.itoa n = s)
 | _ => false
def numV (s : List UInt8) : Int := match Lib.atoiAll s with
 | .ok n => n
 | .syntax => 0
 | .range => Lib.atoiSat s
def zBF (c : UInt8) : Prop := 48 ≤ c.toNat ∧ c.toNat ≤ 57
theorem zCT {d : Nat} (h : d < 10) : zBF (UInt8.ofNat (48 + d)) ∧ (UInt8.ofNat (48 + d)).toNat = 48 + d := by
 have e : (UInt8.ofNat (48 + d)).toNat = 48 + d := by simp; omega
 exact ⟨⟨by omega, by omega⟩, e⟩
theorem zBH (u : Nat) : ∀ c ∈ Lib.decDigits u, zBF c := by
 induction u using Nat.strongRecOn with
 | _ u ih =>
   intro c hc
   rw [Lib.decDigits] at hc
   split at hc
   · rename_i h
     simp only [List.mem_singleton] at hc
     subst hc; exact (zCT h).1
   · rw [List.mem_append] at hc
     rcases hc with hc | hc
     · exact ih _ (by omega) c hc
     · simp only [List.mem_singleton] at hc
       subst hc; exact (zCT (Nat.mod_lt _ (by decide))).1
theorem zBZ (u : Nat) : Lib.decDigits u ≠ [] := by
 rw [Lib.decDigits]
 split <;> simp
theorem itoa_nat (u : Nat) : Lib.itoa (u : Int) = Lib.decDigits u := by
 unfold Lib.itoa
 rw [if_neg (by omega)]; simp
/-- table.Sum -/
def sumGo : List UInt8 → Int → Int → Int × Int
 | [], a, b => (a, b)
 | c :: r, a, b => sumGo r ((a + (c.toNat : Int)) % 65521) ((b + (a + (c.toNat : Int)) % 65521) % 65521)
def sumF (s : List UInt8) : Int := 65536 * (sumGo s 1 0).2 + (sumGo s 1 0).1
def total : List UInt8 → Int
 | [] => 0
 | c :: r => (c.toNat : Int) + total r
/-- table.Pack: a run, the text of all runs. -/
def runT (v : Int) (k : Nat) : List UInt8 := Lib.itoa v ++ ((if 1 < k then 120 :: Lib.itoa k else []) ++ [59])
def same (v : Int) : List Int → Nat
 | [] => 0
 | x :: r => if x = v then same v r + 1 else 0
def packB : Nat → List Int → List UInt8
 | 0, _ => []
 | _ + 1, [] => []
 | n + 1, v :: r => runT v (same v r + 1) ++ packB n (r.drop (same v r))
/-- table.Unpack: one run; all runs. none: a fault of the form; else value and count. -/
def runV (run : List UInt8) : Option (Int × Int) :=
 let c := zBz 120 run
 if numB c.1 = false then none
 else if c.2.2 = true then
   if numB c.2.1 = true ∧ 1 < numV c.2.1 then some (numV c.1, numV c.2.1) else none
 else some (numV c.1, 1)
inductive Unp where
 | bad (e : Int)
 | good (l : List Int)
/-- rest, what is unpacked, the last value. -/
def unpGo : Nat → List UInt8 → List Int → Int → Unp
 | 0, _, out, _ => .good out
 | n + 1, rest, out, last =>
   if rest = [] then .good out
   else match runV (zBz 59 rest).1 with
     | none => .bad 5
     | some (v, k) =>
       if 9999 < v ∨ v = last then .bad 5
       else if 4096 - (out.length : Int) < k then .bad 2
       else unpGo n (zBz 59 rest).2.1 (out ++ List.replicate k.toNat v) v
def unpF (body : List UInt8) : Unp := unpGo body.length body [] (-1)
theorem digit_ne {c : UInt8} (h : zBF c) (b : UInt8) (hb : b.toNat < 48 ∨ 57 < b.toNat) : b ≠ c := fun e => by
 subst e; unfold zBF at h; omega
theorem zDJ (u : Nat) (b : UInt8) (hb : b.toNat < 48 ∨ 57 < b.toNat) : b ∉ Lib.decDigits u := fun h => digit_ne (zBH u b h) b hb rfl
end Go.Ax.Tb
namespace Go.Ax.Bg
open Go.Ax.Tb (zBF zCT zBH zBZ)
/-- What digits spell. -/
def decS (a : Nat) (c : UInt8) : Nat := a * 10 + (c.toNat - 48)
def zAc (acc : Nat) (l : List UInt8) : Nat := l.foldl decS acc
theorem zEH (acc : Nat) : zAc acc [] = acc := rfl
theorem zCG (acc : Nat) (c : UInt8) (r : List UInt8) : zAc acc (c :: r) = zAc (acc * 10 + (c.toNat - 48)) r := by
 unfold zAc; rw [List.foldl_cons, decS]
theorem zFJ (l m : List UInt8) (acc : Nat) : zAc acc (l ++ m) = zAc (zAc acc l) m := by
 unfold zAc; rw [List.foldl_append]
theorem zEx (l : List UInt8) (acc : Nat) : zAc acc l = acc * 10 ^ l.length + zAc 0 l := by
 induction l generalizing acc with
 | nil => rw [zEH, zEH]; simp
 | cons c r ih =>
   rw [zCG, zCG, ih, ih (0 * 10 + _), List.length_cons, Nat.pow_succ]
   generalize c.toNat - 48 = d
   generalize 10 ^ r.length = e
   generalize zAc 0 r = v
   rw [Nat.add_mul, Nat.zero_mul, Nat.zero_add, Nat.mul_assoc, Nat.mul_comm 10 e]
   omega
theorem zIq (l : List UInt8) (c : UInt8) (acc : Nat) : zAc acc (l ++ [c]) = zAc acc l * 10 + (c.toNat - 48) := by rw [zFJ, zCG, zEH]
theorem zA7 (u : Nat) : zAc 0 (Lib.decDigits u) = u := by
 induction u using Nat.strongRecOn with
 | _ u ih =>
   rw [Lib.decDigits]
   split
   · rename_i h
     have := (zCT h).2
     rw [zCG, zEH, this]; omega
   · have := (zCT (Nat.mod_lt u (show 0 < 10 by decide))).2
     rw [zIq, ih _ (by omega), this]
     omega
theorem zF4 {l : List UInt8} (h : ∀ c ∈ l, zBF c) : zAc 0 l < 10 ^ l.length := by
 induction l with
 | nil => rw [zEH]; simp
 | cons c r ih =>
   have hc := h c (by simp)
   have i := ih (fun x hx => h x (by simp [hx]))
   unfold zBF at hc
   rw [zCG, zEx, List.length_cons, Nat.pow_succ]
   have : (c.toNat - 48) * 10 ^ r.length ≤ 9 * 10 ^ r.length := Nat.mul_le_mul_right _ (by omega)
   rw [Nat.zero_mul, Nat.zero_add]
   generalize 10 ^ r.length = e at *
   generalize (c.toNat - 48) * e = q at *
   omega
theorem zLb {c : UInt8} {r : List UInt8} (h : zBF c) (h0 : c ≠ 48) : 10 ^ r.length ≤ zAc 0 (c :: r) := by
 unfold zBF at h
 have hc : c.toNat ≠ 48 := fun e => h0 (UInt8.toNat_inj.1 e)
 rw [zCG, zEx]
 have : 1 * 10 ^ r.length ≤ (0 * 10 + (c.toNat - 48)) * 10 ^ r.length := Nat.mul_le_mul_right _ (by omega)
 generalize (0 * 10 + (c.toNat - 48)) * 10 ^ r.length = q at *
 omega
theorem snocInd {α : Type} {p : List α → Prop} (h0 : p []) (h1 : ∀ l x, p l → p (l ++ [x])) : ∀ l, p l := by
 intro l
 have key : ∀ (n : Nat) (l : List α), l.length = n → p l := by
   intro n
   induction n with
   | zero => intro l hl; rw [List.length_eq_zero_iff.1 hl]; exact h0
   | succ n ih =>
     intro l hl
     have hne : l ≠ [] := by intro e; subst e; simp at hl
     rw [← List.dropLast_concat_getLast hne]
     exact h1 _ _ (ih _ (by simp [hl]))
 exact key _ l rfl
/-- A number's text: digits, not empty, and no 0 ahead of others. -/
def zFK (s : List UInt8) : Prop := s ≠ [] ∧ (∀ c ∈ s, zBF c) ∧ (s.getD 0 0 ≠ 48 ∨ s.length = 1)
theorem zDD (u : Nat) : zFK (Lib.decDigits u) := by
 refine ⟨zBZ u, zBH u, ?_⟩
 induction u using Nat.strongRecOn with
 | _ u ih =>
   rw [Lib.decDigits]
   split
   · exact .inr rfl
   · left
     rename_i h
     have hne := zBZ (u / 10)
     rcases ih (u / 10) (by omega) with h1 | h1
     · cases hq : Lib.decDigits (u / 10) with
       | nil => exact absurd hq hne
       | cons c r => rw [hq] at h1; simpa using h1
     · have hlt : u / 10 < 10 := by
         have hl := Lib.decDigits_length (u / 10)
         rw [h1] at hl
         have := Lib.lt_pow_nDigits (u / 10)
         rw [← hl] at this
         simpa using this
       rw [Lib.decDigits_one hlt]
       simp only [List.cons_append, List.getD_cons_zero]
       intro e
       have := congrArg UInt8.toNat e
       rw [(zCT hlt).2] at this
       have : (48 : UInt8).toNat = 48 := rfl
       omega
theorem zDQ {s : List UInt8} (h : zFK s) : Lib.decDigits (zAc 0 s) = s := by
 obtain ⟨h1, h2, h3⟩ := h
 revert h1 h2 h3
 refine snocInd (p := fun s => s ≠ [] → (∀ c ∈ s, zBF c) → (s.getD 0 0 ≠ 48 ∨ s.length = 1) → Lib.decDigits (zAc 0 s) = s) ?_ ?_ s
 · intro h; exact absurd rfl h
 · intro l c ih _ hd h3
   have hc := hd c (by simp)
   have hcv : UInt8.ofNat (48 + (c.toNat - 48)) = c := by
     unfold zBF at hc
     rw [show 48 + (c.toNat - 48) = c.toNat by omega]
     simp
   rw [zIq]
   cases l with
   | nil =>
     rw [zEH, List.nil_append, Nat.zero_mul, Nat.zero_add]
     rw [Lib.decDigits, dif_pos (by unfold zBF at hc; omega), hcv]
   | cons x r =>
     have hx : x ≠ 48 := by
       rcases h3 with h3 | h3
       · simpa using h3
       · simp at h3
     have hxd := hd x (by simp)
     have hge := zLb (r := r) hxd hx
     have hpos : 1 ≤ 10 ^ r.length := Nat.one_le_pow _ _ (by decide)
     have i := ih (by simp) (fun c hc => hd c (by simp at hc ⊢; rcases hc with rfl | hc; exact .inl rfl; exact .inr (.inl hc))) (.inl (by simpa using hx))
     generalize zAc 0 (x :: r) = v at *
     unfold zBF at hc
     rw [Lib.decDigits, dif_neg (by omega)]
     rw [show (v * 10 + (c.toNat - 48)) / 10 = v by omega, show (v * 10 + (c.toNat - 48)) % 10 = c.toNat - 48 by omega, i, hcv]
theorem zD8 {a b : Nat} (h : Lib.decDigits a = Lib.decDigits b) : a = b := by rw [← zA7 a, ← zA7 b, h]
/-- How long a text is. -/
theorem zCs {n k : Nat} (hk : 1 ≤ k) (h : n < 10 ^ k) : (Lib.decDigits n).length ≤ k := by
 have hl := Lib.decDigits_length n
 rcases Nat.lt_or_ge k (Lib.decDigits n).length with hlt | hge
 · exfalso
   have hc := zDD n
   have hv := zA7 n
   cases hq : Lib.decDigits n with
   | nil => exact zBZ n hq
   | cons c r =>
     rw [hq] at hc hv hlt
     simp only [List.length_cons] at hlt
     have hne : c ≠ 48 := by
       rcases hc.2.2 with h | h
       · simpa using h
       · simp at h; subst h; simp at hlt; omega
     have := zLb (r := r) (hc.2.1 c (by simp)) hne
     rw [hv] at this
     have : 10 ^ k ≤ 10 ^ r.length := Nat.pow_le_pow_right (by decide) (by omega)
     omega
 · exact hge
theorem zDK (n : Nat) : n < 10 ^ (Lib.decDigits n).length := by
 have := zF4 (zBH n)
 rwa [zA7] at this
/-- Nine digits behind the others. -/
def pad (k m : Nat) : List UInt8 := List.replicate (k - (Lib.decDigits m).length) 48 ++ Lib.decDigits m
theorem zLD (k : Nat) (l : List UInt8) : zAc 0 (List.replicate k 48 ++ l) = zAc 0 l := by
 induction k with
 | zero => rfl
 | succ k ih => rw [List.replicate_succ, List.cons_append, zCG]; exact ih
theorem pad_len {k m : Nat} (hk : 1 ≤ k) (h : m < 10 ^ k) : (pad k m).length = k := by
 have := zCs hk h
 unfold pad; simp; omega
theorem zL3 (k m : Nat) : ∀ c ∈ pad k m, zBF c := by
 intro c hc
 unfold pad at hc
 rcases List.mem_append.1 hc with h | h
 · rw [(List.mem_replicate.1 h).2]; exact ⟨by decide, by decide⟩
 · exact zBH m c h
theorem zJE {n k : Nat} (hk : 1 ≤ k) (h : 10 ^ k ≤ n) : Lib.decDigits n = Lib.decDigits (n / 10 ^ k) ++ pad k (n % 10 ^ k) := by
 have hp : 0 < 10 ^ k := Nat.pow_pos (by decide)
 have hm := Nat.mod_lt n hp
 have hd : n / 10 ^ k ≠ 0 := by have := Nat.div_pos h hp; omega
 have hc := zDD (n / 10 ^ k)
 have hcan : zFK (Lib.decDigits (n / 10 ^ k) ++ pad k (n % 10 ^ k)) := by
   refine ⟨by simp [hc.1], fun c hcm => ?_, .inl ?_⟩
   · rcases List.mem_append.1 hcm with h | h
     · exact hc.2.1 c h
     · exact zL3 _ _ c h
   · cases hq : Lib.decDigits (n / 10 ^ k) with
     | nil => exact absurd hq hc.1
     | cons c r =>
       rw [hq] at hc
       simp only [List.cons_append, List.getD_cons_zero]
       rcases hc.2.2 with h | h
       · simpa using h
       · simp only [List.length_cons, Nat.add_eq_right, List.length_eq_zero_iff] at h
         subst h
         intro e
         subst e
         have := zA7 (n / 10 ^ k)
         rw [hq] at this
         exact hd (this.symm.trans (by decide))
 have hv : zAc 0 (Lib.decDigits (n / 10 ^ k) ++ pad k (n % 10 ^ k)) = n := by
   rw [zFJ, zA7, zEx, pad_len hk hm]
   have : zAc 0 (pad k (n % 10 ^ k)) = n % 10 ^ k := by unfold pad; rw [zLD, zA7]
   rw [this, Nat.mul_comm]
   exact Nat.div_add_mod n _
 have := zDQ hcan
 rw [hv] at this
 exact this
end Go.Ax.Bg
namespace Go.Ax
variable [Pins]
open Go.RowKit
section
variable {P : Program} {fn : Func} {c : Ctx} {fr : Fr} {H H0 : zg} {k : List It} {M : M}
/-- Whatever order came before: one rest, over what is known then. -/
theorem zCI {all : Array Oper} {fuel : Nat} {listed : Array Bool} (L : Fr) (h1 : (∀ fr, zB8 fr L → Ax P fn c (.any all fuel listed k) fr H) → Ax P fn c M fr H0) (h2 : Ax P fn c (.any all fuel listed k) L H) : Ax P fn c M fr H0 :=
 h1 (fun _ hk w a σ S hr => h2 w a σ S (hr.weaken hk))
theorem zAu {x : Code} (L : Fr) (h1 : (∀ fr, zB8 fr L → Ax P fn c (.code x k) fr H) → Ax P fn c M fr H0) (h2 : Ax P fn c (.code x k) L H) : Ax P fn c M fr H0 :=
 h1 (fun _ hk w a σ S hr => h2 w a σ S (hr.weaken hk))
end
theorem zJg {HF : zg} {fr : Fr} : ∀ {L : Fr}, zB8 fr L → fzk HF fr L
 | [], _ => have _pin := (inferInstance : Pins); trivial
 | (t, v) :: r, h => ⟨⟨v, h.1, .inl rfl⟩, zJg h.2⟩
theorem zLT (t : Nat) (v : AV) (L : Fr) : zAt t ((t, v) :: L) = some v := by
 have _pin := (inferInstance : Pins)
 show (bif Nat.beq t t then some v else _) = _
 rw [Nat.beq_refl]; rfl
end Go.Ax
namespace Go.Ax
variable [Pins]
open Go.RowKit
def sclEq (P : Program) (t : TypeId) (x y : AV) : Option Bool := match P.underlying t, x, y with
 | some (.int _), .int k a, .int k' b => if k = k' then some (decide (a = b)) else none
 | some .string, .str a, .str b => some (decide (a = b))
 | some .bool, .bool a, .bool b => some (a == b)
 | _, _, _ => none
def eqFs (P : Program) (L M : List AV) : List Field → Option Bool
 | [] => some true
 | f :: fs => match eqFs P L M fs, L[f.offset]?, M[f.offset]? with
   | some r, some x, some y => (sclEq P f.type x y).map (· && r)
   | _, _, _ => none
theorem zIr {P : Program} {w w' : World} {S : Nat → Prop} {σ : Nat → Option Blk} {t : TypeId} {x y : AV} {b : Bool} {v v' : Value} (h : sclEq P t x y = some b) (hv : VR w S σ x v) (hv' : VR w S σ y v') (d : Nat) :
   P.plainKey t = true ∧ (Op.equalIn (d + 1) t v v').run P w' = .ok b w' := by
 unfold sclEq at h
 split at h
 · rename_i hu
   split at h
   · rename_i hk
     subst hk
     simp only [Option.some.injEq] at h
     subst h
     cases hv; cases hv'
     refine ⟨by simp [Program.plainKey, hu], ?_⟩
     rw [run_equalIn_int w' d t _ _ _ _ hu]; rfl
   · cases h
 · rename_i hu
   simp only [Option.some.injEq] at h
   subst h
   cases hv; cases hv'
   refine ⟨by simp [Program.plainKey, hu], ?_⟩
   simp only [zFd]
   rw [run_equalIn_string w' d t _ _ hu, zGl, zGl]
   congr 1
   rw [Bool.eq_iff_iff]; simp
 · rename_i hu
   simp only [Option.some.injEq] at h
   subst h
   cases hv; cases hv'
   exact ⟨by simp [Program.plainKey, hu], run_equalIn_bool' w' d t _ _ hu⟩
 · cases h
theorem zHB {w : World} {S : Nat → Prop} {σ : Nat → Option Blk} {L : List AV} {vs : Array Value} (hl : vs.size = L.length) (hv : ∀ i, i < L.length → VR w S σ (L.getD i .any) (vs.getD i undef)) {o : Nat} {x : AV} (h : L[o]? = some x) : ∃ v, vs[o]? = some v ∧ VR w S σ x v := by
 have _pin := (inferInstance : Pins)
 have hlt : o < L.length := (List.getElem?_eq_some_iff.1 h).1
 have h3 := hv o hlt
 have e : L.getD o .any = x := by simp [List.getD, h]
 rw [e] at h3
 exact ⟨_, by simp [Array.getD, hl, hlt], h3⟩
theorem zKO {P : Program} {w w' : World} {S : Nat → Prop} {σ : Nat → Option Blk} {L M : List AV} {xs ys : Array Value} {d : Nat} (h1 : xs.size = L.length) (h2 : ∀ i, i < L.length → VR w S σ (L.getD i .any) (xs.getD i undef)) (h3 : ys.size = M.length) (h4 : ∀ i, i < M.length → VR w S σ (M.getD i .any) (ys.getD i undef)) :
   ∀ (fs : List Field) (b : Bool), (fs.all fun f => f.name != "_") = true → eqFs P L M fs = some b → (Op.eqFields (d + 1) xs ys fs).run P w' = .ok b w'
 | [], b, _, h => by simp [eqFs] at h; subst h; simp [Op.eqFields]
 | f :: fs, b, hn, h => by
   simp only [List.all_cons, Bool.and_eq_true] at hn
   have hne : f.name ≠ "_" := by simpa using hn.1
   simp only [eqFs] at h
   split at h
   · rename_i r x y hr hL hM
     have ih := zKO (d := d) (w' := w') h1 h2 h3 h4 fs r hn.2 hr
     obtain ⟨v1, e1, r1⟩ := zHB h1 h2 hL
     obtain ⟨v2, e2, r2⟩ := zHB h3 h4 hM
     obtain ⟨q, hq, hb⟩ := Option.map_eq_some_iff.1 h
     obtain ⟨hp, hrun⟩ := zIr (w' := w') hq r1 r2 d
     simp only [Op.eqFields, hne, ne_eq, not_false_eq_true, if_true]
     simp only [Sem.run_bind, run_part_plain w' hp e1, Result.andThen_ok, run_part_plain w' hp e2, hrun]
     subst hb
     cases q with
     | false => simp
     | true => simpa using ih
   · cases h
section
variable {P : Program} {fn : Func} {c : Ctx} {fr : Fr} {H : zg} {k : List It} {ind : Bool} {d : Option Nat} {ty : TypeId} {pos : String} {after : Array Edge} {g : Option (Nat × Bool)}
theorem zJU {x y : Operand} {t t' : TypeId} {fs : Array Field} {L M : List AV} {b : Bool} (hx : ev fr x = some (.agg L)) (hy : ev fr y = some (.agg M)) (ht : P.underlying t = some (.struct fs)) (hp : P.stoodInHeld t = false) (hg : P.eqGuardType P.depth t = false) (hn : (fs.toList.all fun f => f.name != "_") = true)
   (he : eqFs P L M fs.toList = some b) : QOp ind P fn c fr H ⟨d, .binOp .neq t x y t', ty, pos, after, g⟩ (.bool (!b)) := by
 intro w a σ S hr
 have h1 := hr.evAt hx
 have h2 := hr.evAt hy
 generalize hz : a.eval x = z at h1
 generalize hzy : a.eval y = zy at h2
 have hfo : P.fieldsOf t = fs := by simp [Program.fieldsOf, ht]
 cases h1 with
 | agg _ _ xs a1 a2 a3 =>
   cases h2 with
   | agg _ _ ys b1 b2 b3 =>
     refine ⟨_, .bool _ _, fun w' _ => ?_⟩
     have hr := zKO (d := 9998) (w' := w') a1 a2 b1 b2 fs.toList b hn he
     simp only [execOp, hz, hzy, Sem.run_bind, run_eqGuard_agg w' _ _ _ _ _ _ hg, Result.andThen_ok, run_neq_struct, show (10000 : Nat) = 9999 + 1 from rfl, run_equalIn_agg w' 9999 t _ _ (by rw [hfo]; exact ht) hp, hfo, hr]
     rfl
/-- An error against nil. -/
def nilIf : AV → Option Bool
 | .iface => some false
 | .nilif => some true
 | _ => none
end
end Go.Ax
namespace Go.Ax
variable [Pins]
open Go.RowKit
/-- A kind without sign holds the zAm below M. -/
def UK (k : IntKind) (M : Nat) : Prop := ∀ n : Int, k.wrap n = n % (M : Int)
theorem zA2 : UK .u64 18446744073709551616 := have _pin := (inferInstance : Pins); fun n => IntKind.wrap_u64 n
theorem zDm : UK .u32 4294967296 := have _pin := (inferInstance : Pins); fun n => IntKind.wrap_u32 n
theorem UK.in {k : IntKind} {M : Nat} (h : UK k M) {m : Nat} (hm : m < M) : k.wrap (m : Int) = (m : Int) := by have _pin := (inferInstance : Pins); rw [h]; exact Int.emod_eq_of_lt (by omega) (by omega)
theorem UK.low {k : IntKind} {M : Nat} (h : UK k M) (m : Nat) : k.wrap (m : Int) = ((m % M : Nat) : Int) := by have _pin := (inferInstance : Pins); rw [h]; simp
section
variable {P : Program} {fn : Func} {c : Ctx} {fr : Fr} {H : zg} {k : List It} {ind : Bool} {d : Option Nat} {ty : TypeId} {pos : String} {after : Array Edge} {g : Option (Nat × Bool)}
/-- What it yields, told otherwise. -/
theorem QOp.res {o : Oper} {v v' : AV} (h : QOp ind P fn c fr H o v) (e : v = v') : QOp ind P fn c fr H o v' := e ▸ h
theorem zAX {x : Operand} {src dst : TypeId} {kk k' : IntKind} {u : TypeDesc} {m M : Nat} (hs : P.underlying src = some u) (hd : P.underlying dst = some (.int k')) (hx : ev fr x = some (.int kk (m : Nat))) (hk : UK k' M) (hm : m < M) :
   QOp ind P fn c fr H ⟨d, .convert src dst x, ty, pos, after, g⟩ (.int k' (m : Nat)) := (zHY hs hd hx).res (congrArg (AV.int k') (hk.in hm))
theorem zEc {x : Operand} {src dst : TypeId} {kk k' : IntKind} {u : TypeDesc} {m M : Nat} (hs : P.underlying src = some u) (hd : P.underlying dst = some (.int k')) (hx : ev fr x = some (.int kk (m : Nat))) (hk : UK k' M) :
   QOp ind P fn c fr H ⟨d, .convert src dst x, ty, pos, after, g⟩ (.int k' (m % M : Nat)) := (zHY hs hd hx).res (congrArg (AV.int k') (hk.low m))
theorem zET {x y : Operand} {t t' : TypeId} {k k' : IntKind} {m s : Nat} (hx : ev fr x = some (.int k (m : Nat))) (hy : ev fr y = some (.int k' (s : Nat))) (hb : Nat.ble s k.bits = true) :
   QOp ind P fn c fr H ⟨d, .binOp .shr t x y t', ty, pos, after, g⟩ (.int k (m / 2 ^ s : Nat)) := by
 refine (q_shr hx hy (by omega)).res (congrArg (AV.int k) ?_)
 have hs : s ≤ k.bits := Nat.le_of_ble_eq_true hb
 unfold shrB
 rw [Int.toNat_natCast, Nat.min_eq_left hs, Int.fdiv_eq_ediv_of_nonneg _ (Int.pow_nonneg (by decide))]
 simp
theorem zHz {x y : Operand} {t t' : TypeId} {k k' : IntKind} {m s M : Nat} (hx : ev fr x = some (.int k (m : Nat))) (hy : ev fr y = some (.int k' (s : Nat))) (hb : s ≤ k.bits) (hk : UK k M) (hm : m * 2 ^ s < M) :
   QOp ind P fn c fr H ⟨d, .binOp .shl t x y t', ty, pos, after, g⟩ (.int k (m * 2 ^ s : Nat)) := by
 refine (q_shl hx hy (by omega)).res (congrArg (AV.int k) ?_)
 unfold shlB
 rw [Int.toNat_natCast, Nat.min_eq_left hb]
 have : ((m : Int) * 2 ^ s) = ((m * 2 ^ s : Nat) : Int) := by simp
 rw [this]; exact hk.in hm
theorem bvu {k : IntKind} {M : Nat} (hk : UK k M) (hM : M = 2 ^ k.bits) {m : Nat} (hm : m < M) : (BitVec.ofInt k.bits (m : Int)).toNat = m := by
 have _pin := (inferInstance : Pins)
 subst hM
 simp [BitVec.toNat_ofInt, Nat.mod_eq_of_lt hm]
theorem zJc {x y : Operand} {t t' : TypeId} {k : IntKind} {m n M : Nat} (hx : ev fr x = some (.int k (m : Nat))) (hy : ev fr y = some (.int k (n : Nat))) (hk : UK k M) (hM : M = 2 ^ k.bits) (hm : m < M) (hn : n < M) :
   QOp ind P fn c fr H ⟨d, .binOp .or t x y t', ty, pos, after, g⟩ (.int k (m ||| n : Nat)) := by
 refine (q_or hx hy).res (congrArg (AV.int k) ?_)
 unfold orB
 rw [BitVec.toNat_or, bvu hk hM hm, bvu hk hM hn]
 exact hk.in (by subst hM; exact Nat.or_lt_two_pow hm hn)
theorem q_uand {x y : Operand} {t t' : TypeId} {k : IntKind} {m n M : Nat} (hx : ev fr x = some (.int k (m : Nat))) (hy : ev fr y = some (.int k (n : Nat))) (hk : UK k M) (hM : M = 2 ^ k.bits) (hm : m < M) (hn : n < M) :
   QOp ind P fn c fr H ⟨d, .binOp .and t x y t', ty, pos, after, g⟩ (.int k (m &&& n : Nat)) := by
 refine (q_and hx hy).res (congrArg (AV.int k) ?_)
 unfold andB
 rw [BitVec.toNat_and, bvu hk hM hm, bvu hk hM hn]
 exact hk.in (by subst hM; exact Nat.and_lt_two_pow m hn)
theorem zD4 {x y : Operand} {t t' : TypeId} {k : IntKind} {m n M : Nat} (hx : ev fr x = some (.int k (m : Nat))) (hy : ev fr y = some (.int k (n : Nat))) (hk : UK k M) (hm : m + n < M) :
   QOp ind P fn c fr H ⟨d, .binOp .add t x y t', ty, pos, after, g⟩ (.int k (m + n : Nat)) := by
 refine (zJG hx hy rfl).res (congrArg (AV.int k) ?_)
 have : (m : Int) + (n : Int) = ((m + n : Nat) : Int) := by simp
 rw [this]; exact hk.in hm
theorem zGW {x y : Operand} {t t' : TypeId} {k : IntKind} {m n M : Nat} (hx : ev fr x = some (.int k (m : Nat))) (hy : ev fr y = some (.int k (n : Nat))) (hk : UK k M) (hm : m * n < M) :
   QOp ind P fn c fr H ⟨d, .binOp .mul t x y t', ty, pos, after, g⟩ (.int k (m * n : Nat)) := by
 refine (zJG hx hy rfl).res (congrArg (AV.int k) ?_)
 have : (m : Int) * (n : Int) = ((m * n : Nat) : Int) := by simp
 rw [this]; exact hk.in hm
theorem zKk {x y : Operand} {t t' : TypeId} {k : IntKind} {m n M : Nat} (hx : ev fr x = some (.int k (m : Nat))) (hy : ev fr y = some (.int k (n : Nat))) (hk : UK k M) (hm : m < M) (hn : n ≤ m) :
   QOp ind P fn c fr H ⟨d, .binOp .sub t x y t', ty, pos, after, g⟩ (.int k (m - n : Nat)) := by
 refine (zJG hx hy rfl).res (congrArg (AV.int k) ?_)
 have : (m : Int) - (n : Int) = ((m - n : Nat) : Int) := by omega
 rw [this]; exact hk.in (by omega)
theorem q_urem {x y : Operand} {t t' : TypeId} {k : IntKind} {m n : Nat} (hx : ev fr x = some (.int k (m : Nat))) (hy : ev fr y = some (.int k (n : Nat))) (hn : 0 < n) :
   QOp ind P fn c fr H ⟨d, .binOp .rem t x y t', ty, pos, after, g⟩ (.int k (m % n : Nat)) :=
 (q_rem hx hy ⟨by omega, by omega⟩).res (congrArg (AV.int k) (by simp))
theorem q_uquo {x y : Operand} {t t' : TypeId} {k : IntKind} {m n M : Nat} (hx : ev fr x = some (.int k (m : Nat))) (hy : ev fr y = some (.int k (n : Nat))) (hk : UK k M) (hm : m < M) (hn : 0 < n) :
   QOp ind P fn c fr H ⟨d, .binOp .quo t x y t', ty, pos, after, g⟩ (.int k (m / n : Nat)) := by
 refine (q_quok hx hy (by omega)).res (congrArg (AV.int k) ?_)
 have : (m : Int).tdiv (n : Int) = ((m / n : Nat) : Int) := by simp
 rw [this]; exact hk.in (Nat.lt_of_le_of_lt (Nat.div_le_self _ _) hm)
end
end Go.Ax
namespace Go.Ax
variable [Pins]
open Go.RowKit
section
variable {P : Program} {fn : Func} {c : Ctx} {fr : Fr} {H : zg} {k : List It}
end
end Go.Ax
namespace Go.Ax
variable [Pins]
open Go.RowKit
section
variable {P : Program} {fn : Func} {c : Ctx} {fr : Fr} {H : zg} {k : List It}
end
end Go.Ax
namespace Go.Ax
variable [Pins]
open Go.RowKit
section
variable {ind : Bool} {P : Program} {fn : Func} {c : Ctx} {fr : Fr} {H : zg} {k : List It} {d : Option Nat} {ty : TypeId} {pos : String} {after : Array Edge} {g : Option (Nat × Bool)}
end
end Go.Ax
namespace Go.Ax
variable [Pins]
open Go.RowKit
section
variable {P : Program} {fn : Func} {c : Ctx} {fr : Fr} {H : zg} {k : List It}
theorem give_sub {h : Nat} {o : AObj} (hh : H[h]? = some (some o)) : subH (List.replicate h none ++ [some o]) H := by
 have _pin := (inferInstance : Pins)
 intro h' o' ho
 rcases Nat.lt_trichotomy h' h with q | q | q
 · rw [List.getElem?_append_left (by simpa using q)] at ho
   simp [List.getElem?_replicate, q] at ho
 · subst q
   rw [List.getElem?_append_right (by simp)] at ho
   simp at ho; subst ho; exact hh
 · rw [List.getElem?_eq_none (by simp; omega)] at ho; cases ho
theorem zMF {h : Nat} {o : AObj} (hrl : zAO o.c) : ∀ (h' : Nat) (o' : AObj), (List.replicate h none ++ [some o] : zg)[h']? = some (some o') → zAO o'.c := by
 have _pin := (inferInstance : Pins)
 intro h' o' ho
 have hm := List.mem_of_getElem? ho
 rcases List.mem_append.1 hm with q | q
 · have := (List.mem_replicate.1 q).2; cases this
 · simp at q; subst q; exact hrl
theorem zLV {h : Nat} {o : AObj} : (List.replicate h none ++ [some o] : zg)[h]? = some (some o) := by
 have _pin := (inferInstance : Pins)
 rw [List.getElem?_append_right (by simp)]; simp
theorem Rep.give {w : World} {a : Act} {σ : Nat → Option Blk} {S : Nat → Prop} {N : Nat} (hr : Rep c w a σ S N fr H) (h t n : Nat) {o : AObj} (L : Fr) (hh : H[h]? = some (some o)) (hrl : zAO o.c) (hl : zAt t fr = some (.sl h 0 n)) (hn : n ≤ o.c.len) (hL : zB8 fr L) :
   ∃ S', Rep c w a σ S' N ((t, .ro o.c 0 n) :: L) (H.set h none) := by
 have hlt : h < H.length := (List.getElem?_eq_some_iff.1 hh).1
 refine hr.freeze (List.replicate h none ++ [some o]) (H.set h none) (give_sub hh) (zMF hrl) (by simp) ?_ ⟨⟨_, hl, .inr (.inr ⟨?_, ?_⟩)⟩, zJg hL⟩
 · intro h' o' ho
   have hne : h' ≠ h := by
     rintro rfl
     rw [List.getElem?_set_self hlt] at ho; cases ho
   rw [List.getElem?_set_ne (Ne.symm hne)] at ho
   refine ⟨fun o2 h2 => ?_, o', ho, rfl, rfl, rfl, fun i j _ _ => .inl rfl⟩
   rcases Nat.lt_or_ge h' h with q | q
   · rw [List.getElem?_append_left (by simpa using q)] at h2
     simp [List.getElem?_replicate, q] at h2
   · rw [List.getElem?_eq_none (by simp; omega)] at h2; cases h2
 · simp only [AV.frz, zLV]
 · intro o2 h2
   rw [zLV] at h2
   cases h2
   omega
/-- A row of one's own is only read from now on. -/
theorem zCZ {all : Array Oper} {rest : List Oper} (h t n : Nat) {o : AObj} (L : Fr) (hh : H[h]? = some (some o)) (hrl : zAO o.c) (hl : zAt t fr = some (.sl h 0 n)) (hn : n ≤ o.c.len) (hL : zB8 fr L)
   (hk : Ax P fn c (.ops false all rest k) ((t, .ro o.c 0 n) :: L) (H.set h none)) : Ax P fn c (.ops false all rest k) fr H := by
 intro hd w a σ S hr
 obtain ⟨S', hr'⟩ := hr.give h t n L hh hrl hl hn hL
 exact hk hd w a σ S' hr'
theorem zA4 {x : Code} (h t n : Nat) {o : AObj} (L : Fr) (hh : H[h]? = some (some o)) (hrl : zAO o.c) (hl : zAt t fr = some (.sl h 0 n)) (hn : n ≤ o.c.len) (hL : zB8 fr L)
   (hk : Ax P fn c (.code x k) ((t, .ro o.c 0 n) :: L) (H.set h none)) : Ax P fn c (.code x k) fr H := by
 intro w a σ S hr
 obtain ⟨S', hr'⟩ := hr.give h t n L hh hrl hl hn hL
 exact hk w a σ S' hr'
theorem zAx {q : Bool} {all : Array Oper} {rest : List Oper} (H' : zg) (he : H = H') (hk : Ax P fn c (.ops q all rest k) fr H') : Ax P fn c (.ops q all rest k) fr H := by
 subst he; exact hk
variable {ind : Bool} {d : Option Nat} {ty : TypeId} {pos : String} {after : Array Edge} {g : Option (Nat × Bool)}
theorem zEE {op : BinOp} {t : TypeId} {x y : Operand} {a b : Bool} {w : World} : (eqGuard op t x y (.bool a) (.bool b)).run P w = .ok () w := by
 have _pin := (inferInstance : Pins)
 unfold eqGuard
 split <;> rfl
theorem zIn {x y : Operand} {t t' : TypeId} {a b : Bool} (ht : P.underlying t = some .bool) (hx : ev fr x = some (.bool a)) (hy : ev fr y = some (.bool b)) : QOp ind P fn c fr H ⟨d, .binOp .neq t x y t', ty, pos, after, g⟩ (.bool (!(a == b))) := by
 intro w ac σ S hr
 refine ⟨_, .bool _ _, fun w' _ => ?_⟩
 have h1 := hr.evBool hx
 have h2 := hr.evBool hy
 have h3 := run_neq_bool (P := P) w' t a b ht
 simp [execOp, h1, h2, zEE, h3]
 try (cases a <;> cases b <;> rfl)
theorem zHN {x y : Operand} {t t' : TypeId} {a b : Bool} (ht : P.underlying t = some .bool) (hx : ev fr x = some (.bool a)) (hy : ev fr y = some (.bool b)) : QOp ind P fn c fr H ⟨d, .binOp .eql t x y t', ty, pos, after, g⟩ (.bool (a == b)) := by
 intro w ac σ S hr
 refine ⟨_, .bool _ _, fun w' _ => ?_⟩
 have h1 := hr.evBool hx
 have h2 := hr.evBool hy
 have h3 := run_eql_bool (P := P) w' t a b ht
 simp [execOp, h1, h2, zEE, h3]
/-- Bits pushed out on the left are lost. -/
theorem zLL {x y : Operand} {t t' : TypeId} {kk k' : IntKind} {m s M : Nat} (hx : ev fr x = some (.int kk (m : Nat))) (hy : ev fr y = some (.int k' (s : Nat))) (hb : s ≤ kk.bits) (hk : UK kk M) :
   QOp ind P fn c fr H ⟨d, .binOp .shl t x y t', ty, pos, after, g⟩ (.int kk (m * 2 ^ s % M : Nat)) := by
 refine (q_shl hx hy (by omega)).res (congrArg (AV.int kk) ?_)
 unfold shlB
 rw [Int.toNat_natCast, Nat.min_eq_left hb]
 have : ((m : Int) * 2 ^ s) = ((m * 2 ^ s : Nat) : Int) := by simp
 rw [this]; exact hk.low _
end
end Go.Ax
namespace Go.Ax
open Go.Ax.Bg
variable [Pins]
def zEh (l : List Int) : AV := .ro (.ints .u32 l) 0 l.length
def zAL (n : Nat) : AV := .ro (.ints .u32 (zh n)) 0 (zh n).length
/-- Limbs cut at their true length are the number's. -/
theorem AEq.lim {l : List Int} {k n : Nat} (h : l.take k = zh n) (hk : k ≤ l.length) : AEq (.ro (.ints .u32 l) 0 k) (zAL n) := by
 have hl : (zh n).length = k := by rw [← h, List.length_take, Nat.min_eq_left hk]
 refine AEq.trans AEq.take ?_
 rw [h]
 unfold zAL
 rw [hl]
 exact AEq.rfl'
theorem AEq.natNil : AEq .nil (zAL 0) := by
 have : zAL 0 = .ro (.ints .u32 []) 0 0 := by unfold zAL; rw [zBK]; rfl
 rw [this]
 exact AEq.nil
theorem zBc {n : Nat} : 0 < (zh n).length ↔ n ≠ 0 := by
 have _pin := (inferInstance : Pins)
 constructor
 · rintro h rfl; rw [zBK] at h; simp at h
 · intro h; rcases Nat.eq_zero_or_pos (zh n).length with q | q
   · exact absurd (natL_nil.1 (List.length_eq_zero_iff.1 q)) h
   · exact q
end Go.Ax
namespace Go.Proofs.YtgmleamhjnlknaaGreatDoor
open Go.Ax Go.Ax.Bg Go.RowKit
attribute [local irreducible] Ax zAV QOp zV
set_option maxRecDepth 100000
set_option maxHeartbeats 4000000
theorem norm_raw (l : List Int) (hl : Lim l) (hlen : l.length ≤ 1000000000) : zk Tryz.prog 156 [.ro (.ints .u32 l) 0 l.length] (.ro (.ints .u32 l) 0 (zh (zm l)).length) := by
 refine zV.value0 (zN (P := Tryz.prog) (fn := Tryz.f156) rfl rfl (by kernel_rfl) rfl (fun c hR hfix => ?_)) (fix := fun _ => False) (fun _ h => h) rfl rfl
 repeat (first | refine zD (zE rfl) ?_ | refine zB ?_ | refine zA ?_ | refine zG ?_ | refine zC rfl ?_ | refine zT ?_)
 refine zAC (ι := Nat) (fun k => [(0, .ro (.ints .u32 l) 0 k)]) (fun _ => []) (fun k => k ≤ l.length ∧ ∀ i, k ≤ i → i < l.length → l.getD i 0 = 0) (fun k => k) l.length ⟨⟨rfl, trivial⟩, rfl, Nat.le_refl _, fun i h1 h2 => by omega⟩ ?_
 rintro k ⟨hk, hz⟩
 have fin : (k = 0 ∨ l.getD (k - 1) 0 ≠ 0) → (zh (zm l)).length = k := fun h => by
   rw [← zMG hl hk hz h, List.length_take, Nat.min_eq_left hk]
 repeat (first | refine zD (zF rfl) ?_ | refine zG ?_ | refine zC rfl ?_ | refine zD (zBU rfl rfl) ?_ | refine zD (zw rfl rfl rfl) ?_)
 refine zAH rfl rfl (fun h0 => ?_) (fun h0 => ?_)
 · have hk1 : 0 < k := by omega
   have e1 : ((k : Int) - 1).toNat = k - 1 := by omega
   repeat (first | refine zD (zF rfl) ?_ | refine zD (z6 rfl rfl rfl) ?_ | refine zB ?_ | refine zA ?_ | refine zj rfl rfl ?_ | refine zD (zA0 rfl rfl) ?_ | refine zD (zr rfl rfl) ?_ | refine zD (zw rfl rfl rfl) ?_ | refine zD (zBa rfl rfl (by omega)) ?_ | refine zD (zY rfl rfl rfl rfl (by first | (simp only [Nat.zero_add, Int.toNat_natCast, Int.toNat_zero]; exact rfl) | exact rfl) (by omega)) ?_)
   refine zK rfl (fun h1 => ?_) (fun h1 => ?_)
   · rw [e1] at h1
     repeat (first | refine zD (zF rfl) ?_ | refine zD (zE rfl) ?_ | refine zB ?_ | refine zA ?_ | refine zC rfl ?_ | refine zZ ?_ | refine zT ?_ | refine zP ?_ | refine zD (zw rfl rfl rfl) ?_ | refine zD (zBa rfl rfl (by omega)) ?_ | refine zD (zHJ rfl rfl rfl rfl rfl rfl rfl (by omega)) ?_)
     refine zd ⟨k - 1, ⟨by omega, fun i h2 h3 => ?_⟩, by omega, ⟨?_, trivial⟩, rfl⟩
     · by_cases h4 : i = k - 1
       · subst h4; exact h1
       · exact hz i (by omega) h3
     · show some (AV.ro (.ints .u32 l) (0 + 0) _) = _
       congr 2
       omega
   · rw [e1] at h1
     repeat (first | refine zD (zF rfl) ?_ | refine zD (zE rfl) ?_ | refine zB ?_ | refine zA ?_ | refine zG ?_ | refine zC rfl ?_ | refine zx ?_ | refine zW ?_ | refine zX ?_ | refine zi ?_ | refine zH ?_)
     exact zR hR rfl (by rw [fin (.inr h1)]; rfl)
 · repeat (first | refine zD (zF rfl) ?_ | refine zD (zE rfl) ?_ | refine zB ?_ | refine zA ?_ | refine zG ?_ | refine zC rfl ?_ | refine zp rfl rfl rfl ?_ | refine ze rfl ?_ | refine zx ?_ | refine zW ?_ | refine zX ?_ | refine zi ?_ | refine zH ?_ | refine zD (zr rfl rfl) ?_)
   exact zR hR rfl (by rw [fin (.inl (by omega))]; rfl)
theorem zCw (l : List Int) (hl : Lim l) (hlen : l.length ≤ 1000000000) : zk Tryz.prog 156 [zEh l] (zAL (zm l)) := by
 refine zk.res (norm_raw l hl hlen) ?_
 exact AEq.lim (zMk hl) (zAj (zAp hl))
end Go.Proofs.YtgmleamhjnlknaaGreatDoor
namespace Go.Proofs.YtgmleamhjnlknaaGreatDoor
open Go.Ax Go.Ax.Bg Go.RowKit
attribute [local irreducible] Ax zAV QOp zV
set_option maxRecDepth 100000
set_option maxHeartbeats 4000000
theorem zH0 (m : Nat) (hm : m < 18446744073709551616) : zk Tryz.prog 100 [.int .u64 (m : Nat)] (zAL m) := by
 have hc := zCw [((m % 4294967296 : Nat) : Int), ((m / 2 ^ 32 % 4294967296 : Nat) : Int)] (by
   rw [Lim.cons]; exact ⟨zCu m, Lim.one (zCu _)⟩) (by simp)
 have hv : zm [((m % 4294967296 : Nat) : Int), ((m / 2 ^ 32 % 4294967296 : Nat) : Int)] = m := by
   simp only [zm, Int.toNat_natCast]
   unfold B
   omega
 rw [hv] at hc
 refine zV.value0 (zN (P := Tryz.prog) (fn := Tryz.f100) rfl rfl (by kernel_rfl) rfl (fun c hR hfix => ?_)) (fix := fun _ => False) (fun _ h => h) rfl rfl
 repeat (first | refine zD (zF rfl) ?_ | refine zD (zE rfl) ?_ | refine zB ?_ | refine zA ?_ | refine zG ?_ | refine zC rfl ?_)
 refine zD (zEc (m := m) rfl rfl rfl zDm) ?_
 repeat (refine zD (zF rfl) ?_)
 refine zD (zET (m := m) (s := 32) rfl rfl rfl) ?_
 refine zD (zEc rfl rfl rfl zDm) ?_
 repeat (refine zS rfl rfl rfl rfl rfl rfl rfl rfl rfl rfl rfl ?_)
 refine zM rfl rfl rfl hc ?_
 repeat (first | refine zD (zE rfl) ?_ | refine zB ?_ | refine zA ?_ | refine zH ?_)
 exact zR hR rfl rfl
theorem zIx {a b c : Nat} (ha : a < 4294967296) (hb : b < 4294967296) (hc : c < 4294967296) : a * b < 18446744073709551616 ∧ c + a * b < 18446744073709551616 := by
 have : a * b ≤ 4294967295 * 4294967295 := Nat.mul_le_mul (by omega) (by omega)
 omega
theorem zMP (n : List Int) (x y : Nat) (hn : Lim n) (hlen : n.length ≤ 100000000) (hx : x < 4294967296) (hy : y < 4294967296) :
   zk Tryz.prog 184 [zEh n, .int .u32 (x : Nat), .int .u32 (y : Nat)] (zAL (zm n * x + y)) := by
 refine zV.value0 (zN (P := Tryz.prog) (fn := Tryz.f184) rfl rfl (by kernel_rfl) rfl (fun c hR hfix => ?_)) (fix := fun _ => False) (fun _ h => h) rfl rfl
 repeat (first | refine zD (zF rfl) ?_ | refine zD (zE rfl) ?_ | refine zB ?_ | refine zA ?_ | refine zG ?_ | refine zC rfl ?_ | refine zD (zw rfl rfl rfl) ?_ | refine zD (zAK rfl rfl (by omega)) ?_)
 refine zCS rfl rfl rfl rfl rfl rfl rfl rfl (by show (0 : Int) ≤ 0 ∧ _ ≤ _ ∧ (4 : Int) * _ ≤ _ ∧ _; omega) ?_
 repeat (first | refine zD (zF rfl) ?_ | refine zD (zE rfl) ?_ | refine zB ?_ | refine zA ?_ | refine zG ?_ | refine zC rfl ?_)
 refine zD (zAX (m := y) rfl rfl rfl zA2 (by omega)) ?_
 refine zF5 0 (.ints .u32 []) rfl ⟨Nat.zero_le _, rfl, fun i j hi _ => absurd hi (Nat.not_lt_zero _)⟩ ?_
 repeat (first | refine zD (zF rfl) ?_ | refine zD (zE rfl) ?_ | refine zB ?_ | refine zA ?_ | refine zG ?_ | refine zC rfl ?_ | refine zT ?_ | refine zD (zw rfl rfl rfl) ?_)
 refine zAC (ι := Nat × List Int × Nat) (fun p => [(0, zEh n), (1, .int .u32 (x : Nat)), (7, .sl 0 0 p.1), (8, .int .u64 (p.2.2 : Nat)), (17, zEh n), (18, .int .i64 (n.length : Nat)), (19, .int .i64 (p.1 : Nat))]) (fun p => [some ⟨193, .ints .u32 p.2.1⟩])
   (fun p => p.1 ≤ n.length ∧ p.2.1.length = p.1 ∧ Lim p.2.1 ∧ p.2.2 < 4294967296 ∧ zm p.2.1 + B ^ p.1 * p.2.2 = zm (n.take p.1) * x + y) (fun p => n.length - p.1) (0, [], y) ⟨⟨rfl, rfl, rfl, rfl, rfl, rfl, rfl, trivial⟩, rfl, Nat.zero_le _, rfl, Lim.nil, hy, by simp [zm]⟩ ?_
 rintro ⟨i, out, cr⟩ ⟨h1, h2, h3, h4, h5⟩
 simp only at *
 repeat (first | refine zB ?_ | refine zA ?_ | refine zG ?_ | refine zC rfl ?_ | refine zD (zAQ rfl rfl) ?_)
 refine zK rfl (fun h6 => ?_) (fun h6 => ?_)
 · have hil : i < n.length := by omega
   obtain ⟨d, hd, hdB⟩ := hn.nat i
   have hb := zIx (a := d) (b := x) (c := cr) hdB hx h4
   have hq : (cr + d * x) / 4294967296 < 4294967296 := by omega
   repeat (first | refine zD (zF rfl) ?_ | refine zD (zE rfl) ?_ | refine zD (z6 rfl rfl rfl) ?_ | refine zB ?_ | refine zA ?_ | refine zG ?_ | refine zC rfl ?_ | refine zT ?_ | refine zP ?_ | refine zD (zY rfl rfl rfl rfl (by first | (simp only [Nat.zero_add, Int.toNat_natCast, Int.toNat_zero]; exact rfl) | exact rfl) (by omega)) ?_)
   refine zU 24 (.int .u32 (d : Nat)) rfl (AEq.of_eq (by rw [hd])) ?_
   refine zD (zAX (m := d) rfl rfl rfl zA2 (by omega)) ?_
   repeat (refine zD (zF rfl) ?_)
   refine zD (zAX (m := x) rfl rfl rfl zA2 (by omega)) ?_
   refine zD (zGW rfl rfl zA2 hb.1) ?_
   refine zD (zD4 rfl rfl zA2 hb.2) ?_
   repeat (first | refine zD (zF rfl) ?_ | refine zD (zE rfl) ?_ | refine zB ?_ | refine zA ?_ | refine zG ?_ | refine zC rfl ?_)
   refine zD (zEc rfl rfl rfl zDm) ?_
   repeat (refine zS rfl rfl rfl rfl rfl rfl rfl rfl rfl rfl rfl ?_)
   refine zAE rfl rfl rfl rfl rfl rfl rfl rfl rfl h2 rfl rfl (Nat.le_refl 1) rfl (by show (i + 1) * 4 ≤ _ ∧ _; omega) (fun i j _ _ => rfl) (by rw [hfix]; exact fun h => h) ?_
   repeat (first | refine zD (zF rfl) ?_ | refine zD (zE rfl) ?_ | refine zB ?_ | refine zA ?_ | refine zC rfl ?_)
   refine zD (zET (s := 32) rfl rfl rfl) ?_
   repeat (first | refine zD (zF rfl) ?_ | refine zD (zE rfl) ?_ | refine zB ?_ | refine zA ?_ | refine zC rfl ?_ | refine zZ ?_ | refine zD (zAK rfl rfl (by omega)) ?_)
   refine zd ⟨(i + 1, out ++ [(((cr + d * x) % 4294967296 : Nat) : Int)], (cr + d * x) / 4294967296), ⟨by simp only; omega, by simp [h2], Lim.append.2 ⟨h3, Lim.one (zCu _)⟩, hq, ?_⟩, by simp only; omega, ⟨rfl, rfl, rfl, rfl, rfl, rfl, rfl, trivial⟩, rfl⟩
   have := zFu h2 h5 (c := cr + d * x) (d := d * x) rfl
   rw [zAF n i, hd, Int.toNat_natCast, Nat.add_mul, Nat.mul_assoc]
   simp only at this ⊢
   rw [this]
   omega
 · have hie : i = n.length := by omega
   subst hie
   rw [List.take_length] at h5
   repeat (first | refine zD (zF rfl) ?_ | refine zA ?_ | refine zG ?_ | refine zC rfl ?_ | refine zx ?_ | refine zW ?_ | refine zX ?_ | refine zi ?_)
   refine zD (zEc (m := cr) rfl rfl rfl zDm) ?_
   repeat (refine zS rfl rfl rfl rfl rfl rfl rfl rfl rfl rfl rfl ?_)
   refine zAE rfl rfl rfl rfl rfl rfl rfl rfl rfl h2 rfl rfl (Nat.le_refl 1) rfl (by show (n.length + 1) * 4 ≤ _ ∧ _; omega) (fun i j _ _ => rfl) (by rw [hfix]; exact fun h => h) ?_
   have hl : Lim (out ++ [((cr % 4294967296 : Nat) : Int)]) := Lim.append.2 ⟨h3, Lim.one (zCu _)⟩
   have hc := zCw _ hl (by simp; omega)
   have hv : zm (out ++ [((cr % 4294967296 : Nat) : Int)]) = zm n * x + y := by
     rw [zCj, h2, Int.toNat_natCast, Nat.mod_eq_of_lt h4]; exact h5
   rw [hv] at hc
   refine zCZ 0 42 (n.length + 1) [] rfl zAY rfl (by show _ ≤ (out ++ [((cr % 4294967296 : Nat) : Int)]).length; simp; omega) trivial ?_
   refine zM rfl rfl (by show [AV.ro _ 0 (n.length + 1)] ++ [] = [zEh (out ++ [((cr % 4294967296 : Nat) : Int)])]; simp only [zEh, List.length_append, h2]; rfl) hc ?_
   repeat (first | refine zD (zE rfl) ?_ | refine zB ?_ | refine zA ?_ | refine zH ?_)
   exact zR hR rfl rfl
end Go.Proofs.YtgmleamhjnlknaaGreatDoor
namespace Go.Proofs.YtgmleamhjnlknaaGreatDoor
open Go.Ax Go.Ax.Bg Go.RowKit
attribute [local irreducible] Ax zAV QOp zV
set_option maxRecDepth 100000
set_option maxHeartbeats 4000000
theorem isNaNi (n : Int) : zk Tryz.prog 210 [.int .i64 n] (.bool false) := by
 refine zV.value0 (zN (P := Tryz.prog) (fn := Tryz.f210) rfl rfl (by kernel_rfl) rfl (fun c hR hfix => ?_)) (fix := fun _ => False) (fun _ h => h) rfl rfl
 repeat (first | refine zD (zF rfl) ?_ | refine zD (zE rfl) ?_ | refine zB ?_ | refine zA ?_ | refine zG ?_ | refine zC rfl ?_ | refine zH ?_ | refine zD (zAb rfl rfl) ?_)
 refine zR hR rfl ?_
 simp [zA1]
theorem isNaNu (n : Int) : zk Tryz.prog 211 [.int .u32 n] (.bool false) := by
 refine zV.value0 (zN (P := Tryz.prog) (fn := Tryz.f211) rfl rfl (by kernel_rfl) rfl (fun c hR hfix => ?_)) (fix := fun _ => False) (fun _ h => h) rfl rfl
 repeat (first | refine zD (zF rfl) ?_ | refine zD (zE rfl) ?_ | refine zB ?_ | refine zA ?_ | refine zG ?_ | refine zC rfl ?_ | refine zH ?_ | refine zD (zAb rfl rfl) ?_)
 refine zR hR rfl ?_
 simp [zA1]
theorem cmpi (x y : Int) : zk Tryz.prog 192 [.int .i64 x, .int .i64 y] (.int .i64 (zCn x y)) := by
 refine zV.value0 (zN (P := Tryz.prog) (fn := Tryz.f192) rfl rfl (by kernel_rfl) rfl (fun c hR hfix => ?_)) (fix := fun _ => False) (fun _ h => h) rfl rfl
 repeat (first | refine zD (zF rfl) ?_ | refine zD (zE rfl) ?_ | refine zB ?_ | refine zA ?_ | refine zG ?_ | refine zC rfl ?_)
 refine zM rfl rfl rfl (isNaNi x) ?_
 repeat (first | refine zD (zF rfl) ?_ | refine zD (zE rfl) ?_ | refine zB ?_ | refine zA ?_ | refine zG ?_ | refine zC rfl ?_)
 refine zM rfl rfl rfl (isNaNi y) ?_
 repeat (first | refine zD (zF rfl) ?_ | refine zD (zE rfl) ?_ | refine zB ?_ | refine zA ?_ | refine zG ?_ | refine zC rfl ?_ | refine ze rfl ?_ | refine zP ?_ | refine zD (zAQ rfl rfl) ?_)
 refine zK rfl (fun h => ?_) (fun h => ?_)
 · repeat (first | refine zD (zE rfl) ?_ | refine zB ?_ | refine zA ?_ | refine zG ?_ | refine zC rfl ?_ | refine zH ?_ | refine zQ ?_)
   refine zR hR rfl ?_
   unfold zCn; rw [if_pos h]; rfl
 · repeat (first | refine zD (zF rfl) ?_ | refine zB ?_ | refine zA ?_ | refine zG ?_ | refine zC rfl ?_ | refine zP ?_ | refine zD (zBU rfl rfl) ?_)
   refine zK rfl (fun h2 => ?_) (fun h2 => ?_)
   · repeat (first | refine zD (zE rfl) ?_ | refine zB ?_ | refine zA ?_ | refine zG ?_ | refine zC rfl ?_ | refine zH ?_ | refine zQ ?_)
     refine zR hR rfl ?_
     unfold zCn; rw [if_neg h, if_pos h2]; rfl
   · repeat (first | refine zD (zE rfl) ?_ | refine zB ?_ | refine zA ?_ | refine zG ?_ | refine zC rfl ?_ | refine zP ?_ | refine zH ?_)
     refine zR hR rfl ?_
     unfold zCn; rw [if_neg h, if_neg h2]; rfl
theorem cmpu (x y : Int) : zk Tryz.prog 193 [.int .u32 x, .int .u32 y] (.int .i64 (zCn x y)) := by
 refine zV.value0 (zN (P := Tryz.prog) (fn := Tryz.f193) rfl rfl (by kernel_rfl) rfl (fun c hR hfix => ?_)) (fix := fun _ => False) (fun _ h => h) rfl rfl
 repeat (first | refine zD (zF rfl) ?_ | refine zD (zE rfl) ?_ | refine zB ?_ | refine zA ?_ | refine zG ?_ | refine zC rfl ?_)
 refine zM rfl rfl rfl (isNaNu x) ?_
 repeat (first | refine zD (zF rfl) ?_ | refine zD (zE rfl) ?_ | refine zB ?_ | refine zA ?_ | refine zG ?_ | refine zC rfl ?_)
 refine zM rfl rfl rfl (isNaNu y) ?_
 repeat (first | refine zD (zF rfl) ?_ | refine zD (zE rfl) ?_ | refine zB ?_ | refine zA ?_ | refine zG ?_ | refine zC rfl ?_ | refine ze rfl ?_ | refine zP ?_ | refine zD (zAQ rfl rfl) ?_)
 refine zK rfl (fun h => ?_) (fun h => ?_)
 · repeat (first | refine zD (zE rfl) ?_ | refine zB ?_ | refine zA ?_ | refine zG ?_ | refine zC rfl ?_ | refine zH ?_ | refine zQ ?_)
   refine zR hR rfl ?_
   unfold zCn; rw [if_pos h]; rfl
 · repeat (first | refine zD (zF rfl) ?_ | refine zB ?_ | refine zA ?_ | refine zG ?_ | refine zC rfl ?_ | refine zP ?_ | refine zD (zBU rfl rfl) ?_)
   refine zK rfl (fun h2 => ?_) (fun h2 => ?_)
   · repeat (first | refine zD (zE rfl) ?_ | refine zB ?_ | refine zA ?_ | refine zG ?_ | refine zC rfl ?_ | refine zH ?_ | refine zQ ?_)
     refine zR hR rfl ?_
     unfold zCn; rw [if_neg h, if_pos h2]; rfl
   · repeat (first | refine zD (zE rfl) ?_ | refine zB ?_ | refine zA ?_ | refine zG ?_ | refine zC rfl ?_ | refine zP ?_ | refine zH ?_)
     refine zR hR rfl ?_
     unfold zCn; rw [if_neg h, if_neg h2]; rfl
theorem zJM (a b : Nat) (ha : (zh a).length ≤ 1000000000) (hb : (zh b).length ≤ 1000000000) : zk Tryz.prog 173 [zAL a, zAL b] (.int .i64 (zCn a b)) := by
 have c1 := cmpi (zh a).length (zh b).length
 refine zV.value0 (zN (P := Tryz.prog) (fn := Tryz.f173) rfl rfl (by kernel_rfl) rfl (fun c hR hfix => ?_)) (fix := fun _ => False) (fun _ h => h) rfl rfl
 have la := zAW a
 have lb := zAW b
 have e1 := cmp_len a b
 have e2 : ∀ i, i < (zh a).length → (zh a).length = (zh b).length → (∀ j, i < j → j < (zh a).length → (zh a).getD j 0 = (zh b).getD j 0) → (zh a).getD i 0 ≠ (zh b).getD i 0 → zCn a b = zCn ((zh a).getD i 0) ((zh b).getD i 0) := fun i hi hl hj hne => cmp_limb la lb hl hi hj hne
 have e3 : (zh a).length = (zh b).length → (∀ j, j < (zh a).length → (zh a).getD j 0 = (zh b).getD j 0) → zCn a b = 0 := cmp_same
 unfold zAL
 generalize zh a = x at *
 generalize zh b = y at *
 generalize zCn (a : Int) (b : Int) = r at *
 repeat (first | refine zD (zF rfl) ?_ | refine zD (zE rfl) ?_ | refine zB ?_ | refine zA ?_ | refine zG ?_ | refine zC rfl ?_ | refine zD (zAb rfl rfl) ?_ | refine zD (zw rfl rfl rfl) ?_)
 refine zK rfl (fun h0 => ?_) (fun h0 => ?_)
 · repeat (first | refine zD (zF rfl) ?_ | refine zG ?_ | refine zC rfl ?_ | refine zD (zw rfl rfl rfl) ?_)
   refine zM rfl rfl rfl c1 ?_
   repeat (first | refine zD (zE rfl) ?_ | refine zB ?_ | refine zA ?_ | refine zH ?_ | refine zQ ?_)
   refine zR hR rfl ?_
   rw [e1 (by omega)]; rfl
 · have hl : x.length = y.length := by omega
   repeat (first | refine zD (zF rfl) ?_ | refine zD (zE rfl) ?_ | refine zB ?_ | refine zA ?_ | refine zG ?_ | refine zC rfl ?_ | refine zT ?_ | refine zP ?_ | refine zD (zw rfl rfl rfl) ?_ | refine zD (zBa rfl rfl (by omega)) ?_)
   refine zAC (ι := Nat) (fun k => [(0, .ro (.ints .u32 x) 0 x.length), (1, .ro (.ints .u32 y) 0 y.length), (5, .int .i64 ((k : Int) - 1))]) (fun _ => []) (fun k => k ≤ x.length ∧ ∀ j, k ≤ j → j < x.length → x.getD j 0 = y.getD j 0) (fun k => k) x.length ⟨⟨rfl, rfl, rfl, trivial⟩, rfl, Nat.le_refl _, fun j h1 h2 => by omega⟩ ?_
   rintro k ⟨hk, hz⟩
   repeat (first | refine zD (zF rfl) ?_ | refine zB ?_ | refine zA ?_ | refine zG ?_ | refine zC rfl ?_ | refine zD (zC2 rfl rfl) ?_)
   refine zK rfl (fun h1 => ?_) (fun h1 => ?_)
   · have ek : ((k : Int) - 1).toNat = k - 1 := by omega
     repeat (first | refine zA ?_ | refine zG ?_ | refine zT ?_ | refine zP ?_)
     refine zCp (by kernel_rfl) (by kernel_rfl) rfl ?_
     repeat (first | refine zD (zF rfl) ?_ | refine zD (z6 rfl rfl rfl) ?_ | refine zB ?_ | refine zA ?_ | refine zD (zAb rfl rfl) ?_ | refine zD (zY rfl rfl rfl rfl (by first | (simp only [Nat.zero_add, Int.toNat_natCast, Int.toNat_zero]; exact rfl) | exact rfl) (by omega)) ?_)
     refine zK rfl (fun h2 => ?_) (fun h2 => ?_)
     · rw [ek] at h2
       have c2 := cmpu (x.getD (k - 1) 0) (y.getD (k - 1) 0)
       repeat (refine zG ?_)
       refine zAI (by kernel_rfl) ?_
       refine zc 0 rfl (by kernel_rfl) (by kernel_rfl) (by kernel_rfl) rfl (zF rfl) rfl ?_
       refine zc 1 rfl (by kernel_rfl) (by kernel_rfl) (by kernel_rfl) rfl (zF rfl) rfl ?_
       refine zc 2 rfl (by kernel_rfl) (by kernel_rfl) (by kernel_rfl) rfl (zY rfl rfl rfl rfl (by first | (simp only [Nat.zero_add, Int.toNat_natCast, Int.toNat_zero]; exact rfl) | exact rfl) (by omega)) rfl ?_
       refine zc 4 rfl (by kernel_rfl) (by kernel_rfl) (by kernel_rfl) rfl (zF rfl) rfl ?_
       refine zc 5 rfl (by kernel_rfl) (by kernel_rfl) (by kernel_rfl) rfl (zF rfl) rfl ?_
       refine zc 6 rfl (by kernel_rfl) (by kernel_rfl) (by kernel_rfl) rfl (zY rfl rfl rfl rfl (by first | (simp only [Nat.zero_add, Int.toNat_natCast, Int.toNat_zero]; exact rfl) | exact rfl) (by omega)) rfl ?_
       apply zCI [(35, .int .u32 (x.getD ((k : Int) - 1).toNat 0)), (39, .int .u32 (y.getD ((k : Int) - 1).toNat 0))]
       · intro fin
         refine zO (is := [3, 7]) (by kernel_rfl) (by simp) rfl ⟨fun o ho => ?_, fun o ho => ?_, trivial⟩
         all_goals (cases ho)
         · repeat (first | refine zD (z6 rfl rfl rfl) ?_ | refine zB ?_ | refine zJ ?_)
           refine zO (is := [7]) (by kernel_rfl) (by simp) rfl ⟨fun o ho => ?_, trivial⟩
           all_goals (cases ho)
           repeat (first | refine zD (z6 rfl rfl rfl) ?_ | refine zB ?_ | refine zJ ?_)
           exact fin _ ⟨rfl, rfl, trivial⟩
         · repeat (first | refine zD (z6 rfl rfl rfl) ?_ | refine zB ?_ | refine zJ ?_)
           refine zO (is := [3]) (by kernel_rfl) (by simp) rfl ⟨fun o ho => ?_, trivial⟩
           all_goals (cases ho)
           repeat (first | refine zD (z6 rfl rfl rfl) ?_ | refine zB ?_ | refine zJ ?_)
           exact fin _ ⟨rfl, rfl, trivial⟩
       refine zO (is := [8]) (by kernel_rfl) (by simp) rfl ⟨fun o ho => ?_, trivial⟩
       all_goals (cases ho)
       skip
       refine zM rfl rfl rfl (by rw [ek]; exact c2) ?_
       repeat (first | refine zB ?_ | refine zJ ?_)
       refine zc 9 rfl (by kernel_rfl) (by kernel_rfl) (by kernel_rfl) rfl (zE rfl) rfl ?_
       refine zAB (by kernel_rfl) ?_
       repeat (first | refine zA ?_ | refine zH ?_ | refine zQ ?_ | refine zo ?_ | refine zAf ?_)
       refine zR hR rfl ?_
       rw [e2 (k - 1) (by omega) hl (fun j h3 h4 => hz j (by omega) h4) h2]; rfl
     · rw [ek] at h2
       repeat (first | refine zD (zF rfl) ?_ | refine zD (zE rfl) ?_ | refine zB ?_ | refine zA ?_ | refine zC rfl ?_ | refine zZ ?_ | refine zP ?_ | refine zD (zBa rfl rfl (by omega)) ?_)
       refine zd ⟨k - 1, ⟨by omega, fun j h3 h4 => ?_⟩, by omega, ⟨rfl, rfl, ?_, trivial⟩, rfl⟩
       · by_cases h5 : j = k - 1
         · subst h5; exact Classical.not_not.1 h2
         · exact hz j (by omega) h4
       · show some (AV.int .i64 _) = _
         congr 2
         omega
   · repeat (first | refine zD (zE rfl) ?_ | refine zB ?_ | refine zA ?_ | refine zG ?_ | refine zC rfl ?_ | refine zx ?_ | refine zW ?_ | refine zX ?_ | refine zi ?_ | refine zH ?_)
     refine zR hR rfl ?_
     rw [e3 hl (fun j h3 => hz j (by omega) h3)]; rfl
end Go.Proofs.YtgmleamhjnlknaaGreatDoor
namespace Go.Proofs.YtgmleamhjnlknaaGreatDoor
open Go.Ax Go.Ax.Bg Go.RowKit
attribute [local irreducible] Ax zAV QOp zV
set_option maxRecDepth 100000
set_option maxHeartbeats 4000000
theorem zCH {out : List Int} {m : Nat} (h : out.length = m) : [AV.ro (.ints .u32 out) 0 m] ++ [] = [zEh out] := by
 subst h; rfl
theorem add_ok (a b : Nat) (ha : (zh a).length ≤ 100000000) (hb : (zh b).length ≤ 100000000) : zk Tryz.prog 172 [zAL a, zAL b] (zAL (a + b)) := by
 refine zV.value0 (zN (P := Tryz.prog) (fn := Tryz.f172) rfl rfl (by kernel_rfl) rfl (fun c hR hfix => ?_)) (fix := fun _ => False) (fun _ h => h) rfl rfl
 obtain ⟨p, q, hpq, hlen, hL⟩ : ∃ p q : Nat, p + q = a + b ∧ (zh q).length ≤ (zh p).length ∧ (((zh a).length < (zh b).length ∧ p = b ∧ q = a) ∨ (¬ (zh a).length < (zh b).length ∧ p = a ∧ q = b)) := by
   rcases Nat.lt_or_ge (zh a).length (zh b).length with h | h
   · exact ⟨b, a, by omega, by omega, .inl ⟨h, rfl, rfl⟩⟩
   · exact ⟨a, b, rfl, h, .inr ⟨by omega, rfl, rfl⟩⟩
 have hpl : (zh p).length ≤ 100000000 := by rcases hL with ⟨_, rfl, rfl⟩ | ⟨_, rfl, rfl⟩ <;> assumption
 apply zAu (H := []) [(0, zAL p), (1, zAL q)]
 · intro fin
   unfold zAL at fin ⊢
   repeat (first | refine zD (zF rfl) ?_ | refine zD (zE rfl) ?_ | refine zB ?_ | refine zA ?_ | refine zG ?_ | refine zC rfl ?_ | refine zD (zAQ rfl rfl) ?_ | refine zD (zw rfl rfl rfl) ?_)
   refine zK rfl (fun h0 => ?_) (fun h0 => ?_)
   · have : p = b ∧ q = a := by
       rcases hL with h | h
       · exact h.2
       · exact absurd (by omega) h.1
     obtain ⟨rfl, rfl⟩ := this
     skip
     refine zC rfl ?_
     repeat (first | refine zD (zF rfl) ?_ | refine zD (zE rfl) ?_ | refine zB ?_ | refine zA ?_)
     exact fin _ ⟨rfl, rfl, trivial⟩
   · have : p = a ∧ q = b := by
       rcases hL with h | h
       · exact absurd (by omega) h0
       · exact h.2
     obtain ⟨rfl, rfl⟩ := this
     repeat (first | refine zA ?_ | refine zP ?_)
     exact fin _ ⟨rfl, rfl, trivial⟩
 have hx := zAW p
 have hy := zAW q
 have hv : zm (zh p) + zm (zh q) = a + b := by rw [zAG, zAG, hpq]
 unfold zAL
 rw [← hv] at hR
 generalize zh p = x at *
 generalize zh q = y at *
 repeat (first | refine zD (zF rfl) ?_ | refine zG ?_ | refine zC rfl ?_ | refine zD (zw rfl rfl rfl) ?_ | refine zD (zAK rfl rfl (by omega)) ?_)
 refine zCS rfl rfl rfl rfl rfl rfl rfl rfl (by show (0 : Int) ≤ 0 ∧ _ ≤ _ ∧ (4 : Int) * _ ≤ _ ∧ _; omega) ?_
 repeat (first | refine zD (zF rfl) ?_ | refine zD (zE rfl) ?_ | refine zB ?_ | refine zA ?_ | refine zG ?_ | refine zC rfl ?_ | refine zT ?_ | refine zD (zw rfl rfl rfl) ?_)
 refine zH2 0 (.ints .u32 []) rfl ⟨Nat.zero_le _, rfl, fun i j hi _ => absurd hi (Nat.not_lt_zero _)⟩ ?_
 refine zAC (ι := Nat × List Int × Nat) (fun p => [(1, .ro (.ints .u32 y) 0 y.length), (5, .sl 0 0 p.1), (6, .int .u64 (p.2.2 : Nat)), (20, .ro (.ints .u32 x) 0 x.length), (21, .int .i64 (x.length : Nat)), (22, .int .i64 (p.1 : Nat))]) (fun p => [some ⟨193, .ints .u32 p.2.1⟩])
   (fun p => p.1 ≤ x.length ∧ p.2.1.length = p.1 ∧ Lim p.2.1 ∧ p.2.2 < 4294967296 ∧ zm p.2.1 + B ^ p.1 * p.2.2 = zm (x.take p.1) + zm (y.take p.1)) (fun p => x.length - p.1) (0, [], 0) ⟨⟨rfl, rfl, rfl, rfl, rfl, rfl, trivial⟩, rfl, Nat.zero_le _, rfl, Lim.nil, by decide, by simp [zm]⟩ ?_
 rintro ⟨i, out, cr⟩ ⟨h1, h2, h3, h4, h5⟩
 simp only at *
 repeat (first | refine zB ?_ | refine zA ?_ | refine zG ?_ | refine zC rfl ?_ | refine zD (zAQ rfl rfl) ?_)
 refine zK rfl (fun h6 => ?_) (fun h6 => ?_)
 · have hil : i < x.length := by omega
   obtain ⟨d, hd, hdB⟩ := hx.nat i
   obtain ⟨e, he, heB⟩ := hy.nat i
   repeat (first | refine zD (zF rfl) ?_ | refine zD (zE rfl) ?_ | refine zD (z6 rfl rfl rfl) ?_ | refine zB ?_ | refine zA ?_ | refine zG ?_ | refine zC rfl ?_ | refine zT ?_ | refine zP ?_ | refine zD (zY rfl rfl rfl rfl (by first | (simp only [Nat.zero_add, Int.toNat_natCast, Int.toNat_zero]; exact rfl) | exact rfl) (by omega)) ?_)
   refine zU 28 (.int .u32 (d : Nat)) rfl (AEq.of_eq (by rw [hd])) ?_
   refine zD (zAX (m := d) rfl rfl rfl zA2 (by omega)) ?_
   refine zD (zD4 rfl rfl zA2 (by omega)) ?_
   repeat (first | refine zD (zF rfl) ?_ | refine zD (zE rfl) ?_ | refine zB ?_ | refine zA ?_ | refine zG ?_ | refine zC rfl ?_ | refine zD (zAQ rfl rfl) ?_ | refine zD (zw rfl rfl rfl) ?_)
   apply zAu (H := [some ⟨193, .ints .u32 out⟩]) [(1, .ro (.ints .u32 y) 0 y.length), (5, .sl 0 0 i), (6, .int .u64 (cr + d + e : Nat)), (20, .ro (.ints .u32 x) 0 x.length), (21, .int .i64 (x.length : Nat)), (22, .int .i64 (i : Nat))]
   · intro fin
     refine zK rfl (fun h7 => ?_) (fun h7 => ?_)
     · repeat (first | refine zD (zF rfl) ?_ | refine zD (z6 rfl rfl rfl) ?_ | refine zC rfl ?_ | refine zD (zY rfl rfl rfl rfl (by first | (simp only [Nat.zero_add, Int.toNat_natCast, Int.toNat_zero]; exact rfl) | exact rfl) (by omega)) ?_)
       refine zU 39 (.int .u32 (e : Nat)) rfl (AEq.of_eq (by rw [he])) ?_
       refine zD (zAX (m := e) rfl rfl rfl zA2 (by omega)) ?_
       refine zD (zD4 rfl rfl zA2 (by omega)) ?_
       repeat (first | refine zD (zE rfl) ?_ | refine zB ?_ | refine zA ?_)
       exact fin _ ⟨rfl, rfl, rfl, rfl, rfl, rfl, trivial⟩
     · have he0 : e = 0 := by
         have : y.getD i 0 = 0 := by simp [List.getD, List.getElem?_eq_none (show y.length ≤ i by omega)]
         omega
       subst he0
       repeat (first | refine zA ?_ | refine zP ?_)
       exact fin _ ⟨rfl, rfl, rfl, rfl, rfl, rfl, trivial⟩
   repeat (first | refine zD (zF rfl) ?_ | refine zG ?_ | refine zC rfl ?_)
   refine zD (zEc rfl rfl rfl zDm) ?_
   repeat (refine zS rfl rfl rfl rfl rfl rfl rfl rfl rfl rfl rfl ?_)
   refine zAE rfl rfl rfl rfl rfl rfl rfl rfl rfl h2 rfl rfl (Nat.le_refl 1) rfl (by show (i + 1) * 4 ≤ _ ∧ _; omega) (fun i j _ _ => rfl) (by rw [hfix]; exact fun h => h) ?_
   repeat (first | refine zD (zF rfl) ?_ | refine zD (zE rfl) ?_ | refine zB ?_ | refine zA ?_ | refine zC rfl ?_)
   refine zD (zET (s := 32) rfl rfl rfl) ?_
   repeat (first | refine zD (zF rfl) ?_ | refine zD (zE rfl) ?_ | refine zB ?_ | refine zA ?_ | refine zC rfl ?_ | refine zZ ?_ | refine zD (zAK rfl rfl (by omega)) ?_)
   exact zd ⟨(i + 1, out ++ [(((cr + d + e) % 4294967296 : Nat) : Int)], (cr + d + e) / 4294967296), ⟨by simp only; omega, by simp [h2], Lim.append.2 ⟨h3, Lim.one (zCu _)⟩, by simp only; omega, zKJ h2 h5 hd he⟩, by simp only; omega, ⟨rfl, rfl, rfl, rfl, rfl, rfl, trivial⟩, rfl⟩
 · have hie : i = x.length := by omega
   subst hie
   rw [List.take_length, List.take_of_length_le hlen] at h5
   repeat (first | refine zD (zF rfl) ?_ | refine zA ?_ | refine zG ?_ | refine zC rfl ?_ | refine zx ?_ | refine zW ?_ | refine zX ?_ | refine zi ?_)
   refine zD (zEc (m := cr) rfl rfl rfl zDm) ?_
   repeat (refine zS rfl rfl rfl rfl rfl rfl rfl rfl rfl rfl rfl ?_)
   refine zAE rfl rfl rfl rfl rfl rfl rfl rfl rfl h2 rfl rfl (Nat.le_refl 1) rfl (by show (x.length + 1) * 4 ≤ _ ∧ _; omega) (fun i j _ _ => rfl) (by rw [hfix]; exact fun h => h) ?_
   have hl : Lim (out ++ [((cr % 4294967296 : Nat) : Int)]) := Lim.append.2 ⟨h3, Lim.one (zCu _)⟩
   have hc := zCw _ hl (by simp; omega)
   have hv : zm (out ++ [((cr % 4294967296 : Nat) : Int)]) = zm x + zm y := by
     rw [zCj, h2, Int.toNat_natCast, Nat.mod_eq_of_lt h4]; exact h5
   rw [hv] at hc
   refine zCZ 0 54 (x.length + 1) [] rfl zAY rfl (by show _ ≤ (out ++ [((cr % 4294967296 : Nat) : Int)]).length; simp; omega) trivial ?_
   refine zM rfl rfl (zCH (by simp [h2])) hc ?_
   repeat (first | refine zD (zE rfl) ?_ | refine zB ?_ | refine zA ?_ | refine zH ?_)
   exact zR hR rfl rfl
end Go.Proofs.YtgmleamhjnlknaaGreatDoor
namespace Go.Proofs.YtgmleamhjnlknaaGreatDoor
open Go.Ax Go.Ax.Bg Go.RowKit
attribute [local irreducible] Ax zAV QOp zV
set_option maxRecDepth 100000
set_option maxHeartbeats 4000000
theorem sub_ok (a b : Nat) (hab : b ≤ a) (ha : (zh a).length ≤ 100000000) : zk Tryz.prog 174 [zAL a, zAL b] (zAL (a - b)) := by
 refine zV.value0 (zN (P := Tryz.prog) (fn := Tryz.f174) rfl rfl (by kernel_rfl) rfl (fun c hR hfix => ?_)) (fix := fun _ => False) (fun _ h => h) rfl rfl
 have hx := zAW a
 have hy := zAW b
 have hlen : (zh b).length ≤ (zh a).length := zAj (by have := zAp hx; rw [zAG] at this; omega)
 have hva : zm (zh a) = a := zAG a
 have hvb : zm (zh b) = b := zAG b
 have haB : a < B ^ (zh a).length := by have := zAp hx; rwa [zAG] at this
 unfold zAL
 generalize zh a = x at *
 generalize zh b = y at *
 repeat (first | refine zD (zF rfl) ?_ | refine zD (zE rfl) ?_ | refine zB ?_ | refine zA ?_ | refine zG ?_ | refine zC rfl ?_ | refine zD (zw rfl rfl rfl) ?_)
 refine zCS rfl rfl rfl rfl rfl rfl rfl rfl (by show (0 : Int) ≤ 0 ∧ _ ≤ _ ∧ (4 : Int) * _ ≤ _ ∧ _; omega) ?_
 repeat (first | refine zD (zF rfl) ?_ | refine zD (zE rfl) ?_ | refine zB ?_ | refine zA ?_ | refine zG ?_ | refine zC rfl ?_ | refine zT ?_ | refine zD (zw rfl rfl rfl) ?_)
 refine zH2 0 (.ints .u32 []) rfl ⟨Nat.zero_le _, rfl, fun i j hi _ => absurd hi (Nat.not_lt_zero _)⟩ ?_
 refine zAC (ι := Nat × List Int × Nat) (fun p => [(1, .ro (.ints .u32 y) 0 y.length), (5, .sl 0 0 p.1), (6, .int .i64 (p.2.2 : Nat)), (13, .ro (.ints .u32 x) 0 x.length), (14, .int .i64 (x.length : Nat)), (15, .int .i64 (p.1 : Nat))]) (fun p => [some ⟨193, .ints .u32 p.2.1⟩])
   (fun p => p.1 ≤ x.length ∧ p.2.1.length = p.1 ∧ Lim p.2.1 ∧ p.2.2 ≤ 1 ∧ zm p.2.1 + zm (y.take p.1) = zm (x.take p.1) + B ^ p.1 * p.2.2) (fun p => x.length - p.1) (0, [], 0) ⟨⟨rfl, rfl, rfl, rfl, rfl, rfl, trivial⟩, rfl, Nat.zero_le _, rfl, Lim.nil, by decide, by simp [zm]⟩ ?_
 rintro ⟨i, out, br⟩ ⟨h1, h2, h3, h4, h5⟩
 simp only at *
 repeat (first | refine zB ?_ | refine zA ?_ | refine zG ?_ | refine zC rfl ?_ | refine zD (zAQ rfl rfl) ?_)
 refine zK rfl (fun h6 => ?_) (fun h6 => ?_)
 · have hil : i < x.length := by omega
   obtain ⟨d, hd, hdB⟩ := hx.nat i
   obtain ⟨e, he, heB⟩ := hy.nat i
   repeat (first | refine zD (zF rfl) ?_ | refine zD (zE rfl) ?_ | refine zD (z6 rfl rfl rfl) ?_ | refine zB ?_ | refine zA ?_ | refine zG ?_ | refine zC rfl ?_ | refine zT ?_ | refine zP ?_ | refine zD (zY rfl rfl rfl rfl (by first | (simp only [Nat.zero_add, Int.toNat_natCast, Int.toNat_zero]; exact rfl) | exact rfl) (by omega)) ?_)
   refine zU 20 (.int .u32 (d : Nat)) rfl (AEq.of_eq (by rw [hd])) ?_
   refine zD (zDo (m := d) rfl rfl rfl (by omega)) ?_
   repeat (first | refine zD (zF rfl) ?_ | refine zD (zE rfl) ?_ | refine zB ?_ | refine zA ?_ | refine zG ?_ | refine zC rfl ?_ | refine zD (zAQ rfl rfl) ?_ | refine zD (zw rfl rfl rfl) ?_ | refine zD (zBa rfl rfl (by omega)) ?_)
   apply zAu (H := [some ⟨193, .ints .u32 out⟩]) [(1, .ro (.ints .u32 y) 0 y.length), (5, .sl 0 0 i), (9, .int .i64 ((d : Int) - (br : Int) - (e : Int))), (13, .ro (.ints .u32 x) 0 x.length), (14, .int .i64 (x.length : Nat)), (15, .int .i64 (i : Nat))]
   · intro fin
     refine zK rfl (fun h7 => ?_) (fun h7 => ?_)
     · repeat (first | refine zD (zF rfl) ?_ | refine zD (z6 rfl rfl rfl) ?_ | refine zC rfl ?_ | refine zD (zY rfl rfl rfl rfl (by first | (simp only [Nat.zero_add, Int.toNat_natCast, Int.toNat_zero]; exact rfl) | exact rfl) (by omega)) ?_)
       refine zU 32 (.int .u32 (e : Nat)) rfl (AEq.of_eq (by rw [he])) ?_
       refine zD (zDo (m := e) rfl rfl rfl (by omega)) ?_
       repeat (first | refine zD (zE rfl) ?_ | refine zB ?_ | refine zA ?_ | refine zD (zBa rfl rfl (by omega)) ?_)
       exact fin _ ⟨rfl, rfl, rfl, rfl, rfl, rfl, trivial⟩
     · have he0 : e = 0 := by
         have : y.getD i 0 = 0 := by simp [List.getD, List.getElem?_eq_none (show y.length ≤ i by omega)]
         omega
       subst he0
       repeat (first | refine zA ?_ | refine zP ?_)
       exact fin _ ⟨rfl, rfl, by show some (AV.int .i64 ((d : Int) - (br : Int))) = _; simp, rfl, rfl, rfl, trivial⟩
   obtain ⟨yv, br', hyv, hbr, hyB⟩ : ∃ yv br' : Nat, yv + br + e = d + 4294967296 * br' ∧ br' ≤ 1 ∧ yv < 4294967296 := by
     rcases Nat.lt_or_ge d (br + e) with q | q
     · exact ⟨d + 4294967296 - br - e, 1, by omega, by omega, by omega⟩
     · exact ⟨d - br - e, 0, by omega, by omega, by omega⟩
   repeat (first | refine zD (zF rfl) ?_ | refine zD (zE rfl) ?_ | refine zB ?_ | refine zA ?_ | refine zG ?_ | refine zC rfl ?_ | refine zD (zAQ rfl rfl) ?_)
   apply zAu (H := [some ⟨193, .ints .u32 out⟩]) [(1, .ro (.ints .u32 y) 0 y.length), (5, .sl 0 0 i), (6, .int .i64 (br' : Nat)), (9, .int .i64 (yv : Nat)), (13, .ro (.ints .u32 x) 0 x.length), (14, .int .i64 (x.length : Nat)), (15, .int .i64 (i : Nat))]
   · intro fin
     refine zK rfl (fun h7 => ?_) (fun h7 => ?_)
     · have : br' = 1 := by omega
       skip
       refine zC rfl ?_
       repeat (first | refine zD (zF rfl) ?_ | refine zD (zE rfl) ?_ | refine zB ?_ | refine zA ?_ | refine zD (zAK rfl rfl (by omega)) ?_)
       subst this
       exact fin _ ⟨rfl, rfl, rfl, by show some (AV.int .i64 ((d : Int) - (br : Int) - (e : Int) + 4294967296)) = _; congr 2; omega, rfl, rfl, rfl, trivial⟩
     · have : br' = 0 := by omega
       subst this
       repeat (first | refine zA ?_ | refine zP ?_)
       exact fin _ ⟨rfl, rfl, rfl, by show some (AV.int .i64 ((d : Int) - (br : Int) - (e : Int))) = _; congr 2; omega, rfl, rfl, rfl, trivial⟩
   repeat (first | refine zD (zF rfl) ?_ | refine zC rfl ?_)
   refine zD (zAX (m := yv) rfl rfl rfl zDm hyB) ?_
   repeat (refine zS rfl rfl rfl rfl rfl rfl rfl rfl rfl rfl rfl ?_)
   refine zAE rfl rfl rfl rfl rfl rfl rfl rfl rfl h2 rfl rfl (Nat.le_refl 1) rfl (by show (i + 1) * 4 ≤ _ ∧ _; omega) (fun i j _ _ => rfl) (by rw [hfix]; exact fun h => h) ?_
   repeat (first | refine zD (zF rfl) ?_ | refine zD (zE rfl) ?_ | refine zB ?_ | refine zA ?_ | refine zC rfl ?_ | refine zZ ?_ | refine zD (zAK rfl rfl (by omega)) ?_)
   exact zd ⟨(i + 1, out ++ [(yv : Int)], br'), ⟨by simp only; omega, by simp [h2], Lim.append.2 ⟨h3, Lim.one (by omega)⟩, hbr, zMX h2 h5 hd he hyv⟩, by simp only; omega, ⟨rfl, rfl, rfl, rfl, rfl, rfl, trivial⟩, rfl⟩
 · have hie : i = x.length := by omega
   subst hie
   rw [List.take_length, List.take_of_length_le hlen, hva, hvb] at h5
   have hc := zCw _ h3 (by omega)
   have hv : zm out = a - b := by
     have hob := zAp h3
     rw [h2] at hob
     have : br = 0 ∨ br = 1 := by omega
     rcases this with rfl | rfl
     · rw [Nat.mul_zero] at h5; omega
     · rw [Nat.mul_one] at h5; omega
   rw [hv] at hc
   repeat (first | refine zD (zF rfl) ?_ | refine zA ?_ | refine zG ?_ | refine zC rfl ?_ | refine zx ?_ | refine zW ?_ | refine zX ?_ | refine zi ?_)
   refine zCZ 0 45 x.length [] rfl zAY rfl (by show _ ≤ out.length; omega) trivial ?_
   refine zM rfl rfl (zCH h2) hc ?_
   repeat (first | refine zD (zE rfl) ?_ | refine zB ?_ | refine zA ?_ | refine zH ?_)
   exact zR hR rfl rfl
theorem zGr (n : List Int) (x : Nat) (hn : Lim n) (hlen : n.length ≤ 100000000) (hx : 0 < x ∧ x < 4294967296) :
   zk Tryz.prog 176 [zEh n, .int .u32 (x : Nat)] (.tup [zAL (zm n / x), .int .u32 (zm n % x : Nat)]) := by
 refine zV.value0 (zN (P := Tryz.prog) (fn := Tryz.f176) rfl rfl (by kernel_rfl) rfl (fun c hR hfix => ?_)) (fix := fun _ => False) (fun _ h => h) rfl rfl
 unfold zEh
 repeat (first | refine zD (zF rfl) ?_ | refine zD (zE rfl) ?_ | refine zB ?_ | refine zA ?_ | refine zG ?_ | refine zC rfl ?_ | refine zD (zw rfl rfl rfl) ?_)
 refine zCS rfl rfl rfl rfl rfl rfl rfl rfl (by show (0 : Int) ≤ _ ∧ _ ≤ _ ∧ (4 : Int) * _ ≤ _ ∧ _; omega) ?_
 repeat (first | refine zD (zF rfl) ?_ | refine zD (zE rfl) ?_ | refine zB ?_ | refine zA ?_ | refine zG ?_ | refine zC rfl ?_ | refine zT ?_ | refine zD (zw rfl rfl rfl) ?_ | refine zD (zBa rfl rfl (by omega)) ?_)
 refine zAC (ι := Nat × List Int × Nat) (fun p => [(0, .ro (.ints .u32 n) 0 n.length), (1, .int .u32 (x : Nat)), (6, .sl 0 0 n.length), (7, .int .u64 (p.2.2 : Nat)), (8, .int .i64 ((p.1 : Int) - 1))]) (fun p => [some ⟨193, .ints .u32 p.2.1⟩])
   (fun p => p.1 ≤ n.length ∧ p.2.1.length = n.length ∧ Lim p.2.1 ∧ p.2.2 < x ∧ zm (n.drop p.1) = x * zm (p.2.1.drop p.1) + p.2.2) (fun p => p.1) (n.length, List.replicate n.length 0, 0) ⟨⟨rfl, rfl, rfl, rfl, rfl, trivial⟩, rfl, Nat.le_refl _, by simp, Lim.zeros _, hx.1, by simp [zm]⟩ ?_
 rintro ⟨i, out, rs⟩ ⟨h1, h2, h3, h4, h5⟩
 simp only at *
 repeat (first | refine zD (zF rfl) ?_ | refine zB ?_ | refine zA ?_ | refine zG ?_ | refine zC rfl ?_ | refine zD (zC2 rfl rfl) ?_)
 refine zK rfl (fun h6 => ?_) (fun h6 => ?_)
 · obtain ⟨j, rfl⟩ : ∃ j, i = j + 1 := ⟨i - 1, by omega⟩
   obtain ⟨d, hd, hdB⟩ := hn.nat j
   have ej : (((j + 1 : Nat) : Int) - 1) = (j : Nat) := by omega
   have ejt : (((j + 1 : Nat) : Int) - 1).toNat = j := by omega
   have htop : rs * 4294967296 + d < x * 4294967296 := by
     have : (rs + 1) * 4294967296 ≤ x * 4294967296 := Nat.mul_le_mul_right _ h4
     omega
   have hq : (rs * 4294967296 + d) / x < 4294967296 := Nat.div_lt_of_lt_mul htop
   have hm : (rs * 4294967296 + d) % x < x := Nat.mod_lt _ hx.1
   have hdm := Nat.div_add_mod (rs * 4294967296 + d) x
   generalize hqe : (rs * 4294967296 + d) / x = q at *
   generalize hme : (rs * 4294967296 + d) % x = r at *
   repeat (first | refine zD (zF rfl) ?_ | refine zA ?_ | refine zG ?_ | refine zC rfl ?_ | refine zT ?_ | refine zP ?_)
   refine zD (zHz (m := rs) (s := 32) rfl rfl (by decide) zA2 (zGe (by omega))) ?_
   repeat (first | refine zD (zF rfl) ?_ | refine zD (z6 rfl rfl rfl) ?_ | refine zD (zY rfl rfl rfl rfl (by first | (simp only [Nat.zero_add, Int.toNat_natCast, Int.toNat_zero]; exact rfl) | exact rfl) (by omega)) ?_)
   refine zU 24 (.int .u32 (d : Nat)) rfl (AEq.of_eq (by rw [ejt, hd])) ?_
   refine zD (zAX (m := d) rfl rfl rfl zA2 (by omega)) ?_
   refine zD (QOp.res (zJc rfl rfl zA2 rfl (zGe (by omega)) (by omega)) (by rw [zK8 hdB])) ?_
   repeat (first | refine zD (zF rfl) ?_ | refine zD (zE rfl) ?_ | refine zB ?_ | refine zA ?_ | refine zG ?_ | refine zC rfl ?_)
   refine zD (zAX (m := x) rfl rfl rfl zA2 (by omega)) ?_
   refine zD (QOp.res (q_uquo rfl rfl zA2 (by omega) hx.1) (by rw [hqe])) ?_
   refine zD (zAX (m := q) rfl rfl rfl zDm hq) ?_
   refine zU 28 (.int .i64 (j : Nat)) rfl (AEq.of_eq (by rw [ej])) ?_
   repeat (first | refine zD (zF rfl) ?_ | refine zB ?_ | refine zA ?_ | refine zC rfl ?_ | refine zD (zu rfl rfl rfl rfl rfl (by first | (simp only [Nat.zero_add, Int.toNat_natCast, Int.toNat_zero]; exact rfl) | exact rfl) (by omega)) ?_ | refine zAr rfl rfl rfl rfl rfl rfl rfl (by first | assumption | (show _ < List.length _; first | assumption | omega)) ?_)
   refine zD (zAX (m := x) rfl rfl rfl zA2 (by omega)) ?_
   refine zD (QOp.res (q_urem rfl rfl hx.1) (by rw [hme])) ?_
   repeat (first | refine zD (zF rfl) ?_ | refine zD (zE rfl) ?_ | refine zB ?_ | refine zA ?_ | refine zC rfl ?_ | refine zZ ?_ | refine zD (zBa rfl rfl (by omega)) ?_)
   refine zd ⟨(j, out.set j (q : Int), r), ⟨by simp only; omega, by simp [h2], h3.set (by omega), hm, ?_⟩, by simp only; omega, ⟨rfl, rfl, rfl, rfl, ?_, trivial⟩, rfl⟩
   rotate_left
   · show some (AV.int .i64 _) = _
     congr 2
     omega
   simp only
   rw [zJL (by omega), zHv, hd, Int.toNat_natCast, h5]
   simp only [zm, Int.toNat_natCast]
   have e1 : x * (q + B * zm (out.drop (j + 1))) = x * q + B * (x * zm (out.drop (j + 1))) := by rw [Nat.mul_add, Nat.mul_left_comm]
   rw [e1, Nat.mul_add]
   generalize x * zm (out.drop (j + 1)) = w at *
   generalize x * q = w2 at *
   show d + (4294967296 * w + 4294967296 * rs) = w2 + 4294967296 * w + r
   omega
 · have hie : i = 0 := by omega
   subst hie
   rw [List.drop_zero, List.drop_zero] at h5
   have hv : zm out = zm n / x ∧ rs = zm n % x := by
     rw [h5, Nat.mul_comm]
     constructor
     · rw [Nat.add_comm, Nat.add_mul_div_right _ _ hx.1, Nat.div_eq_of_lt h4, Nat.zero_add]
     · rw [Nat.add_comm, Nat.add_mul_mod_self_right, Nat.mod_eq_of_lt h4]
   have hc := zCw _ h3 (by omega)
   rw [hv.1] at hc
   obtain ⟨_, hv2⟩ := hv
   repeat (first | refine zD (zF rfl) ?_ | refine zA ?_ | refine zG ?_ | refine zC rfl ?_ | refine zx ?_ | refine zW ?_ | refine zX ?_ | refine zi ?_)
   refine zCZ 0 39 n.length [(7, .int .u64 (rs : Nat))] rfl zAY rfl (by show _ ≤ out.length; omega) ⟨rfl, trivial⟩ ?_
   refine zM rfl rfl (zCH h2) hc ?_
   repeat (refine zD (zF rfl) ?_)
   refine zD (zAX (m := rs) rfl rfl rfl zDm (by omega)) ?_
   repeat (first | refine zD (zE rfl) ?_ | refine zB ?_ | refine zA ?_ | refine zH ?_)
   refine zR hR rfl ?_
   rw [hv2]; rfl
end Go.Proofs.YtgmleamhjnlknaaGreatDoor
namespace Go.Ax.Bg
/-- So many limbs of a number. -/
def zBT : Nat → Nat → List Int
 | 0, _ => []
 | k + 1, v => ((v % 4294967296 : Nat) : Int) :: zBT k (v / 4294967296)
theorem zBS : ∀ (k v : Nat), (zBT k v).length = k
 | 0, _ => rfl
 | k + 1, v => by rw [zBT, List.length_cons, zBS]
theorem zEL : ∀ (k v : Nat), Lim (zBT k v)
 | 0, _ => Lim.nil
 | k + 1, v => by rw [zBT, Lim.cons]; exact ⟨zCu v, zEL k _⟩
theorem zGL : ∀ (k v : Nat), v < B ^ k → zm (zBT k v) = v
 | 0, v, h => by simp at h; subst h; rfl
 | k + 1, v, h => by
   rw [zBT, zm, Int.toNat_natCast, zGL k]
   · unfold B; omega
   · rw [Nat.pow_succ, Nat.mul_comm] at h
     exact Nat.div_lt_of_lt_mul h
theorem zFW : ∀ {l : List Int} {k v : Nat}, Lim l → l.length = k → zm l = v → l = zBT k v
 | [], k, v, _, hk, _ => by simp at hk; subst hk; rfl
 | x :: r, k, v, h, hk, hv => by
   rw [Lim.cons] at h
   obtain ⟨m, rfl⟩ : ∃ m, k = m + 1 := ⟨r.length, by simpa using hk.symm⟩
   rw [zm] at hv
   subst hv
   have hx : x.toNat < 4294967296 := by omega
   rw [zBT, Nat.add_mul_mod_self_left, Nat.mod_eq_of_lt hx, Nat.add_mul_div_left _ _ (by decide), Nat.div_eq_of_lt hx, Nat.zero_add]
   rw [← zFW h.2 (by simpa using hk) rfl]
   congr 1
   omega
theorem zEw {A U C : List Int} {j i : Nat} (hj : A.length = j) (h : i < U.length) : (A ++ (U ++ C)).getD (j + i) 0 = U.getD i 0 := by
 subst hj
 simp only [List.getD]
 rw [List.getElem?_append_right (by omega), Nat.add_sub_cancel_left, List.getElem?_append_left h]
theorem zLy {A U C : List Int} {j i : Nat} {x : Int} (hj : A.length = j) (h : i < U.length) : (A ++ (U ++ C)).set (j + i) x = A ++ (U.set i x ++ C) := by
 subst hj
 rw [List.set_append_right _ _ (by omega), Nat.add_sub_cancel_left, List.set_append_left _ _ h]
theorem zD5 {l : List Int} {i : Nat} {x : Int} (h : i < l.length) : (l.set i x).take (i + 1) = l.take i ++ [x] := by
 have h2 : i < (l.set i x).length := by simpa using h
 rw [zAU (l.set i x) 0 i h2]
 congr 1
 · rw [List.take_set_of_le (Nat.le_refl _)]
 · simp [List.getD, h]
/-- The three limbs on top. -/
theorem top3 {U : List Int} {s u0 u1 u2 : Nat} (hs : 2 ≤ s) (hl : U.length = s + 1) (h : Lim U) (h0 : U.getD s 0 = (u0 : Int)) (h1 : U.getD (s - 1) 0 = (u1 : Int)) (h2 : U.getD (s - 2) 0 = (u2 : Int)) :
   ∃ low, low < B ^ (s - 2) ∧ zm U = low + ((u0 * 4294967296 + u1) * 4294967296 + u2) * B ^ (s - 2) := by
 refine ⟨zm (U.take (s - 2)), ?_, ?_⟩
 · have := zAp (h.take (s - 2))
   rwa [List.length_take, Nat.min_eq_left (by omega)] at this
 · have e : zm U = zm (U.take (s - 2 + 1 + 1 + 1)) := by rw [List.take_of_length_le (by omega)]
   rw [e, zAF, zAF, zAF, show s - 2 + 1 + 1 = s by omega, show s - 2 + 1 = s - 1 by omega, h0, h1, h2]
   simp only [Int.toNat_natCast]
   have p1 : B ^ (s - 1) = B ^ (s - 2) * 4294967296 := by rw [show s - 1 = s - 2 + 1 by omega, Nat.pow_succ]
   have p0 : B ^ s = B ^ (s - 2) * 4294967296 * 4294967296 := by rw [show s = s - 2 + 1 + 1 by omega, Nat.pow_succ, Nat.pow_succ]; rfl
   rw [p1, p0]
   generalize B ^ (s - 2) = p
   rw [Nat.add_mul, Nat.add_mul, Nat.add_mul]
   rw [show p * 4294967296 * 4294967296 * u0 = u0 * 4294967296 * 4294967296 * p by ac_rfl, show p * 4294967296 * u1 = u1 * 4294967296 * p by ac_rfl, Nat.mul_comm p u2]
   omega
theorem top2 {V : List Int} {s v1 v2 : Nat} (hs : 2 ≤ s) (hl : V.length = s) (h : Lim V) (h1 : V.getD (s - 1) 0 = (v1 : Int)) (h2 : V.getD (s - 2) 0 = (v2 : Int)) :
   ∃ low, low < B ^ (s - 2) ∧ zm V = low + (v1 * 4294967296 + v2) * B ^ (s - 2) := by
 refine ⟨zm (V.take (s - 2)), ?_, ?_⟩
 · have := zAp (h.take (s - 2))
   rwa [List.length_take, Nat.min_eq_left (by omega)] at this
 · have e : zm V = zm (V.take (s - 2 + 1 + 1)) := by rw [List.take_of_length_le (by omega)]
   rw [e, zAF, zAF, show s - 2 + 1 = s - 1 by omega, h1, h2]
   simp only [Int.toNat_natCast]
   have p1 : B ^ (s - 1) = B ^ (s - 2) * 4294967296 := by rw [show s - 1 = s - 2 + 1 by omega, Nat.pow_succ]
   rw [p1]
   generalize B ^ (s - 2) = p
   rw [Nat.add_mul, show p * 4294967296 * v1 = v1 * 4294967296 * p by ac_rfl, Nat.mul_comm p v2]
   omega
theorem est0 {u v U3 V2 P g lu lv : Nat} (hP : 0 < P) (hlu : lu < P) (eu : u = lu + U3 * P) (hlv : lv < P) (ev : v = lv + V2 * P) (hV2 : 4294967296 ≤ V2) (hlt : u < 4294967296 * v) (hg : g ≤ 4294967295) (hgV : g * V2 ≤ U3)
   (hmax : ∀ g', g' ≤ 4294967295 → g' * V2 ≤ U3 → g' ≤ g) : u / v ≤ g ∧ g ≤ u / v + 1 := by
 have hv0 : 0 < v := by
   have : 1 * P ≤ V2 * P := Nat.mul_le_mul_right _ (by omega)
   omega
 have hq : u / v ≤ 4294967295 := by
   have := Nat.div_lt_of_lt_mul (n := v) (k := 4294967296) (m := u) (by rw [Nat.mul_comm]; exact hlt)
   omega
 constructor
 · refine hmax _ hq (est_ge (u := u) (v := v) hP ?_ ?_ (Nat.div_mul_le_self u v))
   · rw [Nat.add_mul]; omega
   · omega
 · rcases Nat.eq_zero_or_pos g with q | q
   · rw [q]; exact Nat.zero_le _
   · have := est_le (u := u) (v := v) (P := P) hP (by omega) (by rw [Nat.add_mul]; omega) hgV (by omega) q
     have h3 : g - 1 ≤ u / v := by rw [Nat.le_div_iff_mul_le hv0]; exact this
     omega
/-- The estimate is the zBF or one more. -/
theorem est {U V : List Int} {s u0 u1 u2 v1 v2 g : Nat} (hs : 2 ≤ s) (hl : U.length = s + 1) (hlv : V.length = s) (h : Lim U) (hv : Lim V) (h0 : U.getD s 0 = (u0 : Int)) (h1 : U.getD (s - 1) 0 = (u1 : Int)) (h2 : U.getD (s - 2) 0 = (u2 : Int))
   (k1 : V.getD (s - 1) 0 = (v1 : Int)) (k2 : V.getD (s - 2) 0 = (v2 : Int)) (htop : 2147483648 ≤ v1) (hlt : zm U < 4294967296 * zm V) (hg : g ≤ 4294967295) (hgV : g * (v1 * 4294967296 + v2) ≤ (u0 * 4294967296 + u1) * 4294967296 + u2)
   (hmax : ∀ g', g' ≤ 4294967295 → g' * (v1 * 4294967296 + v2) ≤ (u0 * 4294967296 + u1) * 4294967296 + u2 → g' ≤ g) : zm U / zm V ≤ g ∧ g ≤ zm U / zm V + 1 := by
 obtain ⟨lu, hlu, eu⟩ := top3 hs hl h h0 h1 h2
 obtain ⟨lv, hlv', ev⟩ := top2 hs hlv hv k1 k2
 exact est0 (bpos _) hlu eu hlv' ev (by omega) hlt hg hgV hmax
theorem and_low (m : Nat) : m &&& 4294967295 = m % 4294967296 := by
 have := Nat.and_two_pow_sub_one_eq_mod m 32
 have e : 2 ^ 32 - 1 = 4294967295 := by decide
 rw [e, p32] at this
 exact this
/-- One limb of the subtraction. -/
theorem zK5 {Uc U V : List Int} {i g cr br ui vi yv b' : Nat} (hi : i < Uc.length) (h : zm (Uc.take i) + g * zm (V.take i) = zm (U.take i) + B ^ i * (cr + br)) (hu : U.getD i 0 = (ui : Int)) (hv : V.getD i 0 = (vi : Int))
   (hy : yv + ((cr + g * vi) % 4294967296 + br) = ui + 4294967296 * b') :
   zm ((Uc.set i (yv : Int)).take (i + 1)) + g * zm (V.take (i + 1)) = zm (U.take (i + 1)) + B ^ (i + 1) * ((cr + g * vi) / 4294967296 + b') := by
 rw [zD5 hi, zCj, List.length_take, Nat.min_eq_left (by omega), zAF, zAF, hu, hv, Int.toNat_natCast, Int.toNat_natCast, Int.toNat_natCast, Nat.pow_succ]
 have := sub_step (P := B ^ i) h b' (t := g * vi) (y := yv) (ui := ui) (by unfold B; omega)
 rw [Nat.mul_add, Nat.mul_left_comm g (B ^ i) vi]
 exact this
theorem zMC {a br e : Nat} (ha : a < 4294967296) (he : e < 4294967296) (hb : br ≤ 1) : ∃ yv b' : Nat, yv + (e + br) = a + 4294967296 * b' ∧ b' ≤ 1 ∧ yv < 4294967296 ∧ ((a : Int) - e - br < 0 → b' = 1 ∧ (yv : Int) = a - e - br + 4294967296) ∧ (¬ (a : Int) - e - br < 0 → b' = 0 ∧ (yv : Int) = a - e - br) := by
 rcases Nat.lt_or_ge a (e + br) with q | q
 · exact ⟨a + 4294967296 - (e + br), 1, by omega, by omega, by omega, fun h => ⟨rfl, by omega⟩, fun h => by omega⟩
 · exact ⟨a - (e + br), 0, by omega, by omega, by omega, fun h => by omega, fun h => ⟨rfl, by omega⟩⟩
/-- One limb of the sum in place. -/
theorem zL1 {Uc U V : List Int} {i sm ui vi : Nat} (hi : i < Uc.length) (h : zm (Uc.take i) + B ^ i * sm = zm (U.take i) + zm (V.take i)) (hu : U.getD i 0 = (ui : Int)) (hv : V.getD i 0 = (vi : Int)) :
   zm ((Uc.set i (((sm + ui + vi) % 4294967296 : Nat) : Int)).take (i + 1)) + B ^ (i + 1) * ((sm + ui + vi) / 4294967296) = zm (U.take (i + 1)) + zm (V.take (i + 1)) := by
 rw [zD5 hi]
 exact zKJ (by simp; omega) h hu hv
end Go.Ax.Bg
namespace Go.Proofs.YtgmleamhjnlknaaGreatDoor
open Go.Ax Go.Ax.Bg Go.RowKit
attribute [local irreducible] Ax zAV QOp zV
set_option maxRecDepth 100000
set_option maxHeartbeats 4000000
theorem zKp (a b : Nat) (ha : (zh a).length ≤ 100000000) (hb : (zh b).length ≤ 100000000) : zk Tryz.prog 102 [zAL a, zAL b] (zAL (a * b)) := by
 refine zV.value0 (zN (P := Tryz.prog) (fn := Tryz.f102) rfl rfl (by kernel_rfl) rfl (fun c hR hfix => ?_)) (fix := fun _ => False) (fun _ h => h) rfl rfl
 have hx := zAW a
 have hy := zAW b
 have hv : zm (zh a) * zm (zh b) = a * b := by rw [zAG, zAG]
 unfold zAL
 rw [← hv] at hR
 generalize zh a = x at *
 generalize zh b = y at *
 repeat (first | refine zD (zF rfl) ?_ | refine zD (zE rfl) ?_ | refine zB ?_ | refine zA ?_ | refine zG ?_ | refine zC rfl ?_ | refine zD (zw rfl rfl rfl) ?_ | refine zD (zAK rfl rfl (by omega)) ?_)
 refine zCS rfl rfl rfl rfl rfl rfl rfl rfl (by show (0 : Int) ≤ _ ∧ _ ≤ _ ∧ (4 : Int) * _ ≤ _ ∧ _; omega) ?_
 rw [show ((x.length : Int) + (y.length : Int)).toNat = x.length + y.length by omega]
 repeat (first | refine zD (zF rfl) ?_ | refine zD (zE rfl) ?_ | refine zB ?_ | refine zA ?_ | refine zG ?_ | refine zC rfl ?_ | refine zT ?_ | refine zD (zw rfl rfl rfl) ?_)
 refine zAC (ι := Nat × List Int) (fun p => [(1, .ro (.ints .u32 y) 0 y.length), (5, .sl 0 0 (x.length + y.length)), (17, .ro (.ints .u32 x) 0 x.length), (18, .int .i64 (x.length : Nat)), (19, .int .i64 (p.1 : Nat))]) (fun p => [some ⟨193, .ints .u32 p.2⟩])
   (fun p => p.1 ≤ x.length ∧ p.2.length = x.length + y.length ∧ Lim p.2 ∧ zm p.2 = zm (x.take p.1) * zm y ∧ ∀ q, p.1 + y.length ≤ q → p.2.getD q 0 = 0) (fun p => x.length - p.1) (0, List.replicate (x.length + y.length) 0) ⟨⟨rfl, rfl, rfl, rfl, rfl, trivial⟩, rfl, Nat.zero_le _, by simp, Lim.zeros _, by simp [zm, zFq], fun q _ => zJz _ _⟩ ?_
 rintro ⟨i, out⟩ ⟨h1, h2, h3, h4, h5⟩
 simp only at *
 repeat (first | refine zB ?_ | refine zA ?_ | refine zG ?_ | refine zC rfl ?_ | refine zD (zAQ rfl rfl) ?_)
 refine zK rfl (fun h6 => ?_) (fun h6 => ?_)
 · have hil : i < x.length := by omega
   obtain ⟨d, hd, hdB⟩ := hx.nat i
   repeat (first | refine zD (zF rfl) ?_ | refine zD (zE rfl) ?_ | refine zD (z6 rfl rfl rfl) ?_ | refine zB ?_ | refine zA ?_ | refine zG ?_ | refine zC rfl ?_ | refine zT ?_ | refine zP ?_ | refine zD (zw rfl rfl rfl) ?_ | refine zD (zY rfl rfl rfl rfl (by first | (simp only [Nat.zero_add, Int.toNat_natCast, Int.toNat_zero]; exact rfl) | exact rfl) (by omega)) ?_)
   refine zAv 7 (.int .u32 (d : Nat)) rfl (AEq.of_eq (by rw [hd])) ?_
   refine zAC (ι := Nat × List Int × Nat) (fun p => [(1, .ro (.ints .u32 y) 0 y.length), (5, .sl 0 0 (x.length + y.length)), (6, .int .i64 (i : Nat)), (7, .int .u32 (d : Nat)), (8, .int .u64 (p.2.2 : Nat)), (17, .ro (.ints .u32 x) 0 x.length), (18, .int .i64 (x.length : Nat)), (19, .int .i64 (i : Nat)), (24, .ro (.ints .u32 y) 0 y.length), (25, .int .i64 (y.length : Nat)), (26, .int .i64 (p.1 : Nat))]) (fun p => [some ⟨193, .ints .u32 p.2.1⟩])
     (fun p => p.1 ≤ y.length ∧ p.2.1.length = x.length + y.length ∧ Lim p.2.1 ∧ p.2.2 < 4294967296 ∧ zm p.2.1 + B ^ (i + p.1) * p.2.2 = zm (x.take i) * zm y + B ^ i * (d * zm (y.take p.1)) ∧ ∀ q, i + y.length ≤ q → p.2.1.getD q 0 = 0) (fun p => y.length - p.1) (0, out, 0) ⟨⟨rfl, rfl, rfl, rfl, rfl, rfl, rfl, rfl, rfl, rfl, rfl, trivial⟩, rfl, Nat.zero_le _, h2, h3, Nat.zero_lt_succ _, by simp [zm, h4], h5⟩ ?_
   rintro ⟨j, o2, cr⟩ ⟨k1, k2, k3, k4, k5, k6⟩
   simp only at *
   repeat (first | refine zB ?_ | refine zA ?_ | refine zG ?_ | refine zC rfl ?_ | refine zD (zAQ rfl rfl) ?_)
   refine zK rfl (fun k7 => ?_) (fun k7 => ?_)
   · have hjl : j < y.length := by omega
     obtain ⟨e, he, heB⟩ := hy.nat j
     obtain ⟨f, hf, hfB⟩ := k3.nat (i + j)
     have hb1 : d * e ≤ 4294967295 * 4294967295 := Nat.mul_le_mul (by omega) (by omega)
     repeat (first | refine zD (zF rfl) ?_ | refine zD (zE rfl) ?_ | refine zD (z6 rfl rfl rfl) ?_ | refine zB ?_ | refine zA ?_ | refine zG ?_ | refine zC rfl ?_ | refine zT ?_ | refine zP ?_ | refine zD (zY rfl rfl rfl rfl (by first | (simp only [Nat.zero_add, Int.toNat_natCast, Int.toNat_zero]; exact rfl) | exact rfl) (by omega)) ?_)
     refine zD (zAX (m := d) rfl rfl rfl zA2 (by omega)) ?_
     repeat (refine zD (zF rfl) ?_)
     refine zU 34 (.int .u32 (e : Nat)) rfl (AEq.of_eq (by rw [he])) ?_
     refine zD (zAX (m := e) rfl rfl rfl zA2 (by omega)) ?_
     refine zD (zGW rfl rfl zA2 (by omega)) ?_
     repeat (first | refine zD (zF rfl) ?_ | refine zD (zAK rfl rfl (by omega)) ?_)
     refine zU 40 (.int .i64 (i + j : Nat)) rfl (AEq.of_eq (by rw [Int.natCast_add])) ?_
     repeat (first | refine zD (zu rfl rfl rfl rfl rfl (by first | (simp only [Nat.zero_add, Int.toNat_natCast, Int.toNat_zero]; exact rfl) | exact rfl) (by omega)) ?_ | refine zD (zAP rfl rfl rfl rfl (by first | assumption | omega)) ?_)
     refine zU 42 (.int .u32 (f : Nat)) rfl (AEq.of_eq (by rw [hf])) ?_
     refine zD (zAX (m := f) rfl rfl rfl zA2 (by omega)) ?_
     refine zD (zD4 rfl rfl zA2 (by omega)) ?_
     refine zD (zD4 rfl rfl zA2 (by omega)) ?_
     repeat (first | refine zD (zF rfl) ?_ | refine zD (zE rfl) ?_ | refine zB ?_ | refine zA ?_ | refine zG ?_ | refine zC rfl ?_ | refine zD (zAK rfl rfl (by omega)) ?_)
     refine zD (zEc rfl rfl rfl zDm) ?_
     refine zU 49 (.int .i64 (i + j : Nat)) rfl (AEq.of_eq (by rw [Int.natCast_add])) ?_
     repeat (first | refine zD (zF rfl) ?_ | refine zB ?_ | refine zA ?_ | refine zC rfl ?_ | refine zD (zu rfl rfl rfl rfl rfl (by first | (simp only [Nat.zero_add, Int.toNat_natCast, Int.toNat_zero]; exact rfl) | exact rfl) (by omega)) ?_ | refine zAr rfl rfl rfl rfl rfl rfl rfl (by first | assumption | (show _ < List.length _; first | assumption | omega)) ?_)
     refine zD (zET (s := 32) rfl rfl rfl) ?_
     repeat (first | refine zD (zF rfl) ?_ | refine zD (zE rfl) ?_ | refine zB ?_ | refine zA ?_ | refine zC rfl ?_ | refine zZ ?_ | refine zD (zAK rfl rfl (by omega)) ?_)
     refine zd ⟨(j + 1, o2.set (i + j) (((cr + (d * e + f)) % 4294967296 : Nat) : Int), (cr + (d * e + f)) / 4294967296), ⟨by simp only; omega, by simp [k2], k3.set (zCu _), by simp only; omega, ?_, fun q hq => ?_⟩, by simp only; omega, ⟨rfl, rfl, rfl, rfl, rfl, rfl, rfl, rfl, rfl, rfl, rfl, trivial⟩, rfl⟩
     · have := mul_step (cr := cr) (a := d) (b := e) (p := i + j) (by omega) k5 hf
       simp only
       rw [show i + (j + 1) = i + j + 1 from rfl, this, zAF y j, he, Int.toNat_natCast, Nat.add_assoc]
       congr 1
       rw [Nat.mul_add, Nat.mul_add, Nat.pow_add]
       congr 1
       ac_rfl
     · simp only
       rw [zCO (by omega)]; exact k6 q hq
   · have hje : j = y.length := by omega
     subst hje
     rw [List.take_length] at k5
     have hz := k6 (i + y.length) (Nat.le_refl _)
     have hset := zHO (x := (cr : Int)) (show i + y.length < o2.length by omega)
     rw [hz, Int.toNat_natCast] at hset
     repeat (first | refine zD (zF rfl) ?_ | refine zA ?_ | refine zC rfl ?_ | refine zx ?_ | refine zW ?_ | refine zX ?_ | refine zi ?_ | refine zD (zw rfl rfl rfl) ?_ | refine zD (zAK rfl rfl (by omega)) ?_)
     refine zD (zAX (m := cr) rfl rfl rfl zDm k4) ?_
     refine zU 60 (.int .i64 (i + y.length : Nat)) rfl (AEq.of_eq (by rw [Int.natCast_add])) ?_
     repeat (first | refine zD (zF rfl) ?_ | refine zB ?_ | refine zA ?_ | refine zC rfl ?_ | refine zZ ?_ | refine zD (zAK rfl rfl (by omega)) ?_ | refine zD (zu rfl rfl rfl rfl rfl (by first | (simp only [Nat.zero_add, Int.toNat_natCast, Int.toNat_zero]; exact rfl) | exact rfl) (by omega)) ?_ | refine zAr rfl rfl rfl rfl rfl rfl rfl (by first | assumption | (show _ < List.length _; first | assumption | omega)) ?_)
     refine zd ⟨(i + 1, o2.set (i + y.length) (cr : Int)), ⟨by simp only; omega, by simp [k2], k3.set (by omega), ?_, fun q hq => ?_⟩, by simp only; omega, ⟨rfl, rfl, rfl, rfl, rfl, trivial⟩, rfl⟩
     · simp only
       rw [zAF x i, hd, Int.toNat_natCast, Nat.add_mul, Nat.mul_assoc, ← k5]
       have : (0 : Int).toNat = 0 := rfl
       rw [this] at hset
       omega
     · simp only at hq ⊢
       rw [zCO (by omega)]; exact k6 q (by omega)
 · have hie : i = x.length := by omega
   subst hie
   rw [List.take_length] at h4
   have hc := zCw _ h3 (by omega)
   rw [h4] at hc
   repeat (first | refine zD (zF rfl) ?_ | refine zA ?_ | refine zG ?_ | refine zC rfl ?_ | refine zx ?_ | refine zW ?_ | refine zX ?_ | refine zi ?_)
   refine zCZ 0 65 (x.length + y.length) [] rfl zAY rfl (by show _ ≤ out.length; omega) trivial ?_
   refine zM rfl rfl (zCH h2) hc ?_
   repeat (first | refine zD (zE rfl) ?_ | refine zB ?_ | refine zA ?_ | refine zH ?_)
   exact zR hR rfl rfl
/-- shift: limbs of one's own. -/
theorem zJl (n : List Int) (s : Nat) (hn : Lim n) (hlen : n.length ≤ 100000000) (hs : s < 32) :
   zIp Tryz.prog 177 [zEh n, .int .i64 (s : Nat)] (fun h => .sl h 0 (n.length + 1)) ⟨193, .ints .u32 (zBT (n.length + 1) (zm n * 2 ^ s))⟩ := by
 refine zV.fresh (K := fun r H => r = .sl 0 0 (n.length + 1) ∧ H = [some ⟨193, .ints .u32 (zBT (n.length + 1) (zm n * 2 ^ s))⟩]) (zN (P := Tryz.prog) (fn := Tryz.f177) rfl rfl (by kernel_rfl) rfl (fun c hR hfix => ?_)) (fix := fun _ => False) (fun _ h => h) rfl (fun H => ⟨rfl, trivial, trivial, trivial⟩) ?_
 · have hp : 2 ^ s ≤ 2147483648 := by
     have := Nat.pow_le_pow_right (show 0 < 2 by decide) (show s ≤ 31 by omega)
     exact Nat.le_trans this (by decide)
   have hp1 : 0 < 2 ^ s := Nat.pow_pos (by decide)
   unfold zEh
   repeat (first | refine zD (zF rfl) ?_ | refine zD (zE rfl) ?_ | refine zB ?_ | refine zA ?_ | refine zG ?_ | refine zC rfl ?_ | refine zD (zw rfl rfl rfl) ?_ | refine zD (zAK rfl rfl (by omega)) ?_)
   refine zCS rfl rfl rfl rfl rfl rfl rfl rfl (by show (0 : Int) ≤ 0 ∧ _ ≤ _ ∧ (4 : Int) * _ ≤ _ ∧ _; omega) ?_
   repeat (first | refine zD (zF rfl) ?_ | refine zD (zE rfl) ?_ | refine zB ?_ | refine zA ?_ | refine zG ?_ | refine zC rfl ?_ | refine zT ?_ | refine zD (zw rfl rfl rfl) ?_)
   refine zH2 0 (.ints .u32 []) rfl ⟨Nat.zero_le _, rfl, fun i j hi _ => absurd hi (Nat.not_lt_zero _)⟩ ?_
   refine zAC (ι := Nat × List Int × Nat) (fun p => [(1, .int .i64 (s : Nat)), (5, .sl 0 0 p.1), (6, .int .u64 (p.2.2 : Nat)), (13, .ro (.ints .u32 n) 0 n.length), (14, .int .i64 (n.length : Nat)), (15, .int .i64 (p.1 : Nat))]) (fun p => [some ⟨193, .ints .u32 p.2.1⟩])
     (fun p => p.1 ≤ n.length ∧ p.2.1.length = p.1 ∧ Lim p.2.1 ∧ p.2.2 < 2 ^ s ∧ zm p.2.1 + B ^ p.1 * p.2.2 = zm (n.take p.1) * 2 ^ s) (fun p => n.length - p.1) (0, [], 0) ⟨⟨rfl, rfl, rfl, rfl, rfl, rfl, trivial⟩, rfl, Nat.zero_le _, rfl, Lim.nil, hp1, by simp [zm]⟩ ?_
   rintro ⟨i, out, cr⟩ ⟨h1, h2, h3, h4, h5⟩
   simp only at *
   repeat (first | refine zB ?_ | refine zA ?_ | refine zG ?_ | refine zC rfl ?_ | refine zD (zAQ rfl rfl) ?_)
   refine zK rfl (fun h6 => ?_) (fun h6 => ?_)
   · have hil : i < n.length := by omega
     obtain ⟨d, hd, hdB⟩ := hn.nat i
     have hor : cr ||| d * 2 ^ s = cr + d * 2 ^ s := by
       have := Nat.two_pow_add_eq_or_of_lt h4 d
       rw [Nat.or_comm, Nat.mul_comm d, ← this, Nat.add_comm]
     have hdm : d * 2 ^ s ≤ 4294967295 * 2147483648 := Nat.mul_le_mul (by omega) hp
     have hq : (cr + d * 2 ^ s) / 4294967296 < 2 ^ s := by
       refine Nat.div_lt_of_lt_mul ?_
       have : (d + 1) * 2 ^ s ≤ 4294967296 * 2 ^ s := Nat.mul_le_mul_right _ (by omega)
       rw [Nat.add_mul] at this
       omega
     repeat (first | refine zD (zF rfl) ?_ | refine zD (zE rfl) ?_ | refine zD (z6 rfl rfl rfl) ?_ | refine zB ?_ | refine zA ?_ | refine zG ?_ | refine zC rfl ?_ | refine zT ?_ | refine zP ?_ | refine zD (zY rfl rfl rfl rfl (by first | (simp only [Nat.zero_add, Int.toNat_natCast, Int.toNat_zero]; exact rfl) | exact rfl) (by omega)) ?_)
     refine zU 20 (.int .u32 (d : Nat)) rfl (AEq.of_eq (by rw [hd])) ?_
     refine zD (zAX (m := d) rfl rfl rfl zA2 (by omega)) ?_
     repeat (refine zD (zF rfl) ?_)
     refine zD (zHz (m := d) (s := s) rfl rfl (by show s ≤ 64; omega) zA2 (by omega)) ?_
     refine zD (QOp.res (zJc rfl rfl zA2 rfl (by omega) (by omega)) (by rw [hor])) ?_
     repeat (first | refine zD (zF rfl) ?_ | refine zD (zE rfl) ?_ | refine zB ?_ | refine zA ?_ | refine zG ?_ | refine zC rfl ?_)
     refine zD (zEc rfl rfl rfl zDm) ?_
     repeat (refine zS rfl rfl rfl rfl rfl rfl rfl rfl rfl rfl rfl ?_)
     refine zAE rfl rfl rfl rfl rfl rfl rfl rfl rfl h2 rfl rfl (Nat.le_refl 1) rfl (by show (i + 1) * 4 ≤ _ ∧ _; omega) (fun i j _ _ => rfl) (by rw [hfix]; exact fun h => h) ?_
     repeat (first | refine zD (zF rfl) ?_ | refine zD (zE rfl) ?_ | refine zB ?_ | refine zA ?_ | refine zC rfl ?_)
     refine zD (zET (s := 32) rfl rfl rfl) ?_
     repeat (first | refine zD (zF rfl) ?_ | refine zD (zE rfl) ?_ | refine zB ?_ | refine zA ?_ | refine zC rfl ?_ | refine zZ ?_ | refine zD (zAK rfl rfl (by omega)) ?_)
     refine zd ⟨(i + 1, out ++ [(((cr + d * 2 ^ s) % 4294967296 : Nat) : Int)], (cr + d * 2 ^ s) / 4294967296), ⟨by simp only; omega, by simp [h2], Lim.append.2 ⟨h3, Lim.one (zCu _)⟩, hq, ?_⟩, by simp only; omega, ⟨rfl, rfl, rfl, rfl, rfl, rfl, trivial⟩, rfl⟩
     have := zFu h2 h5 (c := cr + d * 2 ^ s) (d := d * 2 ^ s) rfl
     simp only at this ⊢
     rw [this, zAF n i, hd, Int.toNat_natCast, Nat.add_mul, Nat.mul_assoc]
   · have hie : i = n.length := by omega
     subst hie
     rw [List.take_length] at h5
     repeat (first | refine zD (zF rfl) ?_ | refine zA ?_ | refine zG ?_ | refine zC rfl ?_ | refine zx ?_ | refine zW ?_ | refine zX ?_ | refine zi ?_)
     refine zD (zAX (m := cr) rfl rfl rfl zDm (by omega)) ?_
     repeat (refine zS rfl rfl rfl rfl rfl rfl rfl rfl rfl rfl rfl ?_)
     refine zAE rfl rfl rfl rfl rfl rfl rfl rfl rfl h2 rfl rfl (Nat.le_refl 1) rfl (by show (n.length + 1) * 4 ≤ _ ∧ _; omega) (fun i j _ _ => rfl) (by rw [hfix]; exact fun h => h) ?_
     have hl : Lim (out ++ [(cr : Int)]) := Lim.append.2 ⟨h3, Lim.one (by omega)⟩
     have hv : zm (out ++ [(cr : Int)]) = zm n * 2 ^ s := by
       rw [zCj, h2, Int.toNat_natCast]; exact h5
     have hfx := zFW hl (k := n.length + 1) (by simp [h2]) hv
     repeat (first | refine zD (zE rfl) ?_ | refine zB ?_ | refine zA ?_ | refine zH ?_)
     refine zR hR rfl ⟨rfl, ?_⟩
     show ([some ⟨193, .ints .u32 (out ++ [(cr : Int)])⟩] : zg) = _
     rw [hfx]
 · rintro r H ⟨rfl, rfl⟩
   refine ⟨fun o ho => by simp at ho; subst ho; show 0 + (n.length + 1) ≤ (zBT _ _).length; rw [zBS]; omega, zGp zAY, 0, rfl, fun k => rfl⟩
end Go.Proofs.YtgmleamhjnlknaaGreatDoor
namespace Go.Proofs.YtgmleamhjnlknaaGreatDoor
open Go.Ax Go.Ax.Bg Go.RowKit
attribute [local irreducible] Ax zAV QOp zV
set_option maxRecDepth 100000
set_option maxHeartbeats 4000000
theorem digit_ok (A U C V : List Int) (j s : Nat) (Hr : zg) (hj : A.length = j) (hs : 2 ≤ s) (hl : U.length = s + 1) (hlv : V.length = s) (hU : Lim U) (hV : Lim V) (htop : 2147483648 ≤ V.getD (s - 1) 0) (hlt : zm U < 4294967296 * zm V)
   (hsz : (A ++ (U ++ C)).length ≤ 1000000000) :
   zV Tryz.prog 178 [.sl 0 j (s + 1), zEh V] (some ⟨193, .ints .u32 (A ++ (U ++ C))⟩ :: Hr) (fun h => h < Hr.length + 1)
     (fun r H => r = .int .u32 (zm U / zm V : Nat) ∧ H = some ⟨193, .ints .u32 (A ++ (zBT (s + 1) (zm U % zm V) ++ C))⟩ :: Hr) := by
 refine zN (P := Tryz.prog) (fn := Tryz.f178) rfl rfl (by kernel_rfl) rfl (fun c hR hfix => ?_)
 have hsd := hlv
 obtain ⟨u0, h0, b0⟩ := hU.nat s
 obtain ⟨u1, h1, b1⟩ := hU.nat (s - 1)
 obtain ⟨u2, h2, b2⟩ := hU.nat (s - 2)
 obtain ⟨v1, k1, c1⟩ := hV.nat (s - 1)
 obtain ⟨v2, k2, c2⟩ := hV.nat (s - 2)
 have htop' : 2147483648 ≤ v1 := by omega
 have hest := fun g => est (g := g) hs hl hsd hU hV h0 h1 h2 k1 k2 htop' hlt
 have g0 := zEw (C := C) hj (show s < U.length by omega)
 have g1 := zEw (C := C) hj (show s - 1 < U.length by omega)
 have g2 := zEw (C := C) hj (show s - 2 < U.length by omega)
 rw [h0] at g0; rw [h1] at g1; rw [h2] at g2
 have hlen : (A ++ (U ++ C)).length = j + (s + 1) + C.length := by simp [hj, hl]; omega
 have hv0 : 0 < zm V := by
   have := zAF V (s - 1)
   rw [show s - 1 + 1 = V.length by omega, List.take_length, k1, Int.toNat_natCast] at this
   have h3 : B ^ (s - 1) * 1 ≤ B ^ (s - 1) * v1 := Nat.mul_le_mul_left _ (by omega)
   have := bpos (s - 1)
   omega
 unfold zEh
 rw [hsd]
 repeat (first | refine zD (zF rfl) ?_ | refine zD (zE rfl) ?_ | refine zB ?_ | refine zA ?_ | refine zG ?_ | refine zC rfl ?_ | refine zD (zw rfl rfl rfl) ?_)
 refine zCp (by kernel_rfl) (by kernel_rfl) rfl ?_
 repeat (first | refine zD (zF rfl) ?_ | refine zD (zu rfl rfl rfl rfl rfl (by first | (simp only [Nat.zero_add, Int.toNat_natCast, Int.toNat_zero]; exact rfl) | exact rfl) (by omega)) ?_ | refine zD (zAP rfl rfl rfl rfl (by first | assumption | omega)) ?_)
 refine zU 20 (.int .u32 (u0 : Nat)) rfl (AEq.of_eq (by rw [g0])) ?_
 refine zD (zAX (m := u0) rfl rfl rfl zA2 (by omega)) ?_
 refine zD (zHz (m := u0) (s := 32) rfl rfl (by decide) zA2 (zGe b0)) ?_
 repeat (first | refine zD (zF rfl) ?_ | refine zD (zBa rfl rfl (by omega)) ?_)
 refine zU 25 (.int .i64 (s - 1 : Nat)) rfl (AEq.of_eq (by congr 1; omega)) ?_
 repeat (first | refine zD (zu rfl rfl rfl rfl rfl (by first | (simp only [Nat.zero_add, Int.toNat_natCast, Int.toNat_zero]; exact rfl) | exact rfl) (by omega)) ?_ | refine zD (zAP rfl rfl rfl rfl (by first | assumption | omega)) ?_)
 refine zU 27 (.int .u32 (u1 : Nat)) rfl (AEq.of_eq (by rw [g1])) ?_
 refine zD (zAX (m := u1) rfl rfl rfl zA2 (by omega)) ?_
 refine zD (QOp.res (zJc rfl rfl zA2 rfl (zGe b0) (by omega)) (by rw [zK8 b1])) ?_
 have htb : u0 * 4294967296 + u1 < 18446744073709551616 := by omega
 obtain ⟨top, htp⟩ : ∃ top, u0 * 4294967296 + u1 = top := ⟨_, rfl⟩
 rw [htp] at hest htb ⊢
 repeat (first | refine zD (zF rfl) ?_ | refine zD (zE rfl) ?_ | refine zB ?_ | refine zA ?_ | refine zG ?_ | refine zC rfl ?_ | refine zD (zBa rfl rfl (by omega)) ?_)
 refine zU 33 (.int .i64 (s - 1 : Nat)) rfl (AEq.of_eq (by congr 1; omega)) ?_
 repeat (first | refine zD (z6 rfl rfl rfl) ?_ | refine zD (zY rfl rfl rfl rfl (by first | (simp only [Nat.zero_add, Int.toNat_natCast, Int.toNat_zero]; exact rfl) | exact rfl) (by omega)) ?_)
 refine zU 35 (.int .u32 (v1 : Nat)) rfl (AEq.of_eq (by rw [k1])) ?_
 refine zD (zAX (m := v1) rfl rfl rfl zA2 (by omega)) ?_
 refine zD (q_uquo rfl rfl zA2 htb (by omega)) ?_
 obtain ⟨gs, hgs, hg1, hg2⟩ : ∃ gs : Nat, (if ((4294967295 : Int) < ((top / v1 : Nat) : Int)) then (4294967295 : Int) else ((top / v1 : Nat) : Int)) = (gs : Int) ∧ gs ≤ 4294967295 ∧ (gs = 4294967295 ∨ gs = top / v1) ∧ gs ≤ top / v1 := by
   generalize top / v1 = z
   by_cases hz : (4294967295 : Int) < (z : Int)
   · exact ⟨4294967295, by rw [if_pos hz]; rfl, by omega, by omega, by omega⟩
   · exact ⟨z, by rw [if_neg hz], by omega, by omega, by omega⟩
 obtain ⟨hg2, hg3⟩ := hg2
 have hgm : gs * v1 ≤ top := Nat.le_trans (Nat.mul_le_mul_right _ hg3) (Nat.div_mul_le_self top v1)
 have hb0 := zIx (a := gs) (b := v1) (c := 0) (by omega) c1 (by decide)
 refine zD (q_min rfl rfl) ?_
 refine zU 38 (.int .u64 (gs : Nat)) rfl (AEq.of_eq (by rw [← hgs])) ?_
 repeat (first | refine zD (zF rfl) ?_ | refine zD (zE rfl) ?_ | refine zB ?_ | refine zA ?_ | refine zG ?_ | refine zC rfl ?_ | refine zD (zBa rfl rfl (by omega)) ?_)
 refine zU 43 (.int .i64 (s - 1 : Nat)) rfl (AEq.of_eq (by congr 1; omega)) ?_
 repeat (first | refine zD (z6 rfl rfl rfl) ?_ | refine zD (zY rfl rfl rfl rfl (by first | (simp only [Nat.zero_add, Int.toNat_natCast, Int.toNat_zero]; exact rfl) | exact rfl) (by omega)) ?_)
 refine zU 45 (.int .u32 (v1 : Nat)) rfl (AEq.of_eq (by rw [k1])) ?_
 refine zD (zAX (m := v1) rfl rfl rfl zA2 (by omega)) ?_
 refine zD (zGW rfl rfl zA2 hb0.1) ?_
 refine zD (zKk rfl rfl zA2 htb hgm) ?_
 repeat (first | refine zD (zE rfl) ?_ | refine zB ?_ | refine zA ?_ | refine zT ?_)
 refine zAC (ι := Nat × Nat) (fun p => [(0, .sl 0 j (s + 1)), (1, .ro (.ints .u32 V) 0 s), (5, .int .i64 (s : Nat)), (7, .int .u64 (p.1 : Nat)), (8, .int .u64 (p.2 : Nat))]) (fun _ => some ⟨193, .ints .u32 (A ++ (U ++ C))⟩ :: Hr)
   (fun p => p.1 ≤ 4294967295 ∧ p.2 + p.1 * v1 = top ∧ ∀ g', g' ≤ 4294967295 → g' * (v1 * 4294967296 + v2) ≤ top * 4294967296 + u2 → g' ≤ p.1) (fun p => p.1) (gs, top - gs * v1) ⟨⟨rfl, rfl, rfl, rfl, rfl, trivial⟩, rfl, hg1, by simp only; omega, fun g' q1 q2 => ?_⟩ ?_
 · have := guess_ge (by omega) b2 q2
   rcases hg2 with h | h
   · show g' ≤ gs; omega
   · show g' ≤ gs; rw [h]; exact this
 rintro ⟨g, r⟩ ⟨i1, i2, i3⟩
 simp only at *
 have htest := zKu (B := 4294967296) (u2 := u2) (v2 := v2) i2 (by omega) c2
 have hbg := zIx (a := g) (b := v2) (c := 0) (by omega) c2 (by decide)
 apply zAu (H := some ⟨193, .ints .u32 (A ++ (U ++ C))⟩ :: Hr) [(0, .sl 0 j (s + 1)), (1, .ro (.ints .u32 V) 0 s), (5, .int .i64 (s : Nat)), (7, .int .u64 (g : Nat)), (8, .int .u64 (r : Nat)), (70, .bool (decide (r < 4294967296 ∧ r * 4294967296 + u2 < g * v2)))]
 · intro fin
   repeat (refine zG ?_)
   refine zCp (by kernel_rfl) (by kernel_rfl) rfl ?_
   repeat (first | refine zD (zF rfl) ?_ | refine zD (zAQ rfl rfl) ?_)
   refine zAH rfl rfl (fun q0 => ?_) (fun q0 => ?_)
   · have q0' : r < 4294967296 := by omega
     repeat (first | refine zD (zF rfl) ?_ | refine zj rfl rfl ?_ | refine zD (zBa rfl rfl (by omega)) ?_)
     refine zU 55 (.int .i64 (s - 2 : Nat)) rfl (AEq.of_eq (by congr 1; omega)) ?_
     repeat (first | refine zD (z6 rfl rfl rfl) ?_ | refine zj rfl rfl ?_ | refine zD (zY rfl rfl rfl rfl (by first | (simp only [Nat.zero_add, Int.toNat_natCast, Int.toNat_zero]; exact rfl) | exact rfl) (by omega)) ?_)
     refine zU 57 (.int .u32 (v2 : Nat)) rfl (AEq.of_eq (by rw [k2])) ?_
     refine zD (zAX (m := v2) rfl rfl rfl zA2 (by omega)) ?_
     refine zj rfl rfl ?_
     refine zD (zGW rfl rfl zA2 hbg.1) ?_
     repeat (first | refine zD (zF rfl) ?_ | refine zj rfl rfl ?_)
     refine zD (zHz (m := r) (s := 32) rfl rfl (by decide) zA2 (zGe q0')) ?_
     repeat (first | refine zD (zF rfl) ?_ | refine zj rfl rfl ?_ | refine zD (zBa rfl rfl (by omega)) ?_)
     refine zU 64 (.int .i64 (s - 2 : Nat)) rfl (AEq.of_eq (by congr 1; omega)) ?_
     repeat (first | refine zj rfl rfl ?_ | refine zD (zu rfl rfl rfl rfl rfl (by first | (simp only [Nat.zero_add, Int.toNat_natCast, Int.toNat_zero]; exact rfl) | exact rfl) (by omega)) ?_ | refine zD (zAP rfl rfl rfl rfl (by first | assumption | omega)) ?_)
     refine zU 66 (.int .u32 (u2 : Nat)) rfl (AEq.of_eq (by rw [g2])) ?_
     refine zD (zAX (m := u2) rfl rfl rfl zA2 (by omega)) ?_
     refine zj rfl rfl ?_
     refine zD (QOp.res (zJc rfl rfl zA2 rfl (zGe q0') (by omega)) (by rw [zK8 b2])) ?_
     repeat (first | refine zB ?_ | refine zA ?_ | refine zj rfl rfl ?_ | refine zD (zBU rfl rfl) ?_ | refine zD (zr rfl rfl) ?_)
     refine fin _ ⟨rfl, rfl, rfl, rfl, rfl, ?_, trivial⟩
     show some (AV.bool (decide (((r * 4294967296 + u2 : Nat) : Int) < ((g * v2 : Nat) : Int)))) = _
     congr 2
     rw [decide_eq_decide]
     constructor
     · intro h; exact ⟨q0', by omega⟩
     · intro h; exact Int.ofNat_lt.2 h.2
   · repeat (first | refine zB ?_ | refine zA ?_ | refine zp rfl rfl rfl ?_ | refine zD (zr rfl rfl) ?_)
     refine fin _ ⟨rfl, rfl, rfl, rfl, rfl, ?_, trivial⟩
     show some (AV.bool false) = _
     rw [decide_eq_false]
     intro h
     exact q0 (by omega)
 refine zK rfl (fun q0 => ?_) (fun q0 => ?_)
 · have q1 := htest.1 q0
   have hg0 : 0 < g := by
     rcases Nat.eq_zero_or_pos g with z | z
     · subst z; rw [Nat.zero_mul] at q1; omega
     · exact z
   obtain ⟨g, rfl⟩ : ∃ m, g = m + 1 := ⟨g - 1, by omega⟩
   rw [Nat.add_mul, Nat.one_mul] at i2
   repeat (first | refine zD (zF rfl) ?_ | refine zA ?_ | refine zG ?_ | refine zC rfl ?_ | refine zT ?_ | refine zP ?_)
   refine zD (zKk (m := g + 1) (n := 1) rfl rfl zA2 (by omega) (by omega)) ?_
   repeat (first | refine zD (zF rfl) ?_ | refine zD (zE rfl) ?_ | refine zB ?_ | refine zA ?_ | refine zC rfl ?_ | refine zZ ?_ | refine zD (zBa rfl rfl (by omega)) ?_)
   refine zU 74 (.int .i64 (s - 1 : Nat)) rfl (AEq.of_eq (by congr 1; omega)) ?_
   repeat (first | refine zD (z6 rfl rfl rfl) ?_ | refine zD (zY rfl rfl rfl rfl (by first | (simp only [Nat.zero_add, Int.toNat_natCast, Int.toNat_zero]; exact rfl) | exact rfl) (by omega)) ?_)
   refine zU 76 (.int .u32 (v1 : Nat)) rfl (AEq.of_eq (by rw [k1])) ?_
   refine zD (zAX (m := v1) rfl rfl rfl zA2 (by omega)) ?_
   refine zD (zD4 rfl rfl zA2 (by omega)) ?_
   repeat (first | refine zD (zE rfl) ?_ | refine zB ?_)
   refine zd ⟨(g, r + v1), ⟨by simp only; omega, by simp only; omega, fun g' z1 z2 => ?_⟩, by simp only; omega, ⟨rfl, rfl, rfl, rfl, rfl, trivial⟩, rfl⟩
   have z3 := i3 g' z1 z2
   show g' ≤ g
   rcases Nat.lt_or_ge g g' with z | z
   · exfalso
     have : g' = g + 1 := by omega
     subst this
     omega
   · exact z
 · have q1 : g * (v1 * 4294967296 + v2) ≤ top * 4294967296 + u2 := by
     rcases Nat.lt_or_ge (top * 4294967296 + u2) (g * (v1 * 4294967296 + v2)) with z | z
     · exact absurd (htest.2 z) q0
     · exact z
   obtain ⟨e1, e2⟩ := hest g i1 q1 i3
   clear hest htest i3 q0
   have hmB : zm U % zm V < B ^ (s + 1) := Nat.lt_of_le_of_lt (Nat.mod_le _ _) (by have := zAp hU; rwa [hl] at this)
   have hdone := fun (w b : Nat) (hw : w < B ^ (s + 1)) => zKz (u := zm U) (v := zm V) (g := g) (w := w) (n := s + 1) (b := b) hw (by have := zAp hV; rw [hsd] at this; exact Nat.lt_of_lt_of_le this (Nat.pow_le_pow_right (by decide) (by omega))) (by have := zAp hU; rwa [hl] at this)
   generalize zm U / zm V = q at *
   generalize hme : zm U % zm V = m at *
   repeat (first | refine zD (zF rfl) ?_ | refine zD (zE rfl) ?_ | refine zB ?_ | refine zA ?_ | refine zG ?_ | refine zC rfl ?_ | refine zT ?_ | refine zx ?_ | refine zW ?_ | refine zX ?_ | refine zi ?_ | refine zD (zw rfl rfl rfl) ?_)
   have hAl : ∀ W : List Int, W.length = s + 1 → ∀ i, i < s + 1 → i + j < (A ++ (W ++ C)).length := fun W hW i hi => by simp [hj, hW]; omega
   refine zAC (ι := Nat × List Int × Nat × Nat) (fun p => [(0, .sl 0 j (s + 1)), (1, .ro (.ints .u32 V) 0 s), (5, .int .i64 (s : Nat)), (7, .int .u64 (g : Nat)), (9, .int .u64 (p.2.2.1 : Nat)), (10, .int .i64 (p.2.2.2 : Nat)), (82, .int .i64 (s + 1 : Nat)), (83, .int .i64 (p.1 : Nat))]) (fun p => some ⟨193, .ints .u32 (A ++ (p.2.1 ++ C))⟩ :: Hr)
     (fun p => p.1 ≤ s + 1 ∧ p.2.1.length = s + 1 ∧ Lim p.2.1 ∧ (∀ x, p.1 ≤ x → p.2.1.getD x 0 = U.getD x 0) ∧ p.2.2.1 < 4294967296 ∧ p.2.2.2 ≤ 1 ∧ (p.1 = s + 1 → p.2.2.1 = 0) ∧ zm (p.2.1.take p.1) + g * zm (V.take p.1) = zm (U.take p.1) + B ^ p.1 * (p.2.2.1 + p.2.2.2)) (fun p => s + 1 - p.1) (0, U, 0, 0)
     ⟨⟨rfl, rfl, rfl, rfl, rfl, rfl, rfl, rfl, trivial⟩, rfl, Nat.zero_le _, hl, hU, fun _ _ => rfl, Nat.zero_lt_succ _, Nat.zero_le _, fun _ => rfl, by simp [zm]⟩ ?_
   rintro ⟨i, Uc, cr, br⟩ ⟨w1, w2, w3, w4, w5, w6, w7, w8⟩
   simp only at *
   repeat (first | refine zB ?_ | refine zA ?_ | refine zG ?_ | refine zC rfl ?_ | refine zD (zAQ rfl rfl) ?_)
   refine zK rfl (fun w9 => ?_) (fun w9 => ?_)
   · have his : i < s + 1 := by omega
     obtain ⟨ui, hui, hub⟩ := hU.nat i
     obtain ⟨vi, hvi, hvb⟩ := hV.nat i
     have hmb := zIx (a := g) (b := vi) (c := cr) (by omega) hvb w5
     have hsl := hAl Uc w2 i his
     have hcur := zEw (C := C) hj (show i < Uc.length by omega)
     rw [w4 i (Nat.le_refl _), hui] at hcur
     have hlm : (cr + g * vi) % 4294967296 < 4294967296 := Nat.mod_lt _ (by decide)
     have hdb : (cr + g * vi) / 4294967296 < 4294967296 := by omega
     obtain ⟨yv, b', y1, y2, y3, y4, y5⟩ := zMC hub hlm w6
     have hstep := zK5 (g := g) (cr := cr) (yv := yv) (b' := b') (show i < Uc.length by omega) w8 hui hvi y1
     have hlast : i + 1 = s + 1 → (cr + g * vi) / 4294967296 = 0 := fun h => by
       have : V.getD i 0 = 0 := by simp [List.getD, List.getElem?_eq_none (show V.length ≤ i by omega)]
       have : vi = 0 := by omega
       subst this
       rw [Nat.mul_zero, Nat.add_zero]
       exact Nat.div_eq_of_lt w5
     repeat (first | refine zD (zF rfl) ?_ | refine zD (zE rfl) ?_ | refine zB ?_ | refine zA ?_ | refine zG ?_ | refine zC rfl ?_ | refine zT ?_ | refine zP ?_ | refine zD (zAQ rfl rfl) ?_)
     apply zAu (H := some ⟨193, .ints .u32 (A ++ (Uc ++ C))⟩ :: Hr) [(0, .sl 0 j (s + 1)), (1, .ro (.ints .u32 V) 0 s), (5, .int .i64 (s : Nat)), (7, .int .u64 (g : Nat)), (9, .int .u64 (cr + g * vi : Nat)), (10, .int .i64 (br : Nat)), (11, .int .i64 (i : Nat)), (82, .int .i64 (s + 1 : Nat)), (83, .int .i64 (i : Nat))]
     · intro fin
       refine zK rfl (fun q0 => ?_) (fun q0 => ?_)
       · repeat (first | refine zD (zF rfl) ?_ | refine zD (z6 rfl rfl rfl) ?_ | refine zC rfl ?_ | refine zD (zY rfl rfl rfl rfl (by first | (simp only [Nat.zero_add, Int.toNat_natCast, Int.toNat_zero]; exact rfl) | exact rfl) (by omega)) ?_)
         refine zU 94 (.int .u32 (vi : Nat)) rfl (AEq.of_eq (by rw [hvi])) ?_
         refine zD (zAX (m := vi) rfl rfl rfl zA2 (by omega)) ?_
         refine zD (zGW rfl rfl zA2 hmb.1) ?_
         refine zD (zD4 rfl rfl zA2 hmb.2) ?_
         repeat (first | refine zD (zE rfl) ?_ | refine zB ?_ | refine zA ?_)
         exact fin _ ⟨rfl, rfl, rfl, rfl, rfl, rfl, rfl, rfl, rfl, trivial⟩
       · have hv0 : vi = 0 := by
           have : V.getD i 0 = 0 := by simp [List.getD, List.getElem?_eq_none (show V.length ≤ i by omega)]
           omega
         subst hv0
         repeat (first | refine zA ?_ | refine zP ?_)
         exact fin _ ⟨rfl, rfl, rfl, rfl, rfl, rfl, rfl, rfl, rfl, trivial⟩
     repeat (first | refine zD (zF rfl) ?_ | refine zG ?_ | refine zC rfl ?_ | refine zD (zu rfl rfl rfl rfl rfl (by first | (simp only [Nat.zero_add, Int.toNat_natCast, Int.toNat_zero]; exact rfl) | exact rfl) (by omega)) ?_ | refine zD (zAP rfl rfl rfl rfl (by first | assumption | omega)) ?_)
     refine zU 101 (.int .u32 (ui : Nat)) rfl (AEq.of_eq (by rw [hcur])) ?_
     refine zD (zDo (m := ui) rfl rfl rfl (by omega)) ?_
     repeat (refine zD (zF rfl) ?_)
     refine zD (QOp.res (q_uand (n := 4294967295) rfl rfl zA2 rfl hmb.2 (by decide)) (by rw [and_low])) ?_
     obtain ⟨lo, hlo⟩ : ∃ lo, (cr + g * vi) % 4294967296 = lo := ⟨_, rfl⟩
     rw [hlo] at hlm y1 y4 y5 ⊢
     refine zD (zDo (m := lo) rfl rfl rfl (by omega)) ?_
     repeat (first | refine zD (zF rfl) ?_ | refine zD (zE rfl) ?_ | refine zB ?_ | refine zA ?_ | refine zG ?_ | refine zC rfl ?_ | refine zD (zBa rfl rfl (by omega)) ?_)
     refine zD (zET (s := 32) rfl rfl rfl) ?_
     repeat (first | refine zD (zF rfl) ?_ | refine zD (zE rfl) ?_ | refine zB ?_ | refine zA ?_ | refine zG ?_ | refine zC rfl ?_ | refine zD (zAQ rfl rfl) ?_)
     apply zAu (H := some ⟨193, .ints .u32 (A ++ (Uc ++ C))⟩ :: Hr) [(0, .sl 0 j (s + 1)), (1, .ro (.ints .u32 V) 0 s), (5, .int .i64 (s : Nat)), (7, .int .u64 (g : Nat)), (9, .int .u64 ((cr + g * vi) / 4294967296 : Nat)), (10, .int .i64 (b' : Nat)), (11, .int .i64 (i : Nat)), (12, .int .i64 (yv : Nat)), (82, .int .i64 (s + 1 : Nat)), (83, .int .i64 (i : Nat))]
     · intro fin
       refine zK rfl (fun q0 => ?_) (fun q0 => ?_)
       · obtain ⟨z1, z2⟩ := y4 q0
         subst z1
         skip
         refine zC rfl ?_
         repeat (first | refine zD (zF rfl) ?_ | refine zD (zE rfl) ?_ | refine zB ?_ | refine zA ?_ | refine zD (zAK rfl rfl (by omega)) ?_)
         exact fin _ ⟨rfl, rfl, rfl, rfl, rfl, rfl, rfl, by rw [z2]; rfl, rfl, rfl, trivial⟩
       · obtain ⟨z1, z2⟩ := y5 q0
         subst z1
         repeat (first | refine zA ?_ | refine zP ?_)
         exact fin _ ⟨rfl, rfl, rfl, rfl, rfl, rfl, rfl, by rw [z2]; rfl, rfl, rfl, trivial⟩
     repeat (first | refine zD (zF rfl) ?_ | refine zC rfl ?_)
     refine zD (zAX (m := yv) rfl rfl rfl zDm y3) ?_
     have hset := zLy (x := (yv : Int)) (C := C) hj (show i < Uc.length by omega)
     repeat (first | refine zD (zF rfl) ?_ | refine zB ?_ | refine zA ?_ | refine zC rfl ?_ | refine zZ ?_ | refine zD (zAK rfl rfl (by omega)) ?_ | refine zD (zu rfl rfl rfl rfl rfl (by first | (simp only [Nat.zero_add, Int.toNat_natCast, Int.toNat_zero]; exact rfl) | exact rfl) (by omega)) ?_ | refine zAr rfl rfl rfl rfl rfl rfl rfl (by first | assumption | (show _ < List.length _; first | assumption | omega)) ?_)
     refine zd ⟨(i + 1, Uc.set i (yv : Int), (cr + g * vi) / 4294967296, b'), ⟨by simp only; omega, by simp [w2], w3.set (by omega), fun x hx => ?_, hdb, y2, hlast, hstep⟩, by simp only; omega, ⟨rfl, rfl, rfl, rfl, rfl, rfl, rfl, rfl, trivial⟩, ?_⟩
     · simp only at hx ⊢
       rw [zCO (by omega)]; exact w4 x (by omega)
     · show some (⟨_, .ints .u32 ((A ++ (Uc ++ C)).set (j + i) (yv : Int))⟩ : AObj) :: Hr = _
       rw [hset]
   · have hie : i = s + 1 := by omega
     subst hie
     have hcr := w7 rfl
     subst hcr
     rw [List.take_of_length_le (by omega), List.take_of_length_le (by omega), List.take_of_length_le (by omega), Nat.zero_add] at w8
     have hUcb := zAp w3
     rw [w2] at hUcb
     obtain ⟨d0, d1⟩ := hdone (zm Uc) br hUcb w6 w8 e1 e2 hv0
     repeat (first | refine zD (zF rfl) ?_ | refine zB ?_ | refine zA ?_ | refine zG ?_ | refine zC rfl ?_ | refine zx ?_ | refine zW ?_ | refine zX ?_ | refine zi ?_ | refine zD (zA0 rfl rfl) ?_)
     refine zK rfl (fun q0 => ?_) (fun q0 => ?_)
     · obtain ⟨z1, z2⟩ := d0 (by omega)
       subst z1
       have hfx := zFW w3 w2 z2
       repeat (first | refine zD (zF rfl) ?_ | refine zG ?_ | refine zC rfl ?_)
       refine zD (zAX (m := g) rfl rfl rfl zDm (by omega)) ?_
       repeat (first | refine zD (zE rfl) ?_ | refine zB ?_ | refine zA ?_ | refine zH ?_ | refine zQ ?_)
       refine zR hR rfl ⟨rfl, ?_⟩
       rw [hfx]
     · obtain ⟨z1, z2⟩ := d1 (by omega)
       repeat (first | refine zD (zF rfl) ?_ | refine zD (zE rfl) ?_ | refine zB ?_ | refine zA ?_ | refine zG ?_ | refine zC rfl ?_ | refine zT ?_ | refine zP ?_ | refine zD (zw rfl rfl rfl) ?_)
       refine zAC (ι := Nat × List Int × Nat) (fun p => [(0, .sl 0 j (s + 1)), (1, .ro (.ints .u32 V) 0 s), (5, .int .i64 (s : Nat)), (7, .int .u64 (g : Nat)), (13, .int .u64 (p.2.2 : Nat)), (126, .int .i64 (s + 1 : Nat)), (127, .int .i64 (p.1 : Nat))]) (fun p => some ⟨193, .ints .u32 (A ++ (p.2.1 ++ C))⟩ :: Hr)
         (fun p => p.1 ≤ s + 1 ∧ p.2.1.length = s + 1 ∧ Lim p.2.1 ∧ (∀ x, p.1 ≤ x → p.2.1.getD x 0 = Uc.getD x 0) ∧ p.2.2 < 4294967296 ∧ zm (p.2.1.take p.1) + B ^ p.1 * p.2.2 = zm (Uc.take p.1) + zm (V.take p.1)) (fun p => s + 1 - p.1) (0, Uc, 0)
         ⟨⟨rfl, rfl, rfl, rfl, rfl, rfl, rfl, trivial⟩, rfl, Nat.zero_le _, w2, w3, fun _ _ => rfl, Nat.zero_lt_succ _, by simp [zm]⟩ ?_
       rintro ⟨i, Ud, sm⟩ ⟨x1, x2, x3, x4, x5, x6⟩
       simp only at *
       repeat (first | refine zB ?_ | refine zA ?_ | refine zG ?_ | refine zC rfl ?_ | refine zD (zAQ rfl rfl) ?_)
       refine zK rfl (fun x9 => ?_) (fun x9 => ?_)
       · have his : i < s + 1 := by omega
         obtain ⟨ui, hui, hub⟩ := w3.nat i
         obtain ⟨vi, hvi, hvb⟩ := hV.nat i
         have hcur := zEw (C := C) hj (show i < Ud.length by omega)
         rw [x4 i (Nat.le_refl _), hui] at hcur
         have hsl := hAl Ud x2 i his
         have hstep := zL1 (sm := sm) (show i < Ud.length by omega) x6 hui hvi
         repeat (first | refine zD (zF rfl) ?_ | refine zD (zE rfl) ?_ | refine zB ?_ | refine zA ?_ | refine zG ?_ | refine zC rfl ?_ | refine zT ?_ | refine zP ?_ | refine zD (zu rfl rfl rfl rfl rfl (by first | (simp only [Nat.zero_add, Int.toNat_natCast, Int.toNat_zero]; exact rfl) | exact rfl) (by omega)) ?_ | refine zD (zAP rfl rfl rfl rfl (by first | assumption | omega)) ?_)
         refine zU 134 (.int .u32 (ui : Nat)) rfl (AEq.of_eq (by rw [hcur])) ?_
         refine zD (zAX (m := ui) rfl rfl rfl zA2 (by omega)) ?_
         refine zD (zD4 rfl rfl zA2 (by omega)) ?_
         repeat (first | refine zD (zF rfl) ?_ | refine zD (zE rfl) ?_ | refine zB ?_ | refine zA ?_ | refine zG ?_ | refine zC rfl ?_ | refine zD (zAQ rfl rfl) ?_)
         apply zAu (H := some ⟨193, .ints .u32 (A ++ (Ud ++ C))⟩ :: Hr) [(0, .sl 0 j (s + 1)), (1, .ro (.ints .u32 V) 0 s), (5, .int .i64 (s : Nat)), (7, .int .u64 (g : Nat)), (13, .int .u64 (sm + ui + vi : Nat)), (14, .int .i64 (i : Nat)), (126, .int .i64 (s + 1 : Nat)), (127, .int .i64 (i : Nat))]
         · intro fin
           refine zK rfl (fun q1 => ?_) (fun q1 => ?_)
           · repeat (first | refine zD (zF rfl) ?_ | refine zD (z6 rfl rfl rfl) ?_ | refine zC rfl ?_ | refine zD (zY rfl rfl rfl rfl (by first | (simp only [Nat.zero_add, Int.toNat_natCast, Int.toNat_zero]; exact rfl) | exact rfl) (by omega)) ?_)
             refine zU 144 (.int .u32 (vi : Nat)) rfl (AEq.of_eq (by rw [hvi])) ?_
             refine zD (zAX (m := vi) rfl rfl rfl zA2 (by omega)) ?_
             refine zD (zD4 rfl rfl zA2 (by omega)) ?_
             repeat (first | refine zD (zE rfl) ?_ | refine zB ?_ | refine zA ?_)
             exact fin _ ⟨rfl, rfl, rfl, rfl, rfl, rfl, rfl, rfl, trivial⟩
           · have hv0 : vi = 0 := by
               have : V.getD i 0 = 0 := by simp [List.getD, List.getElem?_eq_none (show V.length ≤ i by omega)]
               omega
             subst hv0
             repeat (first | refine zA ?_ | refine zP ?_)
             exact fin _ ⟨rfl, rfl, rfl, rfl, rfl, rfl, rfl, rfl, trivial⟩
         repeat (first | refine zD (zF rfl) ?_ | refine zG ?_ | refine zC rfl ?_)
         refine zD (zEc rfl rfl rfl zDm) ?_
         have hset := zLy (x := (((sm + ui + vi) % 4294967296 : Nat) : Int)) (C := C) hj (show i < Ud.length by omega)
         repeat (first | refine zD (zF rfl) ?_ | refine zB ?_ | refine zA ?_ | refine zC rfl ?_ | refine zD (zu rfl rfl rfl rfl rfl (by first | (simp only [Nat.zero_add, Int.toNat_natCast, Int.toNat_zero]; exact rfl) | exact rfl) (by omega)) ?_ | refine zAr rfl rfl rfl rfl rfl rfl rfl (by first | assumption | (show _ < List.length _; first | assumption | omega)) ?_)
         refine zD (zET (s := 32) rfl rfl rfl) ?_
         repeat (first | refine zD (zF rfl) ?_ | refine zD (zE rfl) ?_ | refine zB ?_ | refine zA ?_ | refine zC rfl ?_ | refine zZ ?_ | refine zD (zAK rfl rfl (by omega)) ?_)
         refine zd ⟨(i + 1, Ud.set i (((sm + ui + vi) % 4294967296 : Nat) : Int), (sm + ui + vi) / 4294967296), ⟨by simp only; omega, by simp [x2], x3.set (zCu _), fun x hx => ?_, by simp only; omega, hstep⟩, by simp only; omega, ⟨rfl, rfl, rfl, rfl, rfl, rfl, rfl, trivial⟩, ?_⟩
         · simp only at hx ⊢
           rw [zCO (by omega)]; exact x4 x (by omega)
         · show some (⟨_, .ints .u32 ((A ++ (Ud ++ C)).set (j + i) (((sm + ui + vi) % 4294967296 : Nat) : Int))⟩ : AObj) :: Hr = _
           rw [hset]
       · have hie : i = s + 1 := by omega
         subst hie
         rw [List.take_of_length_le (by omega), List.take_of_length_le (by omega), List.take_of_length_le (by omega), z2] at x6
         have hUdb := zAp x3
         rw [x2] at hUdb
         have hv : zm Ud = m := by
           rcases Nat.lt_trichotomy sm 1 with z | z | z
           · have : sm = 0 := by omega
             subst this
             omega
           · subst z; omega
           · have : B ^ (s + 1) * 2 ≤ B ^ (s + 1) * sm := Nat.mul_le_mul_left _ z
             omega
         have hfx := zFW x3 x2 hv
         repeat (first | refine zD (zF rfl) ?_ | refine zA ?_ | refine zG ?_ | refine zC rfl ?_ | refine zx ?_ | refine zW ?_ | refine zX ?_ | refine zi ?_)
         refine zD (zKk (m := g) (n := 1) rfl rfl zA2 (by omega) (by omega)) ?_
         refine zD (zAX (m := g - 1) rfl rfl rfl zDm (by omega)) ?_
         repeat (first | refine zD (zE rfl) ?_ | refine zB ?_ | refine zA ?_ | refine zH ?_)
         refine zR hR rfl ⟨?_, ?_⟩
         · rw [show g - 1 = q by omega]; rfl
         · rw [hfx]
end Go.Proofs.YtgmleamhjnlknaaGreatDoor
namespace Go.Ax.Bg
theorem zED : ∀ (a b v : Nat), zBT (a + b) v = zBT a v ++ zBT b (v / B ^ a)
 | 0, b, v => by simp [zBT]
 | a + 1, b, v => by
   rw [show a + 1 + b = a + b + 1 by omega, zBT, zBT, zED a b, List.cons_append, Nat.pow_succ, Nat.mul_comm (B ^ a), ← Nat.div_div_eq_div_mul]
theorem zEY : ∀ (k v : Nat), zm (zBT k v) = v % B ^ k
 | 0, v => by simp [zBT, zm, Nat.mod_one]
 | k + 1, v => by
   rw [zBT, zm, Int.toNat_natCast, zEY k, Nat.pow_succ, Nat.mul_comm (B ^ k), Nat.mod_mul]
theorem zLA {k v w : Nat} (h : v % B ^ k = w % B ^ k) : zBT k v = zBT k w := by
 have h1 := zFW (zEL k v) (zBS k v) (zEY k v)
 have h2 := zFW (zEL k w) (zBS k w) (zEY k w)
 rw [h1, h2, h]
/-- The top limb. -/
theorem zE5 {v s : Nat} (hs : 1 ≤ s) (h : (zh v).length = s) : ∃ t low : Nat, (zh v).getD (s - 1) 0 = (t : Int) ∧ t < 4294967296 ∧ 0 < t ∧ v = low + B ^ (s - 1) * t ∧ low < B ^ (s - 1) := by
 obtain ⟨t, ht, hb⟩ := (zAW v).nat (s - 1)
 refine ⟨t, zm ((zh v).take (s - 1)), ht, hb, ?_, ?_, ?_⟩
 · rcases zIk (n := v) with q | q
   · rw [q] at h; simp at h; omega
   · rw [h, ht] at q; omega
 · have := zAF (zh v) (s - 1)
   rw [show s - 1 + 1 = (zh v).length by omega, List.take_length, zAG, ht, Int.toNat_natCast] at this
   exact this
 · have := zAp ((zAW v).take (s - 1))
   rwa [List.length_take, Nat.min_eq_left (by omega)] at this
theorem bexp {s : Nat} (hs : 1 ≤ s) : B ^ s = B ^ (s - 1) * 4294967296 := by
 rw [show s = s - 1 + 1 by omega, Nat.pow_succ]; rfl
/-- The divisor, shifted to the top. -/
theorem norm_top {m k s t : Nat} (hs : 1 ≤ s) (h : (zh m).length = s) (ht : (zh m).getD (s - 1) 0 = (t : Int)) (h1 : 2147483648 ≤ t * 2 ^ k) (h2 : t * 2 ^ k < 4294967296) (hk : k ≤ 31) :
   (zh (m * 2 ^ k)).length = s ∧ 2147483648 ≤ (zh (m * 2 ^ k)).getD (s - 1) 0 := by
 obtain ⟨t', low, e, hb, hp, hv, hlow⟩ := zE5 hs h
 have : t' = t := by omega
 subst this
 have hP := bpos (s - 1)
 have hpk : 0 < 2 ^ k := Nat.pow_pos (by decide)
 have hd : ∃ q, 4294967296 = q * 2 ^ k := ⟨2 ^ (32 - k), by rw [← Nat.pow_add, show 32 - k + k = 32 by omega]⟩
 obtain ⟨q, hq⟩ := hd
 have h3 : t' + 1 ≤ q := by
   have : t' * 2 ^ k < q * 2 ^ k := by omega
   exact Nat.lt_of_mul_lt_mul_right this
 have h4 : (t' + 1) * 2 ^ k ≤ 4294967296 := by rw [hq]; exact Nat.mul_le_mul_right _ h3
 have hup : m * 2 ^ k < B ^ s := by
   rw [bexp hs]
   have h5 : m < B ^ (s - 1) * (t' + 1) := by rw [Nat.mul_add]; omega
   have h6 : m * 2 ^ k < B ^ (s - 1) * (t' + 1) * 2 ^ k := Nat.mul_lt_mul_of_pos_right h5 hpk
   have h7 : B ^ (s - 1) * ((t' + 1) * 2 ^ k) ≤ B ^ (s - 1) * 4294967296 := Nat.mul_le_mul_left _ h4
   rw [Nat.mul_assoc] at h6
   omega
 have hlo : B ^ (s - 1) * 2147483648 ≤ m * 2 ^ k := by
   have h5 : B ^ (s - 1) * (t' * 2 ^ k) ≤ m * 2 ^ k := by
     rw [← Nat.mul_assoc]; exact Nat.mul_le_mul_right _ (by omega)
   exact Nat.le_trans (Nat.mul_le_mul_left _ h1) h5
 have hlen : (zh (m * 2 ^ k)).length = s := by
   have a := zAj hup
   have b : B ^ (s - 1) ≤ m * 2 ^ k := by
     have : B ^ (s - 1) * 1 ≤ B ^ (s - 1) * 2147483648 := Nat.mul_le_mul_left _ (by decide)
     omega
   have c := zKK b
   omega
 refine ⟨hlen, ?_⟩
 obtain ⟨t2, low2, e2, _, _, hv2, hlow2⟩ := zE5 hs hlen
 rw [e2]
 rcases Nat.lt_or_ge t2 2147483648 with z | z
 · exfalso
   have : B ^ (s - 1) * (t2 + 1) ≤ B ^ (s - 1) * 2147483648 := Nat.mul_le_mul_left _ (by omega)
   rw [Nat.mul_add] at this
   omega
 · omega
theorem k_more {t k : Nat} (ht : 0 < t) (h : t * 2 ^ k < 4294967296) (hk : k ≤ 31) (h0 : t * 2 ^ k / 2 ^ 31 = 0) : t * 2 ^ (k + 1) < 4294967296 ∧ k + 1 ≤ 31 := by
 have h1 : t * 2 ^ k < 2147483648 := by
   rcases Nat.lt_or_ge (t * 2 ^ k) 2147483648 with q | q
   · exact q
   · have := Nat.div_le_div_right (c := 2 ^ 31) q
     rw [h0] at this
     exact absurd this (by decide)
 refine ⟨by rw [Nat.pow_succ, ← Nat.mul_assoc]; omega, ?_⟩
 rcases Nat.lt_or_ge k 31 with q | q
 · exact q
 · exfalso
   have : k = 31 := by omega
   subst this
   have : 1 * 2 ^ 31 ≤ t * 2 ^ 31 := Nat.mul_le_mul_right _ ht
   have e : (2 : Nat) ^ 31 = 2147483648 := by decide
   rw [e] at this h1
   omega
theorem k_stop {t k : Nat} (h0 : ¬ t * 2 ^ k / 2 ^ 31 = 0) : 2147483648 ≤ t * 2 ^ k := by
 rcases Nat.lt_or_ge (t * 2 ^ k) 2147483648 with q | q
 · exact absurd (Nat.div_eq_of_lt (by have e : (2 : Nat) ^ 31 = 2147483648 := by decide
                                      rw [e]; exact q)) h0
 · exact q
/-- Where the quotient's digits begin. -/
theorem zL2 {n ln v s k : Nat} (hn : n < B ^ ln) (hk : k ≤ 31) (hs : 1 ≤ s) (hsl : s ≤ ln) (hv : B ^ (s - 1) * 2147483648 ≤ v) : n * 2 ^ k < v * B ^ (ln + 1 - s) := by
 have hp : 2 ^ k ≤ 2147483648 := Nat.le_trans (Nat.pow_le_pow_right (show 0 < 2 by decide) hk) (by decide)
 have h1 : n * 2 ^ k ≤ n * 2147483648 := Nat.mul_le_mul_left _ hp
 have h2 : B ^ (s - 1) * 2147483648 * B ^ (ln + 1 - s) ≤ v * B ^ (ln + 1 - s) := Nat.mul_le_mul_right _ hv
 have h3 : B ^ (s - 1) * 2147483648 * B ^ (ln + 1 - s) = B ^ ln * 2147483648 := by
   have e : B ^ ln = B ^ (s - 1) * B ^ (ln + 1 - s) := by rw [← Nat.pow_add]; congr 1; omega
   rw [e]; ac_rfl
 omega
theorem top_ge {v s : Nat} (hs : 1 ≤ s) (hl : (zh v).length = s) (h : 2147483648 ≤ (zh v).getD (s - 1) 0) : B ^ (s - 1) * 2147483648 ≤ v := by
 obtain ⟨t, low, e, _, _, hv, _⟩ := zE5 hs hl
 have : B ^ (s - 1) * 2147483648 ≤ B ^ (s - 1) * t := Nat.mul_le_mul_left _ (by omega)
 omega
/-- One zBF: the rest. -/
theorem quo_step {W v s j N : Nat} (hv0 : 0 < v) (hv : v < B ^ s) (hW : W < v * B ^ (j + 1)) (hN : j + (s + 1) ≤ N) :
   zBT N W = zBT j W ++ (zBT (s + 1) (W / B ^ j) ++ zBT (N - (j + (s + 1))) (W / B ^ j / B ^ (s + 1))) ∧ zm (zBT (s + 1) (W / B ^ j)) = W / B ^ j ∧ W / B ^ j < 4294967296 * v ∧
     ∃ W', zBT j W ++ (zBT (s + 1) (W / B ^ j % v) ++ zBT (N - (j + (s + 1))) (W / B ^ j / B ^ (s + 1))) = zBT N W' ∧ W' < v * B ^ j ∧ W' + B ^ j * (v * (W / B ^ j / v)) = W := by
 have hP := bpos j
 have h1 : W / B ^ j < 4294967296 * v := by
   refine Nat.div_lt_of_lt_mul ?_
   have : v * B ^ (j + 1) = B ^ j * (4294967296 * v) := by rw [Nat.pow_succ]; unfold B; ac_rfl
   rw [← this]; exact hW
 have h2 : W / B ^ j < B ^ (s + 1) := by
   have : 4294967296 * v ≤ 4294967296 * B ^ s := Nat.mul_le_mul_left _ (by omega)
   rw [Nat.pow_succ, Nat.mul_comm (B ^ s)]
   exact Nat.lt_of_lt_of_le h1 this
 have h3 : W / B ^ j / B ^ (s + 1) = 0 := Nat.div_eq_of_lt h2
 have hr : W / B ^ j % v < v := Nat.mod_lt _ hv0
 have hvs : v < B ^ (s + 1) := Nat.lt_of_lt_of_le hv (Nat.pow_le_pow_right (by decide) (by omega))
 refine ⟨?_, zGL _ _ h2, h1, W % B ^ j + B ^ j * (W / B ^ j % v), ?_, ?_, ?_⟩
 · rw [← zED, ← zED]
   congr 1; omega
 · have e1 : (W % B ^ j + B ^ j * (W / B ^ j % v)) / B ^ j = W / B ^ j % v := by
     rw [Nat.add_mul_div_left _ _ hP, Nat.div_eq_of_lt (Nat.mod_lt _ hP), Nat.zero_add]
   have e2 : (W % B ^ j + B ^ j * (W / B ^ j % v)) % B ^ j = W % B ^ j := by
     rw [Nat.add_mul_mod_self_left, Nat.mod_mod]
   rw [show N = j + ((s + 1) + (N - (j + (s + 1)))) by omega, zED j, zED (s + 1), e1, h3, zLA e2.symm]
   rw [show j + (s + 1 + (N - (j + (s + 1)))) - (j + (s + 1)) = N - (j + (s + 1)) by omega, Nat.div_eq_of_lt (Nat.lt_trans hr hvs)]
 · have h5 : B ^ j * (W / B ^ j % v + 1) ≤ B ^ j * v := Nat.mul_le_mul_left _ hr
   have h6 := Nat.mod_lt W hP
   rw [Nat.mul_add] at h5
   rw [Nat.mul_comm v]
   omega
 · have a := Nat.div_add_mod W (B ^ j)
   have b := Nat.div_add_mod (W / B ^ j) v
   have c : B ^ j * (v * (W / B ^ j / v)) + B ^ j * (W / B ^ j % v) = B ^ j * (W / B ^ j) := by rw [← Nat.mul_add, b]
   omega
theorem quo_end {n m k W Q : Nat} (hm : 0 < m) (h : Q * (m * 2 ^ k) + W = n * 2 ^ k) (hW : W < m * 2 ^ k) : Q = n / m ∧ W = n % m * 2 ^ k := by
 have hk : 0 < 2 ^ k := Nat.pow_pos (by decide)
 have h0 : 0 < m * 2 ^ k := Nat.mul_pos hm hk
 have e1 : n * 2 ^ k / (m * 2 ^ k) = n / m := Nat.mul_div_mul_right _ _ hk
 have e2 : n * 2 ^ k % (m * 2 ^ k) = n % m * 2 ^ k := Nat.mul_mod_mul_right ..
 rw [← h] at e1 e2
 rw [Nat.add_comm, Nat.add_mul_div_right _ _ h0, Nat.div_eq_of_lt hW, Nat.zero_add] at e1
 rw [Nat.add_comm, Nat.add_mul_mod_self_right, Nat.mod_eq_of_lt hW] at e2
 exact ⟨e1, e2⟩
/-- A limb shifted back by k bits. -/
theorem zMA {d e k : Nat} (hd : d < 4294967296) (hk : k ≤ 31) : d / 2 ^ k ||| e * 2 ^ (32 - k) % 4294967296 = d / 2 ^ k + e % 2 ^ k * 2 ^ (32 - k) := by
 have hp : 0 < 2 ^ (32 - k) := Nat.pow_pos (by decide)
 have e1 : (4294967296 : Nat) = 2 ^ k * 2 ^ (32 - k) := by rw [← Nat.pow_add, show k + (32 - k) = 32 by omega]
 have e2 : e * 2 ^ (32 - k) % 4294967296 = e % 2 ^ k * 2 ^ (32 - k) := by
   rw [e1]; exact Nat.mul_mod_mul_right ..
 have h1 : d / 2 ^ k < 2 ^ (32 - k) := by
   refine Nat.div_lt_of_lt_mul ?_
   rw [← e1]; exact hd
 rw [e2]
 have := Nat.two_pow_add_eq_or_of_lt h1 (e % 2 ^ k)
 rw [Nat.or_comm, Nat.mul_comm (e % 2 ^ k), ← this, Nat.add_comm]
theorem back_lim {d e k : Nat} (hd : d < 4294967296) (hk : k ≤ 31) : d / 2 ^ k + e % 2 ^ k * 2 ^ (32 - k) < 4294967296 := by
 have e1 : (4294967296 : Nat) = 2 ^ k * 2 ^ (32 - k) := by rw [← Nat.pow_add, show k + (32 - k) = 32 by omega]
 have h1 : d / 2 ^ k < 2 ^ (32 - k) := by
   refine Nat.div_lt_of_lt_mul ?_
   rw [← e1]; exact hd
 have h2 : (e % 2 ^ k + 1) * 2 ^ (32 - k) ≤ 2 ^ k * 2 ^ (32 - k) := Nat.mul_le_mul_right _ (Nat.mod_lt _ (Nat.pow_pos (by decide)))
 rw [Nat.add_mul, ← e1] at h2
 omega
theorem back_val {out r : List Int} {i k d e : Nat} (hk : k ≤ 31) (hl : out.length = i) (hd : r.getD i 0 = (d : Int)) {d0 : Nat} (h : zm out * 2 ^ k + d0 = zm (r.take i) + (d % 2 ^ k) * B ^ i) :
   zm (out ++ [((d / 2 ^ k + e % 2 ^ k * 2 ^ (32 - k) : Nat) : Int)]) * 2 ^ k + d0 = zm (r.take (i + 1)) + (e % 2 ^ k) * B ^ (i + 1) := by
 rw [zCj, hl, Int.toNat_natCast, zAF, hd, Int.toNat_natCast, Nat.pow_succ]
 have e1 : (4294967296 : Nat) = 2 ^ (32 - k) * 2 ^ k := by rw [← Nat.pow_add, show 32 - k + k = 32 by omega]
 have e2 := Nat.div_add_mod d (2 ^ k)
 have e3 : B ^ i * (d / 2 ^ k + e % 2 ^ k * 2 ^ (32 - k)) * 2 ^ k = B ^ i * (2 ^ k * (d / 2 ^ k)) + e % 2 ^ k * (B ^ i * B) := by
   rw [show B = 2 ^ (32 - k) * 2 ^ k from e1]
   generalize (2 ^ (32 - k) * 2 ^ k) ^ i = p
   rw [Nat.mul_add, Nat.add_mul]
   congr 1 <;> ac_rfl
 have e4 : B ^ i * (2 ^ k * (d / 2 ^ k)) + (d % 2 ^ k) * B ^ i = B ^ i * d := by
   rw [Nat.mul_comm (d % 2 ^ k), ← Nat.mul_add, e2]
 rw [Nat.add_mul, e3]
 omega
end Go.Ax.Bg
namespace Go.Proofs.YtgmleamhjnlknaaGreatDoor
open Go.Ax Go.Ax.Bg Go.RowKit
attribute [local irreducible] Ax zAV QOp zV
set_option maxRecDepth 100000
set_option maxHeartbeats 4000000
theorem clone_ok (n : Nat) (h : (zh n).length ≤ 1000000) : zk Tryz.prog 175 [zAL n] (zAL n) := by
 unfold zAL
 generalize zh n = l at *
 refine zV.value (K := fun r H => r = .sl 0 0 l.length ∧ H = [some ⟨193, .ints .u32 l⟩]) (zN (P := Tryz.prog) (fn := Tryz.f175) rfl rfl (by kernel_rfl) rfl (fun c hR hfix => ?_)) (fix := fun _ => False) (fun _ h => h) rfl ?_
 · repeat (first | refine zD (zF rfl) ?_ | refine zD (zE rfl) ?_ | refine zB ?_ | refine zA ?_ | refine zG ?_ | refine zC rfl ?_)
   refine zKQ rfl rfl rfl (fun b hb => ?_)
   repeat (first | refine zB ?_ | refine zA ?_)
   refine zCv rfl (fun h => ?_) (fun h => ?_)
   · have := hb h
     have hn : l = [] := List.length_eq_zero_iff.mp this
     subst hn
     repeat (first | refine zD (zE rfl) ?_ | refine zB ?_ | refine zA ?_ | refine zG ?_ | refine zC rfl ?_)
     refine zBn 2 ⟨193, .ints .u32 []⟩ rfl rfl ?_
     repeat (first | refine zH ?_ | refine zQ ?_)
     exact zR hR rfl ⟨rfl, rfl⟩
   · repeat (first | refine zA ?_ | refine zG ?_ | refine zC rfl ?_ | refine zP ?_)
     refine zD3 rfl rfl rfl rfl rfl rfl rfl rfl rfl rfl ?_
     refine zA5 [some ⟨193, .ints .u32 []⟩] (zAk.eqv ⟨rfl, rfl, fun i j hi => absurd hi (Nat.not_lt_zero _)⟩ zAk.nil) ?_
     repeat (refine zD (zF rfl) ?_)
     refine zAE rfl rfl rfl rfl rfl rfl rfl rfl rfl rfl rfl rfl (by show 0 + l.length ≤ l.length; omega) rfl (by show (0 + l.length) * 4 ≤ _ ∧ _; omega) (fun i j _ _ => rfl) (by rw [hfix]; exact fun h => h) ?_
     repeat (first | refine zD (zE rfl) ?_ | refine zB ?_ | refine zA ?_ | refine zH ?_)
     refine zR hR rfl ⟨?_, ?_⟩
     · show AV.sl 0 0 (0 + l.length) = _; rw [Nat.zero_add]
     · show ([some ⟨193, .ints .u32 ([] ++ List.take l.length (List.drop 0 l))⟩] : zg) = _
       simp
 · rintro r H ⟨rfl, rfl⟩
   exact ⟨rfl, fun o ho => by simp at ho; subst ho; exact Nat.le_of_eq (by simp [Cells.len]), zGp zAY⟩
theorem div_less (n m : Nat) (h : n < m) (hn : (zh n).length ≤ 1000000) (hm : (zh m).length ≤ 1000000) : zk Tryz.prog 143 [zAL n, zAL m] (.tup [.nil, zAL n]) := by
 have hc := zJM n m (by omega) (by omega)
 rw [zGN (Int.ofNat_lt.2 h)] at hc
 have hcl := clone_ok n hn
 refine zV.value0 (zN (P := Tryz.prog) (fn := Tryz.f143) rfl rfl (by kernel_rfl) rfl (fun c hR hfix => ?_)) (fix := fun _ => False) (fun _ h => h) rfl rfl
 repeat (first | refine zD (zF rfl) ?_ | refine zD (zE rfl) ?_ | refine zB ?_ | refine zA ?_ | refine zG ?_ | refine zC rfl ?_)
 refine zM rfl rfl rfl hc ?_
 repeat (first | refine zD (zF rfl) ?_ | refine zB ?_ | refine zA ?_ | refine zG ?_ | refine zC rfl ?_ | refine zf rfl ?_ | refine zD (zAQ rfl rfl) ?_)
 refine zM rfl rfl rfl hcl ?_
 repeat (first | refine zD (zE rfl) ?_ | refine zB ?_ | refine zA ?_ | refine zH ?_ | refine zQ ?_)
 exact zR hR rfl rfl
theorem zLY {n m : Nat} (h : m ≤ n) : ¬ zCn n m < 0 := by
 rcases Nat.lt_or_ge m n with q | q
 · rw [zGR (Int.ofNat_lt.2 q)]; decide
 · rw [zLP (by omega)]; decide
theorem div_one (n m : Nat) (h : m ≤ n) (hn : (zh n).length ≤ 1000000) (hm : (zh m).length = 1) : zk Tryz.prog 143 [zAL n, zAL m] (.tup [zAL (n / m), zAL (n % m)]) := by
 have hc := zJM n m (by omega) (by omega)
 have hcn := zLY h
 obtain ⟨t, low, ht, htb, htp, hv, hlow⟩ := zE5 (Nat.le_refl 1) hm
 have hmt : m = t := by
   simp at hv hlow
   subst hlow
   rw [hv]; simp
 subst hmt
 have hds := zGr (zh n) m (zAW n) (by omega) ⟨htp, htb⟩
 rw [zAG] at hds
 have hr : n % m < 4294967296 := Nat.lt_trans (Nat.mod_lt _ htp) htb
 have hsm := zH0 (n % m) (by omega)
 refine zV.value0 (zN (P := Tryz.prog) (fn := Tryz.f143) rfl rfl (by kernel_rfl) rfl (fun c hR hfix => ?_)) (fix := fun _ => False) (fun _ h => h) rfl rfl
 repeat (first | refine zD (zF rfl) ?_ | refine zD (zE rfl) ?_ | refine zB ?_ | refine zA ?_ | refine zG ?_ | refine zC rfl ?_)
 refine zM rfl rfl rfl hc ?_
 repeat (first | refine zB ?_ | refine zA ?_ | refine zD (zAQ rfl rfl) ?_)
 refine zK rfl (fun q => absurd q hcn) (fun q => ?_)
 unfold zAL
 repeat (first | refine zD (zF rfl) ?_ | refine zB ?_ | refine zA ?_ | refine zG ?_ | refine zC rfl ?_ | refine zP ?_ | refine zD (zA0 rfl rfl) ?_ | refine zD (zw rfl rfl rfl) ?_)
 rw [hm]
 repeat (first | refine zD (zF rfl) ?_ | refine zD (z6 rfl rfl rfl) ?_ | refine zG ?_ | refine zC rfl ?_ | refine zf rfl ?_ | refine zD (zY rfl rfl rfl rfl (by first | (simp only [Nat.zero_add, Int.toNat_natCast, Int.toNat_zero]; exact rfl) | exact rfl) (by omega)) ?_)
 refine zU 31 (.int .u32 (m : Nat)) rfl (AEq.of_eq (by congr 1)) ?_
 refine zM rfl rfl rfl hds ?_
 repeat (first | refine zD (zF rfl) ?_ | refine zD (zE rfl) ?_ | refine zB ?_ | refine zA ?_ | refine zG ?_ | refine zC rfl ?_ | refine zD (zz rfl rfl) ?_)
 refine zD (zAX (m := n % m) rfl rfl rfl zA2 (by omega)) ?_
 refine zM rfl rfl rfl hsm ?_
 repeat (first | refine zD (zE rfl) ?_ | refine zB ?_ | refine zA ?_ | refine zH ?_ | refine zQ ?_)
 exact zR hR rfl rfl
end Go.Proofs.YtgmleamhjnlknaaGreatDoor
namespace Go.Proofs.YtgmleamhjnlknaaGreatDoor
open Go.Ax Go.Ax.Bg Go.RowKit
attribute [local irreducible] Ax zAV QOp zV
set_option maxRecDepth 100000
set_option maxHeartbeats 4000000
theorem div_many (n m : Nat) (h : m ≤ n) (hn : (zh n).length ≤ 1000000) (hm2 : 2 ≤ (zh m).length) : zk Tryz.prog 143 [zAL n, zAL m] (.tup [zAL (n / m), zAL (n % m)]) := by
 have hlm : (zh m).length ≤ (zh n).length := zAj (by have := zAp (zAW n); rw [zAG] at this; omega)
 have hc := zJM n m (by omega) (by omega)
 have hcn := zLY h
 have hm0 : 0 < m := by
   rcases Nat.eq_zero_or_pos m with q | q
   · subst q; rw [zBK] at hm2; simp at hm2
   · exact q
 have hnB : n < B ^ (zh n).length := by have := zAp (zAW n); rwa [zAG] at this
 obtain ⟨s, hs⟩ : ∃ s, (zh m).length = s := ⟨_, rfl⟩
 obtain ⟨ln, hln⟩ : ∃ ln, (zh n).length = ln := ⟨_, rfl⟩
 rw [hs] at hm2 hlm
 rw [hln] at hn hnB hlm
 obtain ⟨t, low, ht, htb, htp, hv, hlow⟩ := zE5 (show 1 ≤ s by omega) hs
 refine zV.value0 (zN (P := Tryz.prog) (fn := Tryz.f143) rfl rfl (by kernel_rfl) rfl (fun c hR hfix => ?_)) (fix := fun _ => False) (fun _ h => h) rfl rfl
 repeat (first | refine zD (zF rfl) ?_ | refine zD (zE rfl) ?_ | refine zB ?_ | refine zA ?_ | refine zG ?_ | refine zC rfl ?_)
 refine zM rfl rfl rfl hc ?_
 repeat (first | refine zB ?_ | refine zA ?_ | refine zD (zAQ rfl rfl) ?_)
 refine zK rfl (fun q => absurd q hcn) (fun q => ?_)
 have en : zAL n = .ro (.ints .u32 (zh n)) 0 ln := by unfold zAL; rw [hln]
 have em : zAL m = .ro (.ints .u32 (zh m)) 0 s := by unfold zAL; rw [hs]
 rw [en, em]
 repeat (first | refine zD (zF rfl) ?_ | refine zB ?_ | refine zA ?_ | refine zG ?_ | refine zC rfl ?_ | refine zP ?_ | refine zD (zA0 rfl rfl) ?_ | refine zD (zw rfl rfl rfl) ?_)
 refine zK rfl (fun q => absurd q (by omega)) (fun q => ?_)
 repeat (first | refine zD (zE rfl) ?_ | refine zB ?_ | refine zA ?_ | refine zG ?_ | refine zC rfl ?_ | refine zT ?_ | refine zP ?_)
 refine zAC (ι := Nat) (fun k => [(0, .ro (.ints .u32 (zh n)) 0 ln), (1, .ro (.ints .u32 (zh m)) 0 s), (8, .int .i64 (k : Nat))]) (fun _ => []) (fun k => k ≤ 31 ∧ t * 2 ^ k < 4294967296) (fun k => 32 - k) 0 ⟨⟨rfl, rfl, rfl, trivial⟩, rfl, by omega, by rw [Nat.pow_zero, Nat.mul_one]; exact htb⟩ ?_
 rintro k ⟨hk1, hk2⟩
 repeat (first | refine zD (zF rfl) ?_ | refine zG ?_ | refine zC rfl ?_ | refine zD (zw rfl rfl rfl) ?_ | refine zD (zBa rfl rfl (by omega)) ?_)
 refine zU 42 (.int .i64 (s - 1 : Nat)) rfl (AEq.of_eq (by congr 1; omega)) ?_
 repeat (first | refine zD (zF rfl) ?_ | refine zD (z6 rfl rfl rfl) ?_ | refine zD (zY rfl rfl rfl rfl (by first | (simp only [Nat.zero_add, Int.toNat_natCast, Int.toNat_zero]; exact rfl) | exact rfl) (by omega)) ?_)
 refine zU 44 (.int .u32 (t : Nat)) rfl (AEq.of_eq (by rw [ht])) ?_
 skip
 refine zD (zHz (m := t) (s := k) rfl rfl (by show k ≤ 32; omega) zDm hk2) ?_
 refine zD (zET (s := 31) rfl rfl rfl) ?_
 repeat (first | refine zB ?_ | refine zA ?_ | refine zD (zA0 rfl rfl) ?_)
 refine zK rfl (fun q1 => ?_) (fun q1 => ?_)
 · have hmore := k_more htp hk2 hk1 (by omega)
   repeat (first | refine zD (zF rfl) ?_ | refine zD (zE rfl) ?_ | refine zB ?_ | refine zA ?_ | refine zC rfl ?_ | refine zZ ?_ | refine zT ?_ | refine zP ?_ | refine zD (zAK rfl rfl (by omega)) ?_)
   exact zd ⟨k + 1, ⟨hmore.2, hmore.1⟩, by omega, ⟨rfl, rfl, rfl, trivial⟩, rfl⟩
 have hstop := k_stop (t := t) (k := k) (by omega)
 obtain ⟨hnl, hnt⟩ := norm_top (show 1 ≤ s by omega) hs ht hstop hk2 hk1
 have hsn := zJl (zh n) k (zAW n) (by omega) (by omega)
 have hsm := zJl (zh m) k (zAW m) (by omega) (by omega)
 rw [zAG, hln] at hsn
 rw [zAG, hs] at hsm
 have hvB : m * 2 ^ k < B ^ s := by have := zAp (zAW (m * 2 ^ k)); rwa [zAG, hnl] at this
 have hvB1 : m * 2 ^ k < B ^ (s + 1) := Nat.lt_of_lt_of_le hvB (Nat.pow_le_pow_right (by decide) (by omega))
 have hnorm := zCw (zBT (s + 1) (m * 2 ^ k)) (zEL _ _) (by rw [zBS]; omega)
 rw [zGL _ _ hvB1] at hnorm
 have hstart := zL2 hnB hk1 (show 1 ≤ s by omega) hlm (top_ge (show 1 ≤ s by omega) hnl hnt)
 have hv0 : 0 < m * 2 ^ k := Nat.mul_pos hm0 (Nat.pow_pos (by decide))
 have ev : zAL (m * 2 ^ k) = .ro (.ints .u32 (zh (m * 2 ^ k))) 0 s := by unfold zAL; rw [hnl]
 have hdig := fun (A U C : List Int) (j : Nat) (Hr : zg) (hj : A.length = j) (hl : U.length = s + 1) (hU : Lim U) => digit_ok A U C (zh (m * 2 ^ k)) j s Hr hj hm2 hl hnl hU (zAW _) hnt
 rw [zAG] at hdig
 have hend := fun Q W => quo_end (n := n) (m := m) (k := k) (W := W) (Q := Q) hm0
 obtain ⟨v, hve⟩ : ∃ v, m * 2 ^ k = v := ⟨_, rfl⟩
 rw [hve] at hsm hvB hvB1 hnorm hstart hv0 ev hdig hend hnl
 repeat (first | refine zD (zF rfl) ?_ | refine zA ?_ | refine zG ?_ | refine zC rfl ?_ | refine zx ?_ | refine zW ?_ | refine zX ?_ | refine zi ?_)
 have c1 : [AV.ro (.ints .u32 (zh n)) 0 ln, .int .i64 (k : Nat)] ++ [] = [zEh (zh n), .int .i64 (k : Nat)] := by unfold zEh; rw [hln]; rfl
 have c2 : [AV.ro (.ints .u32 (zh m)) 0 s, .int .i64 (k : Nat)] ++ [] = [zEh (zh m), .int .i64 (k : Nat)] := by unfold zEh; rw [hs]; rfl
 refine zB9 rfl rfl c1 hsn ?_
 repeat (refine zD (zF rfl) ?_)
 refine zB9 rfl rfl c2 hsm ?_
 refine zCZ 1 56 (s + 1) [(0, .ro (.ints .u32 (zh n)) 0 ln), (8, .int .i64 (k : Nat)), (53, .sl 0 0 (ln + 1))] rfl zAY rfl (by show _ ≤ (zBT _ _).length; rw [zBS]; omega) ⟨rfl, rfl, rfl, trivial⟩ ?_
 refine zM rfl rfl (zCH (zBS _ _)) hnorm ?_
 rw [ev]
 repeat (first | refine zD (zF rfl) ?_ | refine zD (zE rfl) ?_ | refine zB ?_ | refine zA ?_ | refine zG ?_ | refine zC rfl ?_ | refine zD (zw rfl rfl rfl) ?_ | refine zD (zBa rfl rfl (by omega)) ?_)
 refine zCS rfl rfl rfl rfl rfl rfl rfl rfl (by show (0 : Int) ≤ _ ∧ _ ≤ _ ∧ (4 : Int) * _ ≤ _ ∧ _; omega) ?_
 obtain ⟨J, hJ⟩ : ∃ J, J + s = ln + 1 := ⟨ln + 1 - s, by omega⟩
 rw [show (((ln + 1 : Nat) : Int) - (s : Nat)).toNat = J by omega]
 rw [show ln + 1 - s = J by omega] at hstart
 repeat (first | refine zD (zF rfl) ?_ | refine zD (zE rfl) ?_ | refine zB ?_ | refine zA ?_ | refine zG ?_ | refine zC rfl ?_ | refine zT ?_ | refine zD (zw rfl rfl rfl) ?_ | refine zD (zBa rfl rfl (by omega)) ?_)
 refine zAC (ι := Nat × Nat × List Int) (fun p => [(8, .int .i64 (k : Nat)), (9, .sl 0 0 (ln + 1)), (10, .ro (.ints .u32 (zh v)) 0 s), (11, .int .i64 (s : Nat)), (12, .sl 2 0 J), (13, .int .i64 ((p.1 : Int) - 1))]) (fun p => [some ⟨193, .ints .u32 (zBT (ln + 1) p.2.1)⟩, none, some ⟨193, .ints .u32 p.2.2⟩])
   (fun p => p.1 ≤ J ∧ p.2.1 < v * B ^ p.1 ∧ p.2.2.length = J ∧ Lim p.2.2 ∧ (∀ x, x < p.1 → p.2.2.getD x 0 = 0) ∧ zm p.2.2 * v + p.2.1 = n * 2 ^ k) (fun p => p.1) (J, n * 2 ^ k, List.replicate J 0)
   ⟨⟨rfl, rfl, rfl, rfl, rfl, ?_, trivial⟩, rfl, Nat.le_refl _, hstart, by simp, Lim.zeros _, fun x _ => zJz _ _, by simp [zFq]⟩ ?_
 · show some (AV.int .i64 _) = _
   congr 2
   omega
 rintro ⟨j1, W, Q⟩ ⟨w1, w2, w3, w4, w5, w6⟩
 simp only at *
 repeat (first | refine zD (zF rfl) ?_ | refine zB ?_ | refine zA ?_ | refine zG ?_ | refine zC rfl ?_ | refine zD (zC2 rfl rfl) ?_)
 refine zK rfl (fun q2 => ?_) (fun q2 => ?_)
 · obtain ⟨j, rfl⟩ : ∃ j, j1 = j + 1 := ⟨j1 - 1, by omega⟩
   obtain ⟨p1, p2, p3, W', p4, p5, p6⟩ := quo_step (N := ln + 1) hv0 hvB w2 (show j + (s + 1) ≤ ln + 1 by omega)
   have hd := hdig (zBT j W) (zBT (s + 1) (W / B ^ j)) (zBT (ln + 1 - (j + (s + 1))) (W / B ^ j / B ^ (s + 1))) j [none, some ⟨193, .ints .u32 Q⟩] (zBS _ _) (zBS _ _) (zEL _ _) (by rw [p2]; exact p3) (by rw [← p1, zBS]; omega)
   rw [p2, p4, ← p1] at hd
   have hq : W / B ^ j / v < 4294967296 := Nat.div_lt_of_lt_mul (by rw [Nat.mul_comm]; exact p3)
   obtain ⟨dg, hdg⟩ : ∃ dg, W / B ^ j / v = dg := ⟨_, rfl⟩
   rw [hdg] at hd hq p6
   repeat (first | refine zD (zF rfl) ?_ | refine zA ?_ | refine zG ?_ | refine zC rfl ?_ | refine zT ?_ | refine zP ?_ | refine zD (zAK rfl rfl (by omega)) ?_ | refine zD (zKw rfl rfl rfl rfl rfl rfl rfl rfl (by omega)) ?_)
   refine zU 82 (.sl 0 j (s + 1)) rfl (AEq.of_eq (by congr 1 <;> omega)) ?_
   skip
   have c3 : [AV.sl 0 j (s + 1), .ro (.ints .u32 (zh v)) 0 s] ++ [] = [.sl 0 j (s + 1), zEh (zh v)] := by unfold zEh; rw [hnl]; rfl
   refine zFH rfl rfl c3 hd (fun h hh => hh) (fun h hh => hh) ?_
   rintro r H ⟨rfl, rfl⟩
   refine zU 75 (.int .i64 (j : Nat)) rfl (AEq.of_eq (by congr 1; omega)) ?_
   repeat (first | refine zD (zF rfl) ?_ | refine zD (zE rfl) ?_ | refine zB ?_ | refine zA ?_ | refine zC rfl ?_ | refine zZ ?_ | refine zD (zBa rfl rfl (by omega)) ?_ | refine zD (zu rfl rfl rfl rfl rfl (by first | (simp only [Nat.zero_add, Int.toNat_natCast, Int.toNat_zero]; exact rfl) | exact rfl) (by omega)) ?_ | refine zAr rfl rfl rfl rfl rfl rfl rfl (by first | assumption | (show _ < List.length _; first | assumption | omega)) ?_)
   have hz := w5 j (by omega)
   have hset := zHO (x := (dg : Int)) (show j < Q.length by omega)
   rw [hz, Int.toNat_natCast] at hset
   have z0 : (0 : Int).toNat = 0 := rfl
   rw [z0, Nat.mul_zero, Nat.add_zero] at hset
   refine zd ⟨(j, W', Q.set j (dg : Int)), ⟨by simp only; omega, p5, by simp [w3], w4.set (by omega), fun x hx => ?_, ?_⟩, by simp only; omega, ⟨rfl, rfl, rfl, rfl, rfl, ?_, trivial⟩, rfl⟩
   · simp only at hx ⊢
     rw [zCO (by omega)]; exact w5 x (by omega)
   · simp only
     rw [hset, Nat.add_mul, Nat.mul_assoc, Nat.mul_comm dg v]
     omega
   · show some (AV.int .i64 _) = _
     congr 2
     omega
 · have hj0 : j1 = 0 := by omega
   subst hj0
   rw [Nat.pow_zero, Nat.mul_one] at w2
   have he := hend (zm Q) W
   obtain ⟨hq, hW⟩ := he w6 w2
   clear he hend
   have hWB : W < B ^ s := Nat.lt_trans w2 hvB
   have htk : (zBT (ln + 1) W).take s = zBT s W := by
     rw [show ln + 1 = s + J by omega, zED, List.take_left' (zBS _ _)]
   have hn1 := zCw (zBT s W) (zEL _ _) (by rw [zBS]; omega)
   rw [zGL _ _ hWB] at hn1
   repeat (first | refine zD (zF rfl) ?_ | refine zA ?_ | refine zG ?_ | refine zC rfl ?_ | refine zx ?_ | refine zW ?_ | refine zX ?_ | refine zi ?_)
   refine zD (zGs rfl rfl rfl rfl rfl rfl rfl rfl ⟨rfl, by omega, by omega⟩) ?_
   refine zU 88 (.sl 0 0 s) rfl (AEq.of_eq (by rw [Int.toNat_natCast])) ?_
   refine zCZ 0 88 s [(8, .int .i64 (k : Nat)), (12, .sl 2 0 J)] rfl zAY rfl (by show _ ≤ (zBT _ _).length; rw [zBS]; omega) ⟨rfl, rfl, trivial⟩ ?_
   refine zU 88 (.ro (.ints .u32 (zBT s W)) 0 s) rfl (AEq.trans AEq.take (AEq.of_eq (by rw [htk]))) ?_
   refine zM rfl rfl (zCH (zBS _ _)) hn1 ?_
   have hlW := zAW W
   have hWv := zAG W
   have hlWl : (zh W).length ≤ s := zAj hWB
   unfold zAL
   obtain ⟨r, hr⟩ : ∃ r, zh W = r := ⟨_, rfl⟩
   rw [hr] at hlW hWv hlWl ⊢
   repeat (first | refine zD (zF rfl) ?_ | refine zD (zE rfl) ?_ | refine zB ?_ | refine zA ?_ | refine zG ?_ | refine zC rfl ?_ | refine zD (zw rfl rfl rfl) ?_)
   refine zCS rfl rfl rfl rfl rfl rfl rfl rfl (by show (0 : Int) ≤ _ ∧ _ ≤ _ ∧ (4 : Int) * _ ≤ _ ∧ _; omega) ?_
   repeat (first | refine zD (zF rfl) ?_ | refine zD (zE rfl) ?_ | refine zB ?_ | refine zA ?_ | refine zG ?_ | refine zC rfl ?_ | refine zT ?_ | refine zD (zw rfl rfl rfl) ?_)
   have hd0 : ∃ d0 : Nat, r.getD 0 0 = (d0 : Int) ∧ d0 < 4294967296 := hlW.nat 0
   obtain ⟨d0, hd0, hd0b⟩ := hd0
   refine zAC (ι := Nat × List Int) (fun p => [(8, .int .i64 (k : Nat)), (12, .sl 2 0 J), (14, .ro (.ints .u32 r) 0 r.length), (15, .sl 3 0 r.length), (93, .ro (.ints .u32 r) 0 r.length), (94, .int .i64 (r.length : Nat)), (95, .int .i64 (p.1 : Nat))]) (fun p => [none, none, some ⟨193, .ints .u32 Q⟩, some ⟨193, .ints .u32 p.2⟩])
     (fun p => p.1 ≤ r.length ∧ p.2.length = r.length ∧ Lim p.2 ∧ zm (p.2.take p.1) * 2 ^ k + d0 % 2 ^ k = zm (r.take p.1) + (r.getD p.1 0).toNat % 2 ^ k * B ^ p.1) (fun p => r.length - p.1) (0, List.replicate r.length 0)
     ⟨⟨rfl, rfl, rfl, rfl, rfl, rfl, rfl, trivial⟩, rfl, Nat.zero_le _, by simp, Lim.zeros _, by simp [zm]; rw [show r[0]?.getD 0 = (d0 : Int) from hd0]; simp⟩ ?_
   rintro ⟨i, O⟩ ⟨x1, x2, x3, x4⟩
   simp only at *
   repeat (first | refine zB ?_ | refine zA ?_ | refine zG ?_ | refine zC rfl ?_ | refine zD (zAQ rfl rfl) ?_)
   refine zK rfl (fun x5 => ?_) (fun x5 => ?_)
   · have hil : i < r.length := by omega
     obtain ⟨d, hd, hdb⟩ := hlW.nat i
     obtain ⟨e, he, heb⟩ := hlW.nat (i + 1)
     have hbl := zMA (e := e) hdb hk1
     have hbm := back_lim (e := e) hdb hk1
     have hdk : d / 2 ^ k < 4294967296 := Nat.lt_of_le_of_lt (Nat.div_le_self _ _) hdb
     rw [hd, Int.toNat_natCast] at x4
     have hstep := back_val (e := e) (out := O.take i) (i := i) hk1 (by simp; omega) hd x4
     repeat (first | refine zD (zF rfl) ?_ | refine zD (zE rfl) ?_ | refine zD (z6 rfl rfl rfl) ?_ | refine zB ?_ | refine zA ?_ | refine zG ?_ | refine zC rfl ?_ | refine zT ?_ | refine zP ?_ | refine zD (zY rfl rfl rfl rfl (by first | (simp only [Nat.zero_add, Int.toNat_natCast, Int.toNat_zero]; exact rfl) | exact rfl) (by omega)) ?_)
     refine zU 102 (.int .u32 (d : Nat)) rfl (AEq.of_eq (by rw [hd])) ?_
     skip
     refine zD (zET (m := d) (s := k) rfl rfl (by rw [Nat.ble_eq]; show k ≤ 32; omega)) ?_
     repeat (first | refine zD (zF rfl) ?_ | refine zB ?_ | refine zA ?_ | refine zG ?_ | refine zC rfl ?_ | refine zD (zAQ rfl rfl) ?_ | refine zD (zw rfl rfl rfl) ?_ | refine zD (zAK rfl rfl (by omega)) ?_ | refine zD (zu rfl rfl rfl rfl rfl (by first | (simp only [Nat.zero_add, Int.toNat_natCast, Int.toNat_zero]; exact rfl) | exact rfl) (by omega)) ?_ | refine zAr rfl rfl rfl rfl rfl rfl rfl (by first | assumption | (show _ < List.length _; first | assumption | omega)) ?_)
     apply zAu (H := [none, none, some ⟨193, .ints .u32 Q⟩, some ⟨193, .ints .u32 (O.set i ((d / 2 ^ k + e % 2 ^ k * 2 ^ (32 - k) : Nat) : Int))⟩]) [(8, .int .i64 (k : Nat)), (12, .sl 2 0 J), (14, .ro (.ints .u32 r) 0 r.length), (15, .sl 3 0 r.length), (93, .ro (.ints .u32 r) 0 r.length), (94, .int .i64 (r.length : Nat)), (95, .int .i64 (i : Nat))]
     · intro fin
       have noFin : (i + 1 = r.length ∨ k = 0) → e % 2 ^ k * 2 ^ (32 - k) = 0 := by
         rintro (h | h)
         · have : r.getD (i + 1) 0 = 0 := by simp [List.getD, List.getElem?_eq_none (show r.length ≤ i + 1 by omega)]
           have : e = 0 := by omega
           subst this; simp
         · subst h; rw [Nat.pow_zero, Nat.mod_one]; try simp
       refine zAH rfl rfl (fun y1 => ?_) (fun y1 => ?_)
       · repeat (first | refine zD (zF rfl) ?_ | refine zB ?_ | refine zA ?_ | refine zj rfl rfl ?_ | refine zD (zBU rfl rfl) ?_ | refine zD (zr rfl rfl) ?_)
         refine zK rfl (fun y2 => ?_) (fun y2 => ?_)
         · skip
           refine zAI (by kernel_rfl) ?_
           refine zc 0 rfl (by kernel_rfl) (by kernel_rfl) (by kernel_rfl) rfl (zF rfl) rfl ?_
           refine zc 1 rfl (by kernel_rfl) (by kernel_rfl) (by kernel_rfl) rfl (zF rfl) rfl ?_
           refine zc 2 rfl (by kernel_rfl) (by kernel_rfl) (by kernel_rfl) rfl (zu rfl rfl rfl rfl rfl (by first | (simp only [Nat.zero_add, Int.toNat_natCast, Int.toNat_zero]; exact rfl) | exact rfl) (by omega)) rfl ?_
           refine zc 4 rfl (by kernel_rfl) (by kernel_rfl) (by kernel_rfl) rfl (zF rfl) rfl ?_
           refine zc 5 rfl (by kernel_rfl) (by kernel_rfl) (by kernel_rfl) rfl (zF rfl) rfl ?_
           refine zc 6 rfl (by kernel_rfl) (by kernel_rfl) (by kernel_rfl) rfl (zAK rfl rfl (by omega)) rfl ?_
           refine zc 7 rfl (by kernel_rfl) (by kernel_rfl) (by kernel_rfl) rfl (zY rfl rfl rfl rfl (by first | (simp only [Nat.zero_add, Int.toNat_natCast, Int.toNat_zero]; exact rfl) | exact rfl) (by omega)) rfl ?_
           refine zc 9 rfl (by kernel_rfl) (by kernel_rfl) (by kernel_rfl) rfl (zF rfl) rfl ?_
           refine zc 10 rfl (by kernel_rfl) (by kernel_rfl) (by kernel_rfl) rfl (zBa rfl rfl (by omega)) rfl ?_
           apply zCI [(8, .int .i64 (k : Nat)), (12, .sl 2 0 J), (14, .ro (.ints .u32 r) 0 r.length), (15, .sl 3 0 r.length), (93, .ro (.ints .u32 r) 0 r.length), (94, .int .i64 (r.length : Nat)), (95, .int .i64 (i : Nat)), (118, .int .u32 (d / 2 ^ k : Nat)), (126, .int .u32 (e * 2 ^ (32 - k) % 4294967296 : Nat)), (115, .sl 3 0 r.length), (116, .int .i64 (i : Nat))]
           · intro fin2
             have hsl : (O.set i ((d / 2 ^ k : Nat) : Int)).getD i 0 = ((d / 2 ^ k : Nat) : Int) := by simp [List.getD, show i < O.length by omega]
             have hil2 : i < (O.set i ((d / 2 ^ k : Nat) : Int)).length := by simp; omega
             refine zO (is := [3, 8]) (by kernel_rfl) (by simp) rfl ⟨fun o ho => ?_, fun o ho => ?_, trivial⟩
             all_goals (cases ho)
             · repeat (first | refine zB ?_ | refine zJ ?_ | refine zD (zAP rfl rfl rfl rfl (by first | assumption | omega)) ?_)
               refine zO (is := [8]) (by kernel_rfl) (by simp) rfl ⟨fun o ho => ?_, trivial⟩
               all_goals (cases ho)
               repeat (first | refine zD (z6 rfl rfl rfl) ?_ | refine zB ?_ | refine zJ ?_)
               refine zBR 123 (.int .u32 (e : Nat)) rfl (AEq.of_eq (by rw [show ((i : Int) + 1).toNat = i + 1 by omega, he])) ?_
               refine zBR 125 (.int .i64 (32 - k : Nat)) rfl (AEq.of_eq (by congr 1; omega)) ?_
               refine zc 11 rfl (by kernel_rfl) (by kernel_rfl) (by kernel_rfl) rfl (zLL (m := e) (s := 32 - k) rfl rfl (by show 32 - k ≤ 32; omega) zDm) rfl ?_
               refine fin2 _ ⟨rfl, rfl, rfl, rfl, rfl, rfl, rfl, ?_, rfl, rfl, rfl, trivial⟩
               show some (AV.int .u32 ((O.set i ((d / 2 ^ k : Nat) : Int)).getD i 0)) = _
               rw [hsl]
             · repeat (first | refine zD (z6 rfl rfl rfl) ?_ | refine zB ?_ | refine zJ ?_)
               refine zBR 123 (.int .u32 (e : Nat)) rfl (AEq.of_eq (by rw [show ((i : Int) + 1).toNat = i + 1 by omega, he])) ?_
               refine zBR 125 (.int .i64 (32 - k : Nat)) rfl (AEq.of_eq (by congr 1; omega)) ?_
               refine zc 11 rfl (by kernel_rfl) (by kernel_rfl) (by kernel_rfl) rfl (zLL (m := e) (s := 32 - k) rfl rfl (by show 32 - k ≤ 32; omega) zDm) rfl ?_
               refine zO (is := [3]) (by kernel_rfl) (by simp) rfl ⟨fun o ho => ?_, trivial⟩
               all_goals (cases ho)
               repeat (first | refine zB ?_ | refine zJ ?_ | refine zD (zAP rfl rfl rfl rfl (by first | assumption | omega)) ?_)
               refine fin2 _ ⟨rfl, rfl, rfl, rfl, rfl, rfl, rfl, ?_, rfl, rfl, rfl, trivial⟩
               show some (AV.int .u32 ((O.set i ((d / 2 ^ k : Nat) : Int)).getD i 0)) = _
               rw [hsl]
           refine zc 12 rfl (by kernel_rfl) (by kernel_rfl) (by kernel_rfl) rfl (QOp.res (zJc rfl rfl zDm rfl hdk (Nat.mod_lt _ (by decide))) (by rw [hbl])) rfl ?_
           have hil2 : i < (O.set i ((d / 2 ^ k : Nat) : Int)).length := by simp; omega
           refine zc 13 rfl (by kernel_rfl) (by kernel_rfl) (by kernel_rfl) rfl (zu rfl rfl rfl rfl rfl (by first | (simp only [Nat.zero_add, Int.toNat_natCast, Int.toNat_zero]; exact rfl) | exact rfl) (by omega)) rfl ?_
           refine zO (is := [14]) (by kernel_rfl) (by simp) rfl ⟨fun o ho => ?_, trivial⟩
           all_goals (cases ho)
           repeat (first | refine zB ?_ | refine zJ ?_ | refine zAr rfl rfl rfl rfl rfl rfl rfl (by first | assumption | (show _ < List.length _; first | assumption | omega)) ?_)
           refine zAB (by kernel_rfl) ?_
           repeat (first | refine zA ?_ | refine zZ ?_)
           refine zCo _ (by show [none, none, _, some (⟨_, .ints .u32 ((O.set i _).set i _)⟩ : AObj)] = _; rw [List.set_set]) ?_
           exact fin _ ⟨rfl, rfl, rfl, rfl, rfl, rfl, rfl, trivial⟩
         · have hz := noFin (.inr (by omega))
           rw [hz, Nat.add_zero] at fin
           repeat (first | refine zA ?_ | refine zZ ?_ | refine zP ?_)
           exact fin _ ⟨rfl, rfl, rfl, rfl, rfl, rfl, rfl, trivial⟩
       · have hz := noFin (.inl (by omega))
         rw [hz, Nat.add_zero] at fin
         repeat (first | refine zB ?_ | refine zA ?_ | refine zp rfl rfl rfl ?_ | refine ze rfl ?_ | refine zZ ?_ | refine zP ?_ | refine zD (zr rfl rfl) ?_)
         exact fin _ ⟨rfl, rfl, rfl, rfl, rfl, rfl, rfl, trivial⟩
     repeat (first | refine zD (zF rfl) ?_ | refine zB ?_ | refine zC rfl ?_ | refine zD (zAK rfl rfl (by omega)) ?_)
     refine zd ⟨(i + 1, O.set i ((d / 2 ^ k + e % 2 ^ k * 2 ^ (32 - k) : Nat) : Int)), ⟨by simp only; omega, by simp [x2], x3.set (by omega), ?_⟩, by simp only; omega, ⟨rfl, rfl, rfl, rfl, rfl, rfl, rfl, trivial⟩, rfl⟩
     simp only
     rw [zD5 (by omega), he, Int.toNat_natCast]
     exact hstep
   · have hie : i = r.length := by omega
     subst hie
     have hz : r.getD r.length 0 = 0 := by simp [List.getD]
     have z0 : (0 : Int).toNat = 0 := rfl
     rw [hz, z0, Nat.zero_mod, Nat.zero_mul, Nat.add_zero, List.take_of_length_le (by omega), List.take_length, hWv, hW] at x4
     have hpk : 0 < 2 ^ k := Nat.pow_pos (by decide)
     have hOv : zm O = n % m := by
       have h1 : d0 % 2 ^ k < 2 ^ k := Nat.mod_lt _ hpk
       have h2 : (zm O * 2 ^ k + d0 % 2 ^ k) / 2 ^ k = zm O := by rw [Nat.add_comm, Nat.add_mul_div_right _ _ hpk, Nat.div_eq_of_lt h1, Nat.zero_add]
       rw [x4, Nat.mul_div_cancel _ hpk] at h2
       exact h2.symm
     have nq := zCw Q w4 (by omega)
     have no := zCw O x3 (by omega)
     rw [hq] at nq
     rw [hOv] at no
     repeat (first | refine zD (zF rfl) ?_ | refine zA ?_ | refine zG ?_ | refine zC rfl ?_ | refine zx ?_ | refine zW ?_ | refine zX ?_ | refine zi ?_)
     refine zCZ 2 130 J [(15, .sl 3 0 r.length)] rfl zAY rfl (by show _ ≤ Q.length; omega) ⟨rfl, trivial⟩ ?_
     refine zM rfl rfl (zCH w3) nq ?_
     repeat (refine zD (zF rfl) ?_)
     refine zCZ 3 132 r.length [(131, zAL (n / m))] rfl zAY rfl (by show _ ≤ O.length; omega) ⟨rfl, trivial⟩ ?_
     refine zM rfl rfl (zCH x2) no ?_
     repeat (first | refine zD (zE rfl) ?_ | refine zB ?_ | refine zA ?_ | refine zH ?_)
     exact zR hR rfl rfl
end Go.Proofs.YtgmleamhjnlknaaGreatDoor
namespace Go.Ax.Bg
theorem zD6 {a b k : Nat} (h : a < b) (hb : (zh b).length ≤ k) : (zh a).length ≤ k := by
 have h1 := zAp (zAW b)
 rw [zAG] at h1
 have := zAj (Nat.lt_trans h h1)
 omega
theorem zDt {a b k : Nat} (h : a ≤ b) (hb : (zh b).length ≤ k) : (zh a).length ≤ k := by
 rcases Nat.lt_or_ge a b with q | q
 · exact zD6 q hb
 · have : a = b := by omega
   subst this; exact hb
theorem zE6 : zh 1 = [1] := by
 rw [zFF (by decide)]
 have : 1 / B = 0 := by decide
 rw [this, zBK]; rfl
theorem zMM {n : Nat} : n = 1 ↔ (zh n).length = 1 ∧ (zh n).getD 0 0 = 1 := by
 constructor
 · rintro rfl; rw [zE6]; exact ⟨rfl, rfl⟩
 · rintro ⟨h1, h2⟩
   have h3 := zAF (zh n) 0
   rw [List.take_of_length_le (by omega), zAG, h2] at h3
   simpa [zm] using h3
/-- A row of which k elements on each side have changed places. -/
def zEp (l : List (List UInt8)) (k : Nat) : List (List UInt8) := (List.range l.length).map fun i => if i < k ∨ l.length - k ≤ i then l.getD (l.length - 1 - i) [] else l.getD i []
theorem zCU (l : List (List UInt8)) (k : Nat) : (zEp l k).length = l.length := by unfold zEp; simp
theorem zFP (l : List (List UInt8)) (k i : Nat) (hi : i < l.length) : (zEp l k).getD i [] = if i < k ∨ l.length - k ≤ i then l.getD (l.length - 1 - i) [] else l.getD i [] := by
 unfold zEp
 simp only [List.getD, List.getElem?_map, List.getElem?_range hi, Option.map_some, Option.getD_some]
theorem zHt {l m : List (List UInt8)} (h : l.length = m.length) (he : ∀ i, i < l.length → l.getD i [] = m.getD i []) : l = m := by
 apply List.ext_getElem h
 intro i h1 h2
 have := he i h1
 rw [zCq [] h1, zCq [] h2] at this
 exact this
theorem zMs (l : List (List UInt8)) : zEp l 0 = l := by
 refine zHt (zCU l 0) (fun i hi => ?_)
 rw [zCU] at hi
 rw [zFP l 0 i hi, if_neg (by omega)]
theorem zMc (l : List (List UInt8)) {k : Nat} (h : l.length ≤ 2 * k + 1) : zEp l k = l.reverse := by
 refine zHt (by rw [zCU, List.length_reverse]) (fun i hi => ?_)
 rw [zCU] at hi
 have hr : l.reverse.getD i [] = l.getD (l.length - 1 - i) [] := by
   simp only [List.getD]
   rw [List.getElem?_reverse hi]
 rw [zFP l k i hi, hr]
 split
 · rfl
 · congr 1; omega
theorem zMU (l : List (List UInt8)) {k : Nat} (h : k + 1 + k < l.length) : ((zEp l k).set k ((zEp l k).getD (l.length - 1 - k) [])).set (l.length - 1 - k) ((zEp l k).getD k []) = zEp l (k + 1) := by
 refine zHt (by simp [zCU]) (fun i hi => ?_)
 simp only [List.length_set, zCU] at hi
 rw [zFP l (k + 1) i hi, zFP l k (l.length - 1 - k) (by omega), if_neg (by omega), zFP l k k (by omega), if_neg (by omega)]
 simp only [List.getD]
 by_cases h1 : i = l.length - 1 - k
 · subst h1
   rw [List.getElem?_set_self (by simp [zCU]; omega), if_pos (by omega)]
   simp only [Option.getD_some]
   congr 2; omega
 · rw [List.getElem?_set_ne (Ne.symm h1)]
   by_cases h2 : i = k
   · subst h2
     rw [List.getElem?_set_self (by rw [zCU]; omega), if_pos (by omega)]
     simp only [Option.getD_some]
   · rw [List.getElem?_set_ne (Ne.symm h2)]
     have := zFP l k i hi
     simp only [List.getD] at this
     rw [this]
     by_cases h3 : i < k ∨ l.length - k ≤ i
     · rw [if_pos h3, if_pos (by omega)]
     · rw [if_neg h3, if_neg (by omega)]
end Go.Ax.Bg
