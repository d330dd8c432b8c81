import Derived.Lib.Bytealg
import Derived.Laws.Externs
import Derived.Laws.CopyRow
import Derived.OpenShut
import Derived.SizedLaws
import Derived.Laws.StructEq
import Derived.ChangeKeysEq
import Derived.WideLaws
import Derived.Laws.Bits64
import Derived.Laws.BitsLemmas
import Derived.Lib.AppendStr
import Derived.Lib.UnsafeStr
import Derived.Lib.Builder
import Derived.Laws.Small
import Derived.MapKept
import Derived.Laws.IdiomStrings
import Derived.Lib.LaidTab
import Derived.Lib.ItoaNum
import Derived.Stop.LaidErr
import Derived.Test.YtnkealfaldjipaaGreatDoorProg
import Derived.Lib.AtoiAll
import Derived.Test.YtnkealfaldjipaaGreatDoorY1
set_option linter.unusedVariables false
set_option linter.unusedSimpArgs false
namespace Go.Ax
variable [Pins]
open Go.RowKit
section
variable {P : Program} {fn : Func} {c : Ctx} {fr : Fr} {H : zZ} {k : List It}
end
/-- What a value is told as, once the objects of HF are only read. -/
def FzTo (HF : zZ) (x y : AV) : Prop := y = x ∨ y = .any ∨ (y = x.frz HF ∧ inB HF x)
def fzk (HF : zZ) (fr : Fr) : Fr → Prop
 | [] => True
 | (t, y) :: r => (∃ x, zA5 t fr = some x ∧ FzTo HF x y) ∧ fzk HF fr r
theorem look_fzk {HF : zZ} {fr L : Fr} {t : Nat} {y : AV} (h : fzk HF fr L) (hl : zA5 t L = some y) : ∃ x, zA5 t fr = some x ∧ FzTo HF x y := by
 have _pin := (inferInstance : Pins)
 induction L with
 | nil => simp [zA5] at hl
 | cons p r ih =>
   obtain ⟨u, x⟩ := p
   obtain ⟨h1, h2⟩ := h
   simp only [zA5] at hl
   by_cases he : t = u
   · subst he; simp at hl; subst hl; exact h1
   · have hb : Nat.beq t u = false := zB5 he
     simp [hb] at hl
     exact ih h2 hl
/-- Objects that nobody writes any more join the region. -/
theorem Rep.freeze {c : Ctx} {w : World} {a : Act} {σ : Nat → Option Blk} {S : Nat → Prop} {n : Nat} {fr L : Fr} {H : zZ} (hr : Rep c w a σ S n fr H) (HF H' : zZ) (hsub : subH HF H) (hrl : ∀ (h : Nat) (o : AObj), HF[h]? = some (some o) → zAC o.c)
   (hlen : H'.length = H.length)
   (hH : ∀ (h : Nat) (o' : AObj), H'[h]? = some (some o') → (∀ o : AObj, HF[h]? ≠ some (some o)) ∧ ∃ o : AObj, H[h]? = some (some o) ∧ o'.ty = o.ty ∧ o'.c.len = o.c.len ∧ o'.c.kd = o.c.kd ∧ ∀ i j, i < o.c.len → j < o.c.sz → FzTo HF (o.c.at i j) (o'.c.at i j))
   (hL : fzk HF fr L) : ∃ S', Rep c w a σ S' n L H' := by
 have hlive : zJu w S σ HF := fun h o ho => hr.hr.live h o (hsub h o ho)
 let S' : Nat → Prop := fun b => S b ∨ ∃ h o s C, HF[h]? = some (some o) ∧ σ h = some (.at b s C)
 have hup : ∀ {σ1 : Nat → Option Blk} {x v}, VR w S σ1 x v → VR w S' σ1 x v := fun h => h.mono (fun _ h => .inl h) (fun _ _ => rfl) _ (fun _ _ h => h)
 have hfz : ∀ {x y v}, FzTo HF x y → VR w S σ x v → VR w S' σ y v := by
   intro x y v h hv
   rcases h with rfl | rfl | ⟨rfl, hin⟩
   · exact hup hv
   · exact .any _ _
   · exact VR.freeze hlive hrl (fun _ h => .inl h) (fun h o b s C h1 h2 => .inr ⟨h, o, s, C, h1, h2⟩) hv σ hin
 refine ⟨S', ⟨fun h o' ho' => ?_, fun h1 h2 o1 o2 b s C s' C' q1 q2 e1 e2 => ?_, fun b hb => ?_, fun h hl => hr.hr.dom h (by omega)⟩, ⟨hr.kp.os, hr.kp.output, hr.kp.tape, hr.kp.size, hr.kp.block, fun b hb => .inl (hr.kp.S1 b hb), fun b hb => ?_, hr.kp.fixed, fun h hf => by rw [hlen]; exact hr.kp.fixlt h hf, fun h o b s C q e => ?_⟩, hr.defers, hr.size, fun t y hy => ?_⟩
 · obtain ⟨hno, o, h1, h2, h3, h4, h5⟩ := hH h o' ho'
   rw [h3, zN5 h4]
   rcases hr.hr.live h o h1 with g | ⟨b, C, cur, g1, g2, g3, g4, g5, g6, g7⟩
   · exact .inl g
   · refine .inr ⟨b, C, cur, g1, (g2.mono Y hup).kd h2 h4, g3, g4, g5, ?_, fun i j hi hj => ?_⟩
     · rintro (hs | ⟨h', o2, s2, C2, q1, q2⟩)
       · exact g6 hs
       · have := hr.hr.dist h h' o o2 b _ C s2 C2 h1 (hsub h' o2 q1) g1 q2
         subst this
         exact hno o2 q1
     · obtain ⟨v, e1, e2, e3⟩ := g7 i j hi hj
       exact ⟨v, e1, hfz (h5 i j hi hj) e2, e3⟩
 · obtain ⟨_, p, p1, _⟩ := hH h1 o1 q1
   obtain ⟨_, p', p1', _⟩ := hH h2 o2 q2
   exact hr.hr.dist h1 h2 p p' b s C s' C' p1 p1' e1 e2
 · rcases hb with hs | ⟨h, o, s, C, q1, q2⟩
   · exact hr.hr.small b hs
   · obtain ⟨_, cu, g, _⟩ := hr.obj (hsub h o q1) q2
     exact g.lt
 · rcases hb with hs | ⟨h, o, s, C, q1, q2⟩
   · exact hr.kp.S2 b hs
   · rcases hr.kp.own h o b s C (hsub h o q1) q2 with g | g
     · exact .inr (.inl g)
     · exact .inr (.inr g)
 · obtain ⟨_, p, p1, _⟩ := hH h o q
   exact hr.kp.own h p b s C p1 e
 · obtain ⟨x, hx, hf⟩ := look_fzk hL hy
   exact ⟨(hr.slots t x hx).1, hfz hf (hr.slots t x hx).2⟩
section
variable {P : Program} {fn : Func} {c : Ctx} {fr : Fr} {H : zZ} {k : List It}
theorem zIX {x : Code} (HF H' : zZ) (L : Fr) (hsub : subH HF H) (hrl : ∀ (h : Nat) (o : AObj), HF[h]? = some (some o) → zAC o.c) (hlen : H'.length = H.length)
   (hH : ∀ (h : Nat) (o' : AObj), H'[h]? = some (some o') → (∀ o : AObj, HF[h]? ≠ some (some o)) ∧ ∃ o : AObj, H[h]? = some (some o) ∧ o'.ty = o.ty ∧ o'.c.len = o.c.len ∧ o'.c.kd = o.c.kd ∧ ∀ i j, i < o.c.len → j < o.c.sz → FzTo HF (o.c.at i j) (o'.c.at i j))
   (hL : fzk HF fr L) (hk : Ax P fn c (.code x k) L H') : Ax P fn c (.code x k) fr H := by
 intro w a σ S hr
 obtain ⟨S', hr'⟩ := hr.freeze HF H' hsub hrl hlen hH hL
 exact hk w a σ S' hr'
theorem zBQ {x : Code} (H' : zZ) (he : H = H') (hk : Ax P fn c (.code x k) fr H') : Ax P fn c (.code x k) fr H := he ▸ hk
theorem zGt {all : Array Oper} {fuel : Nat} {listed : Array Bool} (H' : zZ) (hs : zAB H H') (h : Ax P fn c (.any all fuel listed k) fr H') : Ax P fn c (.any all fuel listed k) fr H :=
 fun w a σ S hr => h w a σ S (hr.heap hs)
theorem zBU {all : Array Oper} {fuel : Nat} {listed : Array Bool} (t : Nat) {v : AV} (y : AV) (hl : zA5 t fr = some v) (h : AEq v y) (hk : Ax P fn c (.any all fuel listed k) ((t, y) :: fr) H) : Ax P fn c (.any all fuel listed k) fr H :=
 fun w a σ S hr => hk w a σ S (hr.slot hl h)
end
end Go.Ax
namespace Go.Ax
variable [Pins]
open Go.RowKit
section
variable {ind : Bool} {P : Program} {fn : Func} {c : Ctx} {fr : Fr} {H : zZ} {k : List It}
variable {d : Option Nat} {ty : TypeId} {pos : String} {after : Array Edge} {gu : Option (Nat × Bool)}
theorem q_extern {g : Operand} {args : List Operand} {ats : Array TypeId} {f : FuncId} {fx : Func} {e : Array Value → Sem Value} {ags : List AV} {r : AV} (hg : ev fr g = some (.fn f [])) (ha : evs fr args = some ags)
   (hf : P.funcs[f]? = some fx) (hname : (fx.name == "runtime.NumGoroutine") = false) (hb : fx.body.isNone = true) (hn : Extern.findNext fx = none) (he : Extern.find fx = some e)
   (hrun : ∀ w S σ vals, VRs w S σ ags vals → ∃ x, VR w S σ r x ∧ ∀ w', (e vals).run P w' = .ok x w') :
   QOp ind P fn c fr H ⟨d, .call { callee := .value g, args := args.toArray, argTypes := ats }, ty, pos, after, gu⟩ r := by
 intro w a σ S hr
 have h1 := hr.evAt hg
 obtain ⟨e1, e2⟩ := zIE hr args ags ha
 generalize hz : a.eval g = z at h1
 cases h1 with
 | fn _ _ _ vs hl hv =>
   have hvs : vs = #[] := by
     have : vs.size = 0 := by simpa using hl
     exact Array.eq_empty_of_size_eq_zero this
   subst hvs
   have hv0 : VRs w S σ ags (args.map a.eval).toArray := by
     refine ⟨by simp [e1], fun i hi => ?_⟩
     have := e2 i hi
     have hlt : i < args.length := by omega
     have eb : (args.map a.eval).toArray.getD i undef = (args.map a.eval).getD i undef := by simp [List.getD, hlt]
     rw [eb]; exact this
   obtain ⟨x, hx2, hall⟩ := hrun w S σ _ hv0
   refine ⟨x, hx2, fun w' _ => ?_⟩
   have hc := run_callFunc_extern (P := P) hf hname hb hn he (args.map a.eval).toArray w'
   rw [hall w'] at hc
   simp only [execOp, resolve, hz, Deferred.ofValue, Sem.run_bind, Sem.run_pure, Result.andThen_ok, invoke, List.map_toArray, Array.empty_append, Array.append_empty] at hc ⊢
   exact hc
theorem VRs.strByte {w : World} {S : Nat → Prop} {σ : Nat → Option Blk} {s : List UInt8} {b : Int} {vals : Array Value} (h : VRs w S σ [.str s, .int .u8 b] vals) : vals = #[zHO s, .int .u8 b] := by
 have _pin := (inferInstance : Pins)
 obtain ⟨h1, h2⟩ := h
 have a := h2 0 (by simp)
 have b' := h2 1 (by simp)
 apply Array.ext
 · simpa using h1
 · intro i hi1 hi2
   have hlt : i < 2 := by simpa using hi2
   match i, hlt with
   | 0, _ =>
     simp only [List.getD_cons_zero, Array.getD, hi1, dite_true] at a
     generalize hv : vals[0] = v at *
     have hv' : vals.getInternal 0 hi1 = v := hv
     rw [hv'] at a
     cases a; rfl
   | 1, _ =>
     simp only [List.getD_cons_succ, List.getD_cons_zero, Array.getD, hi1, dite_true] at b'
     generalize hv : vals[1] = v at *
     have hv' : vals.getInternal 1 hi1 = v := hv
     rw [hv'] at b'
     cases b'; rfl
/-- internal/bytealg.IndexByteString -/
theorem zMl {g x y : Operand} {ats : Array TypeId} {f : FuncId} {fx : Func} {s : List UInt8} {b : Int} (hg : ev fr g = some (.fn f [])) (hx : ev fr x = some (.str s)) (hy : ev fr y = some (.int .u8 b))
   (hf : P.funcs[f]? = some fx) (hname : (fx.name == "runtime.NumGoroutine") = false) (hb : fx.body.isNone = true) (hn : Extern.findNext fx = none) (he : Extern.find fx = some Extern.BytealgIndexByte.indexByte) :
   QOp ind P fn c fr H ⟨d, .call { callee := .value g, args := #[x, y], argTypes := ats }, ty, pos, after, gu⟩ (.int .i64 (Lib.indexByte s b.toNat.toUInt8)) :=
 q_extern (args := [x, y]) (ags := [.str s, .int .u8 b]) hg (by simp [evs, hx, hy]) hf hname hb hn he (fun w S σ vals hv => ⟨_, .int _ _ _, fun w' => by rw [hv.strByte]; exact Lib.run_indexByteString _ _ _⟩)
end
theorem zLi (ls : List (List Int)) (s : List Int) (cx : Cells) (h0 : cx.at 0 0 = .ro (.ints .i64 s) 0 s.length) (i j : Nat) (hi : i < ls.length + 1) (hj : j < 1) :
   (bif Nat.blt i ls.length then (zBE ls).at i j else cx.at (0 + (i - ls.length)) j) = (zBE (ls ++ [s])).at i j := by
 have _pin := (inferInstance : Pins)
 obtain rfl : j = 0 := by omega
 by_cases h : i < ls.length
 · have hb : Nat.blt i ls.length = true := Nat.ble_eq_true_of_le h
   simp only [hb, cond_true, zBE, Cells.at, List.getD]
   rw [List.getElem?_append_left h]
 · have hb : Nat.blt i ls.length = false := by
     cases hq : Nat.blt i ls.length with
     | false => rfl
     | true => exact absurd (Nat.le_of_ble_eq_true hq) h
   have hi' : i = ls.length := by omega
   subst hi'
   have e : (zBE (ls ++ [s])).at ls.length 0 = .ro (.ints .i64 s) 0 s.length := by
     simp only [zBE, Cells.at, List.getD]
     rw [List.getElem?_append_right (Nat.le_refl _)]
     simp
   rw [hb, e, Nat.sub_self, Nat.add_zero, h0]; rfl
/-- The row, one longer. -/
theorem zOn (ls : List (List Int)) (s : List Int) (cx : Cells) (h0 : cx.at 0 0 = .ro (.ints .i64 s) 0 s.length) :
   CEq (.fn (ls.length + 1) 1 (fun i j => bif Nat.blt i ls.length then (zBE ls).at i j else cx.at (0 + (i - ls.length)) j)) (zBE (ls ++ [s])) := by
 refine ⟨by simp [zBE, Cells.len], Y, fun i j hi hj => ?_⟩
 exact (zLi ls s cx h0 i j hi hj).symm
theorem zNY (ls : List (List Int)) (s : List Int) (cx : Cells) (h0 : cx.at 0 0 = .ro (.ints .i64 s) 0 s.length) (h i j : Nat) (hi : i < ls.length + 1) (hj : j < 1) :
   (bif Nat.blt i ls.length then (zBE ls).at i j else cx.at (0 + (i - ls.length)) j).forget h = (bif Nat.blt i ls.length then (zBE ls).at i j else cx.at (0 + (i - ls.length)) j) := by
 rw [zLi ls s cx h0 i j hi hj]; rfl
theorem AEq.tup2 {x x' y : AV} (h : AEq x x') : AEq (.tup [x, y]) (.tup [x', y]) := by
 have _pin := (inferInstance : Pins)
 intro w S σ v hv
 cases hv with
 | tup _ _ vs hl hv =>
   refine .tup _ _ _ hl (fun i hi => ?_)
   have := hv i hi
   match i, hi with
   | 0, _ => exact h _ _ _ _ this
   | 1, _ => exact this
theorem zV.res {P : Program} {f : FuncId} {args : List AV} {H : zZ} {fix : Nat → Prop} {K K' : AV → zZ → Prop} (hc : zV P f args H fix K) (hK : ∀ r H', K r H' → ∃ r', AEq r r' ∧ K' r' H') : zV P f args H fix K' := by
 refine ⟨hc.1, fun w σ S vals h0 h1 h2 h3 => Calls.mono (hc.2 w σ S vals h0 h1 h2 h3) fun e w' he => ?_⟩
 obtain ⟨v, r, σ', S', H', g1, g2, g3, g4, g5⟩ := he
 obtain ⟨r', hr1, hr2⟩ := hK _ _ g5
 exact ⟨v, r', σ', S', H', g1, g2, hr1 _ _ _ _ g3, ⟨g4.os, g4.output, g4.tape, g4.size, g4.block, g4.S1, g4.S2, g4.fixed, g4.fixlt, g4.own⟩, hr2⟩
def AEqs : List AV → List AV → Prop
 | [], [] => True
 | x :: r, y :: q => AEq x y ∧ AEqs r q
 | _, _ => False
theorem AEqs.length : ∀ {a b : List AV}, AEqs a b → a.length = b.length
 | [], [], _ => have _pin := (inferInstance : Pins); rfl
 | _ :: r, _ :: q, h => by simp [AEqs.length h.2]
 | [], _ :: _, h => h.elim
 | _ :: _, [], h => h.elim
theorem AEqs.get : ∀ {a b : List AV}, AEqs a b → ∀ i, i < a.length → AEq (a.getD i .any) (b.getD i .any)
 | [], [], _, i, hi => by have _pin := (inferInstance : Pins); simp at hi
 | x :: r, y :: q, h, 0, _ => h.1
 | x :: r, y :: q, h, i + 1, hi => by simpa using AEqs.get h.2 i (by simpa using hi)
 | [], _ :: _, h, _, _ => h.elim
 | _ :: _, [], h, _, _ => h.elim
theorem zW.res {P : Program} {f : FuncId} {args : List AV} {r r' : AV} (hc : zW P f args r) (h : AEq r r') : zW P f args r' :=
 fun H => (hc H).res fun _ _ ⟨h1, h2⟩ => ⟨r', h1 ▸ h, rfl, h2⟩
end Go.Ax
namespace Go.Ax
variable [Pins]
open Go.RowKit
section
variable {ind : Bool} {P : Program} {fn : Func} {c : Ctx} {fr : Fr} {H : zZ} {k : List It}
variable {d : Option Nat} {ty : TypeId} {pos : String} {after : Array Edge} {g : Option (Nat × Bool)}
/-- The address of an array's element (of one cell). -/
theorem zMf {x ix : Operand} {t e : TypeId} {n h i j jx : Nat} {kk : IntKind} {m : Int} (ht : P.underlying t = some (.array n e)) (hs : (P.info? e).map (·.size) = some 1) (hx : ev fr x = some (.ptr h i j)) (hi : ev fr ix = some (.int kk m)) (hj : j + m.toNat = jx) (hb : 0 ≤ m ∧ m < n) :
   QOp ind P fn c fr H ⟨d, .indexAddr t x ix, ty, pos, after, g⟩ (.ptr h i jx) := by
 intro w a σ S hr
 have h1 := hr.evAt hx
 have h2 := hr.evInt hi
 subst hj
 generalize hz : a.eval x = z at h1
 cases h1 with
 | ptr _ _ _ _ b s C hσ =>
   refine ⟨_, .ptr _ h i (j + m.toNat) b s C hσ, fun w' _ => ?_⟩
   cases hq : P.info? e with
   | none => simp [hq] at hs
   | some inf =>
     have hsz : inf.size = 1 := by simpa [hq] using hs
     simp [execOp, hz, h2, Instr.indexAt, Instr.sureAddr, asIntOf, run_underlying ht, hb, sizeOf, typeInfo, hq, hsz, Addr.add_lit, Nat.add_assoc]
theorem zGe {x ix : Operand} {t e : TypeId} {n i j jx : Nat} {cl : Cells} {kk : IntKind} {m : Int} (ht : P.underlying t = some (.array n e)) (hs : (P.info? e).map (·.size) = some 1) (hx : ev fr x = some (.rp cl i j)) (hi : ev fr ix = some (.int kk m)) (hj : j + m.toNat = jx) (hb : 0 ≤ m ∧ m < n) :
   QOp ind P fn c fr H ⟨d, .indexAddr t x ix, ty, pos, after, g⟩ (.rp cl i jx) := by
 intro w a σ S hr
 have h1 := hr.evAt hx
 have h2 := hr.evInt hi
 subst hj
 generalize hz : a.eval x = z at h1
 cases h1 with
 | rp _ _ _ _ b o val hS hc hvv h1' =>
   refine ⟨.pointer (some ⟨b, o + m.toNat, none⟩), .rp _ _ _ _ _ _ (fun e => val (m.toNat + e)) hS (fun e he => ?_) (fun e he => ?_) (fun e he => h1' _ (by omega)), fun w' _ => ?_⟩
   · have := hc (m.toNat + e) (by omega)
     rwa [← Nat.add_assoc] at this
   · have := hvv (m.toNat + e) (by omega)
     rwa [← Nat.add_assoc] at this
   · cases hq : P.info? e with
     | none => simp [hq] at hs
     | some inf =>
       have hsz : inf.size = 1 := by simpa [hq] using hs
       simp [execOp, hz, h2, Instr.indexAt, Instr.sureAddr, asIntOf, run_underlying ht, hb, sizeOf, typeInfo, hq, hsz, Addr.add_lit]
/-- Reading a whole struct or array. -/
theorem zLG {x : Operand} {t : TypeId} {u : TypeDesc} {h i : Nat} {ob : AObj} {inf : TypeInfo} {L : List AV} (ht : P.underlying t = some u) (hu : zCS u = true) (hinf : P.info? t = some inf) (hsz : inf.size = ob.c.sz) (hx : ev fr x = some (.ptr h i 0)) (hh : H[h]? = some (some ob))
   (hL : (List.range ob.c.sz).map (ob.c.at i) = L) (hi : i < ob.c.len) : QOp false P fn c fr H ⟨d, .load t x, ty, pos, after, g⟩ (.agg L) := by
 intro w a σ S hr
 have h1 := hr.evAt hx
 subst hL
 generalize hz : a.eval x = z at h1
 cases h1 with
 | ptr _ _ _ _ b s C hσ =>
   obtain ⟨hs', cur, g1, g2, g3, g4, g5, g6⟩ := hr.obj hh hσ
   subst hs'
   have hcell : ∀ w' : World, w'.heap = w.heap → ∀ j, j < ob.c.sz → ∃ y, w'.cell? ⟨b, i * ob.c.sz + j, none⟩ = some y ∧ VR w S σ (ob.c.at i j) y ∧ y.oneCell' = true := by
     intro w' hw j hj
     obtain ⟨y, e1, e2, e3⟩ := g6 i j hi hj
     obtain ⟨mk, g1, _, _⟩ := g1.cells (by omega)
     exact ⟨y, by simp [World.cell?, hw, g1, e1], e2, e3⟩
   let cs : List Value := (List.range ob.c.sz).map (fun j => (w.cell? ⟨b, i * ob.c.sz + j, none⟩).getD undef)
   refine ⟨.agg cs.toArray, .agg _ _ _ (by simp [cs]) (fun j hj => ?_) (fun j hj => ?_), fun w' hw => ?_⟩
   · have hj' : j < ob.c.sz := by simpa using hj
     obtain ⟨y, e1, e2, _⟩ := hcell w rfl j hj'
     simpa [cs, Array.getD, hj', e1, List.getD] using e2
   · have hj' : j < ob.c.sz := by simpa using hj
     obtain ⟨y, e1, _, e3⟩ := hcell w rfl j hj'
     simpa [cs, Array.getD, hj', e1] using e3
   · have hw := hw.resolve_left (by decide)
     have hl := run_loadCells_list (P := P) w' ⟨b, i * ob.c.sz, none⟩ cs (fun j v hv => by
       have hj : j < ob.c.sz := by simpa [cs] using (List.getElem?_eq_some_iff.1 hv).1
       obtain ⟨y, e1, _, _⟩ := hcell w rfl j hj
       simp only [cs, List.getElem?_map, List.getElem?_range hj, Option.map_some, Option.some.injEq] at hv
       subst hv
       rw [e1, Addr.add_lit]
       have := World.cell?_of_block (w := w) (w' := w') (a := ⟨b, i * ob.c.sz + j, none⟩) (by rw [hw])
       rw [this, e1]; rfl)
     have hcl : cs.length = inf.size := by simp [cs, hsz]
     rw [hcl] at hl
     have hz' : a.eval x = .pointer (some ⟨b, i * ob.c.sz, none⟩) := by rw [hz]; simp
     simp [execOp, hz', Instr.loadAt, Instr.sureAddr, loadVar, zDg ht, hu, sizeOf, typeInfo, hinf, hl]
theorem zBS {x : Operand} {t : TypeId} {u : TypeDesc} {i : Nat} {cl : Cells} {inf : TypeInfo} {L : List AV} (ht : P.underlying t = some u) (hu : zCS u = true) (hinf : P.info? t = some inf) (hsz : inf.size = cl.sz) (hx : ev fr x = some (.rp cl i 0))
   (hL : (List.range cl.sz).map (cl.at i) = L) : QOp false P fn c fr H ⟨d, .load t x, ty, pos, after, g⟩ (.agg L) := by
 intro w a σ S hr
 have h1 := hr.evAt hx
 subst hL
 generalize hz : a.eval x = z at h1
 cases h1 with
 | rp _ _ _ _ b o val hS hc hvv h1' =>
   let cs : List Value := (List.range cl.sz).map val
   refine ⟨.agg cs.toArray, .agg _ _ _ (by simp [cs]) (fun j hj => ?_) (fun j hj => ?_), fun w' hw => ?_⟩
   · have hj' : j < cl.sz := by simpa using hj
     have := (hvv j (by omega)).mono (w' := w) (fun _ h => h) (fun _ _ => rfl) σ (fun _ _ h => by cases h)
     simpa [cs, Array.getD, hj', List.getD] using this
   · have hj' : j < cl.sz := by simpa using hj
     have := h1' j (by omega)
     simpa [cs, Array.getD, hj'] using this
   · have hw := hw.resolve_left (by decide)
     have hl := run_loadCells_list (P := P) w' ⟨b, o, none⟩ cs (fun j v hv => by
       have hj : j < cl.sz := by simpa [cs] using (List.getElem?_eq_some_iff.1 hv).1
       simp only [cs, List.getElem?_map, List.getElem?_range hj, Option.map_some, Option.some.injEq] at hv
       subst hv
       rw [Addr.add_lit]
       have := World.cell?_of_block (w := w) (w' := w') (a := ⟨b, o + j, none⟩) (by rw [hw])
       rw [this]; exact hc j (by omega))
     have hcl : cs.length = inf.size := by simp [cs, hsz]
     rw [hcl] at hl
     simp [execOp, hz, Instr.loadAt, Instr.sureAddr, loadVar, zDg ht, hu, sizeOf, typeInfo, hinf, hl]
/-- The address of a field. -/
theorem zP {x : Operand} {s : TypeId} {fs : Array Field} {f h i j jx : Nat} {fd : Field} {inf : TypeInfo} (ht : P.underlying s = some (.struct fs)) (hf : fs[f]? = some fd) (hi : P.info? fd.type = some inf) (hne : Nat.beq inf.size 0 = false) (hx : ev fr x = some (.ptr h i j)) (hj : j + fd.offset = jx) :
   QOp ind P fn c fr H ⟨d, .fieldAddr s x f, ty, pos, after, g⟩ (.ptr h i jx) := by
 intro w a σ S hr
 have h1 := hr.evAt hx
 subst hj
 have hne' : ¬ inf.size = 0 := fun e => by rw [e] at hne; cases hne
 generalize hz : a.eval x = z at h1
 cases h1 with
 | ptr _ _ _ _ b sz C hσ =>
   refine ⟨_, .ptr _ h i (j + fd.offset) b sz C hσ, fun w' _ => ?_⟩
   simp [execOp, hz, Instr.fieldAt, run_underlying ht, hf, Instr.sureAddr, fieldPlace, sizeOf, typeInfo, hi, hne', Addr.add_lit, Nat.add_assoc]
theorem zAo {x : Operand} {s : TypeId} {fs : Array Field} {f i j jx : Nat} {cl : Cells} {fd : Field} {inf : TypeInfo} (ht : P.underlying s = some (.struct fs)) (hf : fs[f]? = some fd) (hi : P.info? fd.type = some inf) (hne : Nat.beq inf.size 0 = false) (hx : ev fr x = some (.rp cl i j)) (hj : j + fd.offset = jx) :
   QOp ind P fn c fr H ⟨d, .fieldAddr s x f, ty, pos, after, g⟩ (.rp cl i jx) := by
 intro w a σ S hr
 have h1 := hr.evAt hx
 subst hj
 have hne' : ¬ inf.size = 0 := fun e => by rw [e] at hne; cases hne
 generalize hz : a.eval x = z at h1
 cases h1 with
 | rp _ _ _ _ b o val hS hc hvv h1' =>
   refine ⟨.pointer (some ⟨b, o + fd.offset, none⟩), .rp _ _ _ _ _ _ (fun e => val (fd.offset + e)) hS (fun e he => ?_) (fun e he => ?_) (fun e he => h1' _ (by omega)), fun w' _ => ?_⟩
   · have := hc (fd.offset + e) (by omega)
     rwa [← Nat.add_assoc] at this
   · have := hvv (fd.offset + e) (by omega)
     rwa [← Nat.add_assoc] at this
   · simp [execOp, hz, Instr.fieldAt, run_underlying ht, hf, Instr.sureAddr, fieldPlace, sizeOf, typeInfo, hi, hne', Addr.add_lit]
/-- A pointer that is not nil. -/
theorem zAl {x : Operand} {h i j : Nat} (hx : ev fr x = some (.ptr h i j)) : QOp ind P fn c fr H ⟨d, .nilCheck x, ty, pos, after, g⟩ (.ptr h i j) := by
 intro w a σ S hr
 have h1 := hr.evAt hx
 generalize hz : a.eval x = z at h1
 cases h1 with
 | ptr _ _ _ _ b s C hσ => exact ⟨_, .ptr _ h i j b s C hσ, fun w' _ => by simp [execOp, hz]⟩
theorem zB7 {x : Operand} {cl : Cells} {i j : Nat} (hx : ev fr x = some (.rp cl i j)) : QOp ind P fn c fr H ⟨d, .nilCheck x, ty, pos, after, g⟩ (.rp cl i j) := by
 intro w a σ S hr
 have h1 := hr.evAt hx
 generalize hz : a.eval x = z at h1
 cases h1 with
 | rp _ _ _ _ b o val hS hc hvv h1' => exact ⟨_, .rp _ _ _ _ _ _ val hS hc hvv h1', fun w' _ => by simp [execOp, hz]⟩
/-- A store of a whole struct or array. -/
theorem zO {all : Array Oper} {t : TypeId} {x y : Operand} {ty : TypeId} {pos : String} {after : Array Edge} {rest : List Oper} {h i : Nat} {ob : AObj} {L : List AV} {c' : Cells}
   (hx : ev fr x = some (.ptr h i 0)) (hy : ev fr y = some (.agg L)) (hs : (P.info? t).map (·.size) = some ob.c.sz) (hh : H[h]? = some (some ob)) (hl : L.length = ob.c.sz) (hi : i < ob.c.len)
   (h1 : c'.len = ob.c.len) (h2 : c'.sz = ob.c.sz) (h3 : ∀ i' j', i' < ob.c.len → j' < ob.c.sz → c'.at i' j' = if i' = i then L.getD j' .any else ob.c.at i' j')
   (hk : Ax P fn c (.ops false all rest k) fr (H.set h (some ⟨ob.ty, c'⟩))) (hz0 : ob.c.sz ≠ 0 := by (intro hh; cases hh)) : Ax P fn c (.ops false all (⟨none, .store t x y, ty, pos, after, none⟩ :: rest) k) fr H := by
 refine ax_w0 (fun w a σ S hr => ?_) hk
 have e1 := hr.evAt hx
 have e2 := hr.evAt hy
 generalize hz : a.eval x = z at e1
 generalize hzy : a.eval y = u at e2
 cases e2 with
 | agg _ _ vs hvl hvv hv1 =>
   cases e1 with
   | ptr _ _ _ _ b s C hσ =>
     obtain ⟨hs', cur, g1, g2, g3, g4, g5, g6⟩ := hr.obj hh hσ
     subst hs'
     obtain ⟨mk, g1, hmk, hrow⟩ := g1.cells hz0
     have hfit : i * ob.c.sz + ob.c.sz ≤ cur.size := by
       rw [g2]
       have : (i + 1) * ob.c.sz ≤ C * ob.c.sz := Nat.mul_le_mul_right _ (by omega)
       rw [Nat.add_mul] at this; omega
     have hvsz : vs.size = ob.c.sz := by rw [hvl, hl]
     have hst := zCj P b (i * ob.c.sz) ob.ty mk vs.toList 0 cur w g1 hmk (by simp [hvsz]; exact hfit) (fun v hv => by
       obtain ⟨j, hj, rfl⟩ := List.getElem_of_mem hv
       have hj' : j < vs.size := by simpa using hj
       have := hv1 j (by rw [← hvl]; exact hj')
       simpa [Array.getD, hj'] using this)
     simp only [Nat.add_zero] at hst
     generalize hcur : (cur.toList.take (i * ob.c.sz) ++ vs.toList ++ cur.toList.drop (i * ob.c.sz + vs.toList.length)).toArray = cur' at hst
     have hlen' : cur'.size = cur.size := by rw [← hcur]; simp [hvsz]; omega
     have hat : ∀ p, p < cur.size → cur'[p]? = if i * ob.c.sz ≤ p ∧ p < i * ob.c.sz + ob.c.sz then vs[p - i * ob.c.sz]? else cur[p]? := by
       intro p hp
       rw [← hcur]
       simp only [List.getElem?_toArray, List.append_assoc]
       by_cases c1 : p < i * ob.c.sz
       · rw [List.getElem?_append_left (by simp; omega), List.getElem?_take, if_pos c1, if_neg (by omega)]; simp
       · rw [List.getElem?_append_right (by simp; omega)]
         have ht : (cur.toList.take (i * ob.c.sz)).length = i * ob.c.sz := by simp; omega
         rw [ht]
         by_cases c2 : p < i * ob.c.sz + ob.c.sz
         · rw [List.getElem?_append_left (by simp [hvsz]; omega), if_pos ⟨by omega, c2⟩]; simp
         · rw [List.getElem?_append_right (by simp [hvsz]; omega), if_neg (by omega)]
           simp only [Array.length_toList, hvsz, List.getElem?_drop, Array.getElem?_toList]
           congr 1; omega
     refine ⟨w.setRow b cur', σ, S, ?_, hr.setRow hh hσ hrow h2 (by omega) (by rw [hlen', g2]) (fun i' j' hi' hj' => ?_)⟩
     · simp only [Nat.add_zero] at hz
       simp only [execOp, hz, hzy, Instr.storeAt, Instr.sureAddr, storeVar, Sem.run_bind, Sem.run_pure, Result.andThen_ok, zHA hs, Value.cells, hvsz]
       simp [hst]
     · rw [h1] at hi'
       rw [h2] at hj' ⊢
       rw [h3 i' j' hi' hj']
       have hp : i' * ob.c.sz + j' < cur.size := by
         rw [g2]
         have : (i' + 1) * ob.c.sz ≤ C * ob.c.sz := Nat.mul_le_mul_right _ (by omega)
         rw [Nat.add_mul] at this; omega
       rw [hat _ hp]
       by_cases he : i' = i
       · subst he
         rw [if_pos rfl, if_pos ⟨by omega, by omega⟩]
         have hjv : j' < vs.size := by omega
         refine ⟨vs.getD j' undef, by simp [Array.getD, hjv], hvv j' (by omega), hv1 j' (by omega)⟩
       · rw [if_neg he]
         have hne : ¬ (i * ob.c.sz ≤ i' * ob.c.sz + j' ∧ i' * ob.c.sz + j' < i * ob.c.sz + ob.c.sz) := by
           rintro ⟨q1, q2⟩
           rcases Nat.lt_or_gt_of_ne he with hlt | hlt
           · have : (i' + 1) * ob.c.sz ≤ i * ob.c.sz := Nat.mul_le_mul_right _ hlt
             rw [Nat.add_mul] at this; omega
           · have : (i + 1) * ob.c.sz ≤ i' * ob.c.sz := Nat.mul_le_mul_right _ hlt
             rw [Nat.add_mul] at this; omega
         rw [if_neg hne]
         exact g6 i' j' hi' hj'
end
end Go.Ax
namespace Go.Ax
variable [Pins]
open Go.RowKit
section
variable {P : Program} {fn : Func} {c : Ctx} {fr : Fr} {H : zZ} {k : List It}
theorem zIC {w : World} {a : Act} {σ : Nat → Option Blk} {S : Nat → Prop} {n : Nat} (hr : Rep c w a σ S n fr H) {all : Array Oper} {d : Option Nat} {op : Op} {ty : TypeId} {pos : String} {after : Array Edge} {j t : Nat} {p : Bool}
   (hy : zFs all j = some t) (hb : zA5 t fr = some (.tup [])) : Region.wanted ⟨d, op, ty, pos, after, some (j, p)⟩ (yielded all a.tmps) = false := by
 obtain ⟨h1, h2⟩ := hr.slots t _ hb
 have h3 : t < a.tmps.size := by rw [hr.size]; exact h1
 generalize hz : a.tmps.getD t undef = z at h2
 cases h2
 rename_i vs hl hv
 have h4 : a.tmps[t]? = some (.tuple vs) := by
   simp only [Array.getD, h3, dite_true] at hz
   simp only [Array.getElem?_eq_getElem h3]
   exact congrArg some hz
 unfold zFs at hy
 simp only [Region.wanted, yielded, hy, Option.bind_some, h4]
 cases p <;> rfl
theorem zHy {w : World} {S : Nat → Prop} {σ : Nat → Option Blk} : VR w S σ (.tup []) undef := have _pin := (inferInstance : Pins); .tup _ _ _ rfl (fun i hi => absurd hi (Nat.not_lt_zero _))
/-- An operation that is passed over leaves nothing in its slot. -/
theorem zAn {q : Bool} {all : Array Oper} {d : Nat} {op : Op} {ty : TypeId} {pos : String} {after : Array Edge} {rest : List Oper} {j t : Nat} {p b : Bool}
   (hy : zFs all j = some t) (hb : zA5 t fr = some (.bool b)) (hne : (b == p) = false) (h : Ax P fn c (.ops q all rest k) ((d, .tup []) :: fr) H) : Ax P fn c (.ops q all (⟨some d, op, ty, pos, after, some (j, p)⟩ :: rest) k) fr H := by
 cases q with
 | false =>
   intro hd w a σ S hr
   obtain ⟨hd1, hd2⟩ := zCe hd
   simp only [wpList, zG1 hr hy hb, hne, Bool.false_eq_true, if_false]
   exact h hd2 w _ σ S (hr.put zHy (hd1 d Y))
 | true =>
   intro hd w a σ S hr
   obtain ⟨hd1, hd2⟩ := zCe hd
   simp only [wpQuiet, zG1 hr hy hb, hne, Bool.false_eq_true, if_false]
   exact h hd2 w _ σ S (hr.put zHy (hd1 d Y))
theorem zC5 {q : Bool} {all : Array Oper} {d : Nat} {op : Op} {ty : TypeId} {pos : String} {after : Array Edge} {rest : List Oper} {j t : Nat} {p : Bool}
   (hy : zFs all j = some t) (hb : zA5 t fr = some (.tup [])) (h : Ax P fn c (.ops q all rest k) ((d, .tup []) :: fr) H) : Ax P fn c (.ops q all (⟨some d, op, ty, pos, after, some (j, p)⟩ :: rest) k) fr H := by
 cases q with
 | false =>
   intro hd w a σ S hr
   obtain ⟨hd1, hd2⟩ := zCe hd
   simp only [wpList, zIC hr hy hb, Bool.false_eq_true, if_false]
   exact h hd2 w _ σ S (hr.put zHy (hd1 d Y))
 | true =>
   intro hd w a σ S hr
   obtain ⟨hd1, hd2⟩ := zCe hd
   simp only [wpQuiet, zIC hr hy hb, Bool.false_eq_true, if_false]
   exact h hd2 w _ σ S (hr.put zHy (hd1 d Y))
end
end Go.Ax
namespace Go.Ax
variable [Pins]
open Go.RowKit
section
variable {P : Program} {fn : Func} {c : Ctx} {fr : Fr} {H : zZ} {k : List It}
end
end Go.Ax
namespace Go.Ax
variable [Pins]
mutual
def zC2 (n : Nat) : AV → Bool
 | .sl h _ _ => Nat.blt h n
 | .ptr h _ _ => Nat.blt h n
 | .fn _ l => zCD n l
 | .agg l => zCD n l
 | .tup l => zCD n l
 | .mp h => Nat.blt h n
 | _ => true
def zCD (n : Nat) : List AV → Bool
 | [] => true
 | v :: r => zC2 n v && zCD n r
end
theorem zDl {n : Nat} {l : List AV} (h : zCD n l = true) (i : Nat) (hi : i < l.length) : zC2 n (l.getD i .any) = true := by
 have _pin := (inferInstance : Pins)
 induction l generalizing i with
 | nil => simp at hi
 | cons v r ih =>
   simp only [zCD, Bool.and_eq_true] at h
   cases i with
   | zero => exact h.1
   | succ i => simpa using ih h.2 i (by simpa using hi)
theorem VR.cutv {w : World} {S : Nat → Prop} {σ : Nat → Option Blk} {n : Nat} {x : AV} {v : Value} (h : VR w S σ x v) : zC2 n x = true → ∀ σ' : Nat → Option Blk, (∀ h, h < n → σ' h = σ h) → VR w S σ' x v := by
 induction h with
 | int => intros; constructor
 | bool => intros; constructor
 | str => intros; constructor
 | nil => intros; constructor
 | ro0 => intros; constructor
 | ro σ c i len b o cap val hSb hlen hc hv h1 ih => intro _ σ' _; exact .ro _ _ _ _ _ _ _ val hSb hlen hc hv h1
 | sl σ h i len b s C cap hσ hlen hcap => intro hb σ' hs; exact .sl _ _ _ _ _ _ _ _ (by rw [hs h (Nat.le_of_ble_eq_true hb)]; exact hσ) hlen hcap
 | sl0 σ h hσ => intro hb σ' hs; exact .sl0 _ _ (by rw [hs h (Nat.le_of_ble_eq_true hb)]; exact hσ)
 | rp σ c i j b o val hSb hc hv h1 ih => intro _ σ' _; exact .rp _ _ _ _ _ _ val hSb hc hv h1
 | ptr σ h i j b s C hσ => intro hb σ' hs; exact .ptr _ _ _ _ _ _ _ (by rw [hs h (Nat.le_of_ble_eq_true hb)]; exact hσ)
 | nilp => intros; constructor
 | fn σ f cap vs hl hv ih => intro hn σ' hs; exact .fn _ _ _ _ hl (fun i hi => ih i hi (zDl hn i hi) _ hs)
 | nilfn => intros; constructor
 | iface => intros; constructor
 | nilif => intros; constructor
 | agg σ l vs hl hv h1 ih => intro hn σ' hs; exact .agg _ _ _ hl (fun i hi => ih i hi (zDl hn i hi) _ hs) h1
 | tup σ l vs hl hv ih => intro hn σ' hs; exact .tup _ _ _ hl (fun i hi => ih i hi (zDl hn i hi) _ hs)
 | mp σ h b hσ => intro hb σ' hs; exact .mp _ _ _ (by rw [hs h (Nat.le_of_ble_eq_true hb)]; exact hσ)
 | rom σ ks vs b es clock e hSb hb hn hl hd he hk hv => intro _ σ' _; exact .rom _ _ _ b es clock e hSb hb hn hl hd he hk hv
 | any => intros; constructor
theorem Lays.cutv {w : World} {S : Nat → Prop} {σ σ' : Nat → Option Blk} {o : AObj} {b : Nat} {cur : Array Value} {C n : Nat} (h : Lays w S σ o b cur C) (hc : ∀ ks vs, o.c = .mp ks vs → zCD n ks = true ∧ zCD n vs = true) (hs : ∀ h, h < n → σ' h = σ h) : Lays w S σ' o b cur C := by
 have _pin := (inferInstance : Pins)
 cases h with
 | row mk h hm hC => exact .row mk h hm hC
 | map ks vs es clock hc' hC h hn hl hd he =>
   obtain ⟨b1, b2⟩ := hc ks vs hc'
   exact .map ks vs es clock hc' hC h hn hl hd (fun i hi => let ⟨e, e1, e2, e3⟩ := he i hi; ⟨e, e1, e2.cutv (zDl b1 i hi) _ hs, e3.cutv (zDl b2 i (by omega)) _ hs⟩)
def zMi (n : Nat) : Cells → Bool
 | .ints _ _ => true
 | .strs _ => true
 | .box l => zCD n l
 | .fn _ _ _ => false
 | .mp ks vs => zCD n ks && zCD n vs
theorem zQ0 {n : Nat} {c : Cells} (h : zMi n c = true) (i j : Nat) (hj : j < c.sz) : zC2 n (c.at i j) = true := by
 cases c with
 | ints => rfl
 | strs => rfl
 | box l => exact zDl h j hj
 | fn => cases h
 | mp => exact absurd hj (Nat.not_lt_zero _)
def belowO (n : Nat) : Option AObj → Bool
 | none => true
 | some o => zMi n o.c
def zJp (n : Nat) : zZ → Bool
 | [] => true
 | x :: r => belowO n x && zJp n r
theorem zJ9 {n : Nat} {H : zZ} (hb : zJp n H = true) {h : Nat} {o : AObj} (ho : H[h]? = some (some o)) : zMi n o.c = true := by
 have _pin := (inferInstance : Pins)
 induction H generalizing h with
 | nil => simp at ho
 | cons x r ih =>
   simp only [zJp, Bool.and_eq_true] at hb
   cases h with
   | zero => simp at ho; subst ho; exact hb.1
   | succ h => exact ih hb.2 (by simpa using ho)
def zEo (n : Nat) : Fr → Bool
 | [] => true
 | (_, v) :: r => zC2 n v && zEo n r
theorem zJw {n : Nat} {fr : Fr} (hb : zEo n fr = true) {t : Nat} {v : AV} (hl : zA5 t fr = some v) : zC2 n v = true := by
 have _pin := (inferInstance : Pins)
 induction fr with
 | nil => simp [zA5] at hl
 | cons p r ih =>
   obtain ⟨u, x⟩ := p
   simp only [zEo, Bool.and_eq_true] at hb
   simp only [zA5] at hl
   cases hq : Nat.beq t u with
   | true => rw [hq] at hl; simp at hl; subst hl; exact hb.1
   | false => rw [hq] at hl; exact ih hb.2 (by simpa using hl)
def cutσ (n : Nat) (σ : Nat → Option Blk) (h : Nat) : Option Blk := if h < n then σ h else none
theorem Rep.cut {c : Ctx} {w : World} {a : Act} {σ : Nat → Option Blk} {S : Nat → Prop} {n : Nat} {fr : Fr} {H H0 H1 : zZ} (hr : Rep c w a σ S n fr H) (hH : H = H0 ++ H1) (hf : ∀ h, c.fix h → h < H0.length)
   (hbH : zJp H0.length H0 = true) (hbF : zEo H0.length fr = true) : Rep c w a (cutσ H0.length σ) S n fr H0 := by
 subst hH
 have hs : ∀ h, h < H0.length → cutσ H0.length σ h = σ h := fun h hl => if_pos hl
 have hget : ∀ {h : Nat} {o : AObj}, H0[h]? = some (some o) → h < H0.length ∧ (H0 ++ H1)[h]? = some (some o) := by
   intro h o ho
   have hl : h < H0.length := (List.getElem?_eq_some_iff.1 ho).1
   exact ⟨hl, by rw [List.getElem?_append_left hl]; exact ho⟩
 refine ⟨⟨fun h o ho => ?_, fun h h' o o' b s C s' C' q1 q2 e1 e2 => ?_, hr.hr.small, fun h hl => if_neg (by omega)⟩, ⟨hr.kp.os, hr.kp.output, hr.kp.tape, hr.kp.size, hr.kp.block, hr.kp.S1, hr.kp.S2, fun h hh => by rw [hs h (hf h hh)]; exact hr.kp.fixed h hh, hf, fun h o b s C q e => ?_⟩, hr.defers, hr.size, fun t v hl => ⟨(hr.slots t v hl).1, (hr.slots t v hl).2.cutv (zJw hbF hl) _ hs⟩⟩
 · obtain ⟨hl, ho'⟩ := hget ho
   rw [hs h hl]
   rcases hr.hr.live h o ho' with g | ⟨b, C, cur, g1, g2, g3, g4, g5, g6, g7⟩
   · exact .inl g
   · refine .inr ⟨b, C, cur, g1, g2.cutv (fun ks vs hc => by have := zJ9 hbH ho; rw [hc] at this; simpa [zMi] using this) hs, g3, g4, g5, g6, fun i j hi hj => ?_⟩
     obtain ⟨v, k1, k2, k3⟩ := g7 i j hi hj
     exact ⟨v, k1, k2.cutv (zQ0 (zJ9 hbH ho) i j hj) _ hs, k3⟩
 · obtain ⟨hl, ho⟩ := hget q1
   obtain ⟨hl', ho'⟩ := hget q2
   rw [hs h hl] at e1
   rw [hs h' hl'] at e2
   exact hr.hr.dist h h' o o' b s C s' C' ho ho' e1 e2
 · obtain ⟨hl, ho⟩ := hget q
   rw [hs h hl] at e
   exact hr.kp.own h o b s C ho e
section
variable {P : Program} {fn : Func} {c : Ctx} {fr : Fr} {H : zZ} {k : List It}
/-- Only the first objects are kept. -/
theorem ax_cut {x : Code} (H0 H1 : zZ) (L : Fr) (hH : H = H0 ++ H1) (hL : zCi fr L) (hf : ∀ h, c.fix h → h < H0.length) (hbH : zJp H0.length H0 = true) (hbF : zEo H0.length L = true)
   (hk : Ax P fn c (.code x k) L H0) : Ax P fn c (.code x k) fr H :=
 fun w a σ S hr => hk w a _ S ((hr.weaken hL).cut hH hf hbH hbF)
/-- The same memory, its cells told otherwise. -/
theorem Rep.heapA {w : World} {a : Act} {σ : Nat → Option Blk} {S : Nat → Prop} {n : Nat} {H' : zZ} (hr : Rep c w a σ S n fr H) (hlen : H'.length = H.length)
   (hs : ∀ (h : Nat) (o' : AObj), H'[h]? = some (some o') → ∃ o : AObj, H[h]? = some (some o) ∧ o'.ty = o.ty ∧ o'.c.len = o.c.len ∧ o'.c.kd = o.c.kd ∧ ∀ i j, i < o.c.len → j < o.c.sz → AEq (o.c.at i j) (o'.c.at i j)) : Rep c w a σ S n fr H' := by
 refine ⟨⟨fun h o' ho => ?_, fun h h' o o' b s C s' C' q1 q2 e1 e2 => ?_, hr.hr.small, fun h hl => hr.hr.dom h (by rw [← hlen]; exact hl)⟩, ⟨hr.kp.os, hr.kp.output, hr.kp.tape, hr.kp.size, hr.kp.block, hr.kp.S1, hr.kp.S2, hr.kp.fixed, fun h hf => by rw [hlen]; exact hr.kp.fixlt h hf, fun h o b s C q e => ?_⟩, hr.defers, hr.size, hr.slots⟩
 · obtain ⟨o, h1, h2, h3, h4, h5⟩ := hs h o' ho
   rw [h3, zN5 h4]
   rcases hr.hr.live h o h1 with g | ⟨b, C, cur, g1, g2, g3, g4, g5, g6, g7⟩
   · exact .inl g
   · refine .inr ⟨b, C, cur, g1, g2.kd h2 h4, g3, g4, g5, g6, fun i j hi hj => ?_⟩
     obtain ⟨v, k1, k2, k3⟩ := g7 i j hi hj
     exact ⟨v, k1, h5 i j hi hj _ _ _ _ k2, k3⟩
 · obtain ⟨p, h1, _⟩ := hs h o q1
   obtain ⟨p', h1', _⟩ := hs h' o' q2
   exact hr.hr.dist h h' p p' b s C s' C' h1 h1' e1 e2
 · obtain ⟨p, h1, _⟩ := hs h o q
   exact hr.kp.own h p b s C h1 e
theorem zMB {all : Array Oper} {rest : List Oper} (H' : zZ) (hlen : H'.length = H.length) (hs : ∀ (h : Nat) (o' : AObj), H'[h]? = some (some o') → ∃ o : AObj, H[h]? = some (some o) ∧ o'.ty = o.ty ∧ o'.c.len = o.c.len ∧ o'.c.kd = o.c.kd ∧ ∀ i j, i < o.c.len → j < o.c.sz → AEq (o.c.at i j) (o'.c.at i j))
   (hk : Ax P fn c (.ops false all rest k) fr H') : Ax P fn c (.ops false all rest k) fr H := fun hd w a σ S hr => hk hd w a σ S (hr.heapA hlen hs)
end
/-- Any contract, at arguments told otherwise. -/
theorem zV.args {P : Program} {f : FuncId} {ags ags' : List AV} {H : zZ} {fix : Nat → Prop} {K : AV → zZ → Prop} (hc : zV P f ags' H fix K) (h : AEqs ags ags') : zV P f ags H fix K := by
 unfold zV at hc ⊢
 refine ⟨hc.1, fun w σ S vals hp hr hf hv => hc.2 w σ S vals hp hr hf ⟨hv.1.trans h.length, fun j hj => ?_⟩⟩
 rw [← h.length] at hj
 exact h.get j hj _ _ _ _ (hv.2 j hj)
end Go.Ax
namespace Go.Ax
variable [Pins]
def zA2 (n : Nat) : Cells → Prop
 | .mp ks vs => zCD n ks = true ∧ zCD n vs = true
 | c => ∀ i j, i < c.len → j < c.sz → zC2 n (c.at i j) = true
theorem zA2.row {n : Nat} {c : Cells} (h : zA2 n c) : ∀ i j, i < c.len → j < c.sz → zC2 n (c.at i j) = true := by
 have _pin := (inferInstance : Pins)
 cases c <;> first | exact h | exact fun i j hi => absurd hi (Nat.not_lt_zero _)
theorem zA2.mp {n : Nat} {c : Cells} (h : zA2 n c) {ks vs : List AV} (hc : c = .mp ks vs) : zCD n ks = true ∧ zCD n vs = true := by have _pin := (inferInstance : Pins); subst hc; exact h
theorem Rep.cutP {c : Ctx} {w : World} {a : Act} {σ : Nat → Option Blk} {S : Nat → Prop} {n : Nat} {fr : Fr} {H H0 H1 : zZ} (hr : Rep c w a σ S n fr H) (hH : H = H0 ++ H1) (hf : ∀ h, c.fix h → h < H0.length)
   (hbH : ∀ (h : Nat) (o : AObj), H0[h]? = some (some o) → zA2 H0.length o.c) (hbF : zEo H0.length fr = true) : Rep c w a (cutσ H0.length σ) S n fr H0 := by
 subst hH
 have hs : ∀ h, h < H0.length → cutσ H0.length σ h = σ h := fun h hl => if_pos hl
 have hget : ∀ {h : Nat} {o : AObj}, H0[h]? = some (some o) → h < H0.length ∧ (H0 ++ H1)[h]? = some (some o) := by
   intro h o ho
   have hl : h < H0.length := (List.getElem?_eq_some_iff.1 ho).1
   exact ⟨hl, by rw [List.getElem?_append_left hl]; exact ho⟩
 refine ⟨⟨fun h o ho => ?_, fun h h' o o' b s C s' C' q1 q2 e1 e2 => ?_, hr.hr.small, fun h hl => if_neg (by omega)⟩, ⟨hr.kp.os, hr.kp.output, hr.kp.tape, hr.kp.size, hr.kp.block, hr.kp.S1, hr.kp.S2, fun h hh => by rw [hs h (hf h hh)]; exact hr.kp.fixed h hh, hf, fun h o b s C q e => ?_⟩, hr.defers, hr.size, fun t v hl => ⟨(hr.slots t v hl).1, (hr.slots t v hl).2.cutv (zJw hbF hl) _ hs⟩⟩
 · obtain ⟨hl, ho'⟩ := hget ho
   rw [hs h hl]
   rcases hr.hr.live h o ho' with g | ⟨b, C, cur, g1, g2, g3, g4, g5, g6, g7⟩
   · exact .inl g
   · refine .inr ⟨b, C, cur, g1, g2.cutv (fun ks vs hc => (hbH h o ho).mp hc) hs, g3, g4, g5, g6, fun i j hi hj => ?_⟩
     obtain ⟨v, k1, k2, k3⟩ := g7 i j hi hj
     exact ⟨v, k1, k2.cutv ((hbH h o ho).row i j hi hj) _ hs, k3⟩
 · obtain ⟨hl, ho⟩ := hget q1
   obtain ⟨hl', ho'⟩ := hget q2
   rw [hs h hl] at e1
   rw [hs h' hl'] at e2
   exact hr.hr.dist h h' o o' b s C s' C' ho ho' e1 e2
 · obtain ⟨hl, ho⟩ := hget q
   rw [hs h hl] at e
   exact hr.kp.own h o b s C ho e
section
variable {P : Program} {fn : Func} {c : Ctx} {fr : Fr} {H : zZ} {k : List It}
theorem zAa {x : Code} (H0 H1 : zZ) (L : Fr) (hH : H = H0 ++ H1) (hL : zCi fr L) (hf : ∀ h, c.fix h → h < H0.length) (hbH : ∀ (h : Nat) (o : AObj), H0[h]? = some (some o) → zA2 H0.length o.c) (hbF : zEo H0.length L = true)
   (hk : Ax P fn c (.code x k) L H0) : Ax P fn c (.code x k) fr H :=
 fun w a σ S hr => hk w a _ S ((hr.weaken hL).cutP hH hf hbH hbF)
variable {ind : Bool} {d : Option Nat} {t t' ty : TypeId} {pos : String} {after : Array Edge} {g : Option (Nat × Bool)}
/-- Words of bits. -/
def andB (k : IntKind) (m n : Int) : Int := k.wrap ((BitVec.ofInt k.bits m &&& BitVec.ofInt k.bits n).toNat : Int)
def orB (k : IntKind) (m n : Int) : Int := k.wrap ((BitVec.ofInt k.bits m ||| BitVec.ofInt k.bits n).toNat : Int)
def shrB (k : IntKind) (m n : Int) : Int := m.fdiv (2 ^ (min n.toNat k.bits))
def shlB (k : IntKind) (m n : Int) : Int := k.wrap (m * 2 ^ (min n.toNat k.bits))
theorem q_and {x y : Operand} {k : IntKind} {m n : Int} (hx : ev fr x = some (.int k m)) (hy : ev fr y = some (.int k n)) :
   QOp ind P fn c fr H ⟨d, .binOp .and t x y t', ty, pos, after, g⟩ (.int k (andB k m n)) := by
 intro w a σ S hr
 have h1 := hr.evInt hx
 have h2 := hr.evInt hy
 refine ⟨_, .int _ _ _, fun w' _ => ?_⟩
 simp [execOp, h1, h2, zAP, binOp, Op.intBits, andB]
theorem q_or {x y : Operand} {k : IntKind} {m n : Int} (hx : ev fr x = some (.int k m)) (hy : ev fr y = some (.int k n)) :
   QOp ind P fn c fr H ⟨d, .binOp .or t x y t', ty, pos, after, g⟩ (.int k (orB k m n)) := by
 intro w a σ S hr
 have h1 := hr.evInt hx
 have h2 := hr.evInt hy
 refine ⟨_, .int _ _ _, fun w' _ => ?_⟩
 simp [execOp, h1, h2, zAP, binOp, Op.intBits, orB]
theorem q_shr {x y : Operand} {k k' : IntKind} {m n : Int} (hx : ev fr x = some (.int k m)) (hy : ev fr y = some (.int k' n)) (hn : 0 ≤ n) :
   QOp ind P fn c fr H ⟨d, .binOp .shr t x y t', ty, pos, after, g⟩ (.int k (shrB k m n)) := by
 intro w a σ S hr
 have h1 := hr.evInt hx
 have h2 := hr.evInt hy
 refine ⟨_, .int _ _ _, fun w' _ => ?_⟩
 have h3 : ¬ n < 0 := by omega
 simp [execOp, h1, h2, zAP, binOp, Op.shift, shrB, h3]
theorem q_shl {x y : Operand} {k k' : IntKind} {m n : Int} (hx : ev fr x = some (.int k m)) (hy : ev fr y = some (.int k' n)) (hn : 0 ≤ n) :
   QOp ind P fn c fr H ⟨d, .binOp .shl t x y t', ty, pos, after, g⟩ (.int k (shlB k m n)) := by
 intro w a σ S hr
 have h1 := hr.evInt hx
 have h2 := hr.evInt hy
 refine ⟨_, .int _ _ _, fun w' _ => ?_⟩
 have h3 : ¬ n < 0 := by omega
 simp [execOp, h1, h2, zAP, binOp, Op.shift, shlB, h3]
end
end Go.Ax
namespace Go.Ax
variable [Pins]
open Go.RowKit
section
variable {P : Program} {fn : Func} {c : Ctx} {fr : Fr} {H : zZ} {k : List It} {ind : Bool} {d : Option Nat} {ty : TypeId} {pos : String} {after : Array Edge} {g : Option (Nat × Bool)}
end
end Go.Ax
namespace Go.Ax
variable [Pins]
open Go.ChangeShapes Go.WideShapes Go.ChangeAt Go.RowKit
section
variable {H : Type} {enc : TypeId × Value → H} {P : Program} {W : World}
abbrev allS (W : World) : Nat → Prop := fun b => b < W.heap.size
/-- One after the other, cells are told by abstract values. -/
def zEA (W : World) (l : List AV) (cs : List Value) : Prop :=
 l.length = cs.length ∧ ∀ i, i < cs.length → VR W (allS W) (fun _ => none) (l.getD i .any) (cs.getD i undef) ∧ (cs.getD i undef).oneCell' = true
/-- A reader: type t, n cells, told by e of some a that is ok. -/
def Rd {α : Type} (enc : TypeId × Value → H) (P : Program) (W : World) (t : TypeId) (n : Nat) (e : α → List AV) (ok : α → Prop) : Prop :=
 ∀ fuel cs x, DataW.trod enc P W 0 (fun _ => true) true fuel t cs = some x → ∃ a, ok a ∧ cs.length = n ∧ zEA W (e a) cs
theorem zKB {W : World} {v : AV} {c : Value} (h : VR W (allS W) (fun _ => none) v c) (h1 : c.oneCell' = true) : zEA W [v] [c] := by
 have _pin := (inferInstance : Pins)
 refine ⟨Y, fun i hi => ?_⟩
 have : i = 0 := by simpa using hi
 subst this
 exact ⟨h, h1⟩
theorem Rd.int {t : TypeId} {k : IntKind} (ht : P.underlying t = some (.int k)) : Rd enc P W t 1 (fun n : Int => [AV.int k n]) (fun n => (Lit.int k n).wf = true) := by
 intro fuel cs x h
 obtain ⟨n, rfl, _, hw⟩ := DataW.trod_int ht h
 exact ⟨n, hw, Y, zKB (.int _ _ _) Y⟩
theorem Rd.str {t : TypeId} (ht : P.underlying t = some .string) : Rd enc P W t 1 (fun s : List UInt8 => [AV.str s]) (fun s => s.length ≤ 9223372036854775807) := by
 intro fuel cs x h
 obtain ⟨s, rfl, _, hs⟩ := DataW.trod_string ht h
 have e : Value.string s = zHO s.data.toList := by
   show Value.string s = Value.string ⟨s.data.toList.toArray⟩
   rw [Array.toArray_toList]
 refine ⟨s.data.toList, ?_, Y, ?_⟩
 · unfold maxLen at hs; simpa using hs
 · rw [e]; exact zKB (.str _ _) rfl
/-- The row that a list's elements make, each of n cells. -/
def zC3 {α : Type} (d : α) (n : Nat) (e : α → List AV) (l : List α) : Cells := .fn l.length n (fun i j => (e (l.getD i d)).getD j .any)
theorem Rd.slice {α : Type} {t t' : TypeId} {n : Nat} {e : α → List AV} {ok : α → Prop} (d : α) (ht : P.underlying t = some (.slice t')) (hc : P.cellsOf t' = n) (hn : Nat.blt 0 n = true) (h : Rd enc P W t' n e ok) :
   Rd enc P W t 1 (fun l : List α => [AV.ro (zC3 d n e l) 0 l.length]) (fun l => l.length ≤ 9223372036854775807 ∧ ∀ a ∈ l, ok a) := by
 have hn := Nat.le_of_ble_eq_true hn
 intro fuel cs x hx
 rcases DataW.trod_slice ht hx with ⟨rfl, _⟩ | ⟨a, len, cap, elems, rest, m, _, rfl, _, _, hl, hm, hlen, hel, _, _⟩
 · exact ⟨[], ⟨Nat.zero_le _, fun a ha => by simp at ha⟩, Y, zKB (.ro0 _ _ _ _ _) Y⟩
 subst hc
 have each : ∀ i, i < len → ∃ z : α × List Value, ok z.1 ∧ W.cells? 0 (a.add (i * P.cellsOf t')) (P.cellsOf t') = some z.2 ∧ zEA W (e z.1) z.2 := by
   intro i hi
   have h1 := hel i hi
   have h2 : elems[i]? = some (elems[i]'(by omega)) := List.getElem?_eq_getElem _
   rw [h2, Option.bind_eq_some_iff] at h1
   obtain ⟨cs', hcs, hy⟩ := h1
   obtain ⟨z, hz, hzl, hzr⟩ := h _ _ _ hy
   exact ⟨(z, cs'), hz, hcs, hzr⟩
 cases len with
 | zero => exact ⟨[], ⟨Nat.zero_le _, fun a ha => by simp at ha⟩, rfl, zKB (.ro0 _ _ _ _ _) rfl⟩
 | succ len =>
   have ha : a = ⟨a.block, a.off, none⟩ ∧ a.block < W.heap.size := by
     obtain ⟨z, _, hcs, _⟩ := each 0 (Nat.succ_pos _)
     obtain ⟨_, hl2, hce⟩ := World.cells?_some hcs
     have h0 := hce 0 hn
     have hz0 : z.2[0]? = some (z.2[0]'(by omega)) := List.getElem?_eq_getElem _
     rw [hz0] at h0
     simp only [Nat.zero_mul] at h0
     have e0 : ∀ q : Addr, q.add 0 = q := by intro q; simp [Addr.add]
     rw [e0, e0] at h0
     have hsp : a = ⟨a.block, a.off, none⟩ := by
       have hb := h0
       unfold World.cell? at hb
       split at hb
       · cases hsp : a.spot with
         | none => cases a; simp_all
         | some s => simp [hsp] at hb
       · cases hb
     refine ⟨hsp, ?_⟩
     rcases Nat.lt_or_ge a.block W.heap.size with hh | hh
     · exact hh
     · rw [hsp] at h0
       unfold World.cell? at h0
       have : W.heap[a.block]? = none := by simp [hh]
       simp [this] at h0
   let f : Nat → α × List Value := fun i => if hi : i < len + 1 then Classical.choose (each i hi) else (d, [])
   have hf : ∀ i, i < len + 1 → ok (f i).1 ∧ W.cells? 0 (a.add (i * P.cellsOf t')) (P.cellsOf t') = some (f i).2 ∧ zEA W (e (f i).1) (f i).2 := by
     intro i hi
     have := Classical.choose_spec (each i hi)
     simp only [f, hi, dite_true]
     exact this
   let l : List α := (List.range (len + 1)).map (fun i => (f i).1)
   have hll : l.length = len + 1 := by simp [l]
   have hlg : ∀ i, i < len + 1 → l.getD i d = (f i).1 := by intro i hi; simp [l, List.getD, hi]
   refine ⟨l, ⟨by unfold maxLen at hm; omega, fun b hb => ?_⟩, Y, ?_⟩
   · obtain ⟨i, hi, rfl⟩ := List.mem_map.1 hb
     exact (hf i (List.mem_range.1 hi)).1
   · refine zKB ?_ Y
     rw [ha.1, hll]
     refine .ro _ _ _ _ _ _ _ (fun i j => (f i).2.getD j undef) ha.2 hl (fun i j hi hj => ?_) (fun i j hi hj => ?_) (fun i j hi hj => ?_)
     all_goals
       obtain ⟨g1, g2, g3, g4⟩ := hf i hi
       obtain ⟨_, q2, q3⟩ := World.cells?_some g2
       have hj' : j < (f i).2.length := by rw [q2]; exact hj
     · have h3 := q3 j hj
       rw [List.getElem?_eq_getElem hj'] at h3
       rw [ha.1, add_plain, add_plain] at h3
       show W.cell? ⟨a.block, a.off + i * P.cellsOf t' + j, none⟩ = some ((f i).2.getD j undef)
       rw [h3, List.getD, List.getElem?_eq_getElem hj']; rfl
     · show VR W (allS W) (fun _ => none) ((e (l.getD (0 + i) d)).getD j .any) _
       rw [Nat.zero_add, hlg i hi]
       exact (g4 j hj').1
     · exact (g4 j hj').2
/-- One part behind the other. -/
theorem zEA.append {l l' : List AV} {cs cs' : List Value} (h : zEA W l cs) (h' : zEA W l' cs') : zEA W (l ++ l') (cs ++ cs') := by
 have _pin := (inferInstance : Pins)
 refine ⟨by simp [h.1, h'.1], fun i hi => ?_⟩
 by_cases hlt : i < cs.length
 · have e1 : (l ++ l').getD i .any = l.getD i .any := by simp [List.getD, List.getElem?_append, h.1, hlt]
   have e2 : (cs ++ cs').getD i undef = cs.getD i undef := by simp [List.getD, List.getElem?_append, hlt]
   rw [e1, e2]; exact h.2 i hlt
 · have e1 : (l ++ l').getD i .any = l'.getD (i - cs.length) .any := by simp [List.getD, List.getElem?_append, h.1, hlt]
   have e2 : (cs ++ cs').getD i undef = cs'.getD (i - cs.length) undef := by simp [List.getD, List.getElem?_append, hlt]
   rw [e1, e2]; exact h'.2 _ (by simp at hi; omega)
/-- Readers of some cells in a row: the fields of a struct from one on. -/
def RdF {α : Type} (enc : TypeId × Value → H) (P : Program) (W : World) (fs : List Field) (o n : Nat) (e : α → List AV) (ok : α → Prop) : Prop :=
 ∀ fuel (cs : List Value) (m : Nat), cs.length = m → o + n = m → (∀ f ∈ fs, ∃ x, DataW.trod enc P W 0 (fun _ => true) true fuel f.type ((cs.drop f.offset).take (P.cellsOf f.type)) = some x) → ∃ a, ok a ∧ zEA W (e a) (cs.drop o)
theorem RdF.nil {o : Nat} : RdF enc P W [] o 0 (fun _ : Unit => []) (fun _ => True) := by
 have _pin := (inferInstance : Pins)
 intro fuel cs m h1 h2 _
 refine ⟨(), trivial, ?_⟩
 rw [List.drop_of_length_le (by omega)]
 exact ⟨Y, fun i hi => by simp at hi⟩
theorem RdF.cons {α β : Type} {f : Field} {fs : List Field} {o n m : Nat} {e : α → List AV} {ok : α → Prop} {e' : β → List AV} {ok' : β → Prop} (ho : f.offset = o) (hc : P.cellsOf f.type = n) (h : Rd enc P W f.type n e ok) (h' : RdF enc P W fs (o + n) m e' ok') :
   RdF enc P W (f :: fs) o (n + m) (fun a : α × β => e a.1 ++ e' a.2) (fun a => ok a.1 ∧ ok' a.2) := by
 intro fuel cs k h1 h2 h3
 obtain ⟨x, hx⟩ := h3 f (by simp)
 obtain ⟨a, ha, hl, hr⟩ := h _ _ _ hx
 obtain ⟨b, hb, hr'⟩ := h' fuel cs k h1 (by omega) (fun g hg => h3 g (by simp [hg]))
 refine ⟨(a, b), ⟨ha, hb⟩, ?_⟩
 rw [ho, hc] at hr
 have e1 : cs.drop o = (cs.drop o).take n ++ cs.drop (o + n) := by rw [← List.drop_drop, List.take_append_drop]
 rw [e1]
 exact hr.append hr'
theorem Rd.struct {α : Type} {t : TypeId} {fs : Array Field} {n : Nat} {e : α → List AV} {ok : α → Prop} (ht : P.underlying t = some (.struct fs)) (hc : P.cellsOf t = n) (h : RdF enc P W fs.toList 0 n e ok) : Rd enc P W t n e ok := by
 have _pin := (inferInstance : Pins)
 intro fuel cs x hx
 obtain ⟨xs, m, _, _, hl, hxl, hf⟩ := DataW.trod_struct ht hx
 obtain ⟨a, ha, hr⟩ := h m cs n (by omega) (by omega) (fun f hf' => by
   obtain ⟨i, hi, rfl⟩ := List.getElem_of_mem hf'
   have h1 := hf i fs.toList[i] (by simp at hi; simp [hi])
   have h2 : xs[i]? = some (xs[i]'(by simp at hi; omega)) := List.getElem?_eq_getElem _
   rw [h2] at h1
   exact ⟨_, h1⟩)
 exact ⟨a, ha, by omega, by simpa using hr⟩
/-- The same, told by another list of abstract values. -/
theorem zEA.conv {l l' : List AV} {cs : List Value} (h : zEA W l cs) (hl : l'.length = l.length) (he : ∀ i, i < l.length → AEq (l.getD i .any) (l'.getD i .any)) : zEA W l' cs :=
 have _pin := (inferInstance : Pins); ⟨hl.trans h.1, fun i hi => ⟨he i (by rw [h.1]; exact hi) _ _ _ _ (h.2 i hi).1, (h.2 i hi).2⟩⟩
theorem Rd.map {α β : Type} {t : TypeId} {n : Nat} {e : α → List AV} {ok : α → Prop} {e' : β → List AV} {ok' : β → Prop} (h : Rd enc P W t n e ok) (f : α → β) (hok : ∀ a, ok a → ok' (f a)) (hl : ∀ a, (e' (f a)).length = (e a).length)
   (he : ∀ a i, i < (e a).length → AEq ((e a).getD i .any) ((e' (f a)).getD i .any)) : Rd enc P W t n e' ok' := by
 intro fuel cs x hx
 obtain ⟨a, ha, h1, h2⟩ := h fuel cs x hx
 exact ⟨f a, hok a ha, h1, h2.conv (hl a) (he a)⟩
theorem zQt (k : IntKind) (l : List Int) : AEq (.ro (zC3 0 1 (fun n : Int => [AV.int k n]) l) 0 l.length) (.ro (.ints k l) 0 l.length) := by
 refine AEq.ro Y (fun d j hd hj => ?_)
 have hj0 : j = 0 := Nat.lt_one_iff.1 hj
 subst hj0
 rfl
theorem zRS (l : List (List UInt8)) : AEq (.ro (zC3 [] 1 (fun s : List UInt8 => [AV.str s]) l) 0 l.length) (.ro (.strs l) 0 l.length) := by
 refine AEq.ro Y (fun d j hd hj => ?_)
 have hj0 : j = 0 := Nat.lt_one_iff.1 hj
 subst hj0
 rfl
theorem Rd.ints {t t' : TypeId} {k : IntKind} (ht : P.underlying t = some (.slice t')) (hc : P.cellsOf t' = 1) (hk : P.underlying t' = some (.int k)) :
   Rd enc P W t 1 (fun l : List Int => [AV.ro (.ints k l) 0 l.length]) (fun l => l.length ≤ 9223372036854775807 ∧ ∀ n ∈ l, (Lit.int k n).wf = true) :=
 (Rd.slice 0 ht hc rfl (Rd.int hk)).map id (fun _ h => h) (fun _ => rfl) (fun l i hi => by
   have : i = 0 := by simpa using hi
   subst this
   exact zQt k l)
theorem Rd.strs {t t' : TypeId} (ht : P.underlying t = some (.slice t')) (hc : P.cellsOf t' = 1) (hk : P.underlying t' = some .string) :
   Rd enc P W t 1 (fun l : List (List UInt8) => [AV.ro (.strs l) 0 l.length]) (fun l => l.length ≤ 9223372036854775807 ∧ ∀ s ∈ l, s.length ≤ 9223372036854775807) :=
 (Rd.slice [] ht hc rfl (Rd.str hk)).map id (fun _ h => h) (fun _ => rfl) (fun l i hi => by
   have : i = 0 := by simpa using hi
   subst this
   exact zRS l)
/-- An argument that is one cell. -/
theorem Rd.one {α : Type} {t : TypeId} {e : α → List AV} {ok : α → Prop} {v : Value} {d : DataW H} {p : List MemPlace} (h : Rd enc P W t 1 e ok) (hv : v.cells = #[v]) (hd : DataW.Trod enc P W 0 (fun _ => true) true t v d p) :
   ∃ a, ok a ∧ VR W (allS W) (fun _ => none) ((e a).getD 0 .any) v := by
 have _pin := (inferInstance : Pins)
 obtain ⟨fuel, hx⟩ := hd
 rw [hv] at hx
 obtain ⟨a, ha, _, hr⟩ := h _ _ _ hx
 exact ⟨a, ha, (hr.2 0 Nat.zero_lt_one).1⟩
end
end Go.Ax
namespace Go.Ax
variable [Pins]
open Go.RowKit
section
variable {H : Type} {enc : TypeId × Value → H} {P : Program} {W : World}
end
end Go.Ax
namespace Go.Ax
open Go.ChangeShapes Go.WideShapes Go.ChangeAt Go.RowKit
theorem zQ7 [Pins] {H : Type} {enc : TypeId × Value → H} {P : Program} {W : World} {ts : List TypeId} {ds : List (DataW H)} {sp : Nat → Bool} {held : Bool} {j b : Nat} {t e : TypeId} {ad : Option Addr} {sn sc : Nat} {d : DataW H} {p : List MemPlace} {S : Nat → Prop} {σ : Nat → Option Blk} {c : Cells} {i n : Nat}
   (hz : (DataW.weightsEach P ts ds).all (· ≤ reachBytes) = true) (hts : ts[j]? = some t) (hds : ds[j]? = some d) (ht : P.underlying t = some (.slice e)) (hb : P.bytesOf e = b)
   (h : DataW.Trod enc P W 0 sp held t (.slice ad sn sc) d p) (hv : VR W S σ (.ro c i n) (.slice ad sn sc)) : n * b ≤ reachBytes := by
 have hn : n = sn := by cases hv <;> rfl
 subst hn
 obtain ⟨fuel, hx⟩ := h
 rcases DataW.trod_slice ht hx with ⟨hcs, _⟩ | ⟨a, len, cap, elems, rest, m, _, hcs, hd, _, hl, hm, hlen, _⟩
 · simp only [Value.cells] at hcs
   have : n = 0 := by
     have := congrArg (fun l : List Value => match l with | [.slice _ k _] => k | _ => 0) hcs
     simpa using this
   rw [this, Nat.zero_mul]; exact Nat.zero_le _
 · have hn : n = len := by
     simp only [Value.cells] at hcs
     have := congrArg (fun l : List Value => match l with | [.slice _ k _] => k | _ => 0) hcs
     simpa using this
   have hd : d = .slice (elems.map (·.1)) (rest.map (·.1)) := congrArg Prod.fst hd
   rw [hd] at hds
   have := sized_slice hz hts hds ht
   rw [hb, List.length_map, List.length_map, hlen, ← hn] at this
   exact Nat.le_trans (Nat.mul_le_mul_right _ (Nat.le_add_right _ _)) this
end Go.Ax
namespace Go.Ax
variable [Pins]
open Go.RowKit
section
variable {P : Program} {fn : Func} {c : Ctx} {fr : Fr} {H H0 : zZ} {k : List It} {M : M}
/-- Whatever order came before: one rest, over what is known then. -/
theorem zCo {all : Array Oper} {fuel : Nat} {listed : Array Bool} (L : Fr) (h1 : (∀ fr, zCi fr L → Ax P fn c (.any all fuel listed k) fr H) → Ax P fn c M fr H0) (h2 : Ax P fn c (.any all fuel listed k) L H) : Ax P fn c M fr H0 :=
 h1 (fun _ hk w a σ S hr => h2 w a σ S (hr.weaken hk))
theorem zAu {x : Code} (L : Fr) (h1 : (∀ fr, zCi fr L → Ax P fn c (.code x k) fr H) → Ax P fn c M fr H0) (h2 : Ax P fn c (.code x k) L H) : Ax P fn c M fr H0 :=
 h1 (fun _ hk w a σ S hr => h2 w a σ S (hr.weaken hk))
end
theorem zKj {HF : zZ} {fr : Fr} : ∀ {L : Fr}, zCi fr L → fzk HF fr L
 | [], _ => have _pin := (inferInstance : Pins); trivial
 | (t, v) :: r, h => ⟨⟨v, h.1, .inl rfl⟩, zKj h.2⟩
theorem zQJ (t : Nat) (v : AV) (L : Fr) : zA5 t ((t, v) :: L) = some v := by
 have _pin := (inferInstance : Pins)
 show (bif Nat.beq t t then some v else _) = _
 rw [Nat.beq_refl]; rfl
theorem zL7 {t : Nat} {p q : AV} {L : Fr} (hp : zC2 0 p = false) : ∀ (M : Fr), zCi ((t, p) :: L) M → zEo 0 M = true → zCi ((t, q) :: L) M
 | [], _, _ => have _pin := (inferInstance : Pins); trivial
 | (u, v) :: r, h, hb => by
   simp only [zEo, Bool.and_eq_true] at hb
   refine ⟨?_, zL7 hp r h.2 hb.2⟩
   have h1 : (bif Nat.beq u t then some p else zA5 u L) = some v := h.1
   show (bif Nat.beq u t then _ else zA5 u L) = some v
   cases hq : Nat.beq u t with
   | true => rw [hq] at h1; simp at h1; subst h1; rw [hp] at hb; exact absurd hb.1 (by decide)
   | false => rw [hq] at h1; simpa using h1
/-- From now on the only object is only read. -/
theorem zKT {P : Program} {fn : Func} {c : Ctx} {fr : Fr} {k : List It} {x : Code} {o : AObj} {v : AV} (t : Nat) (L : Fr) (v' : AV) (hn : zAC o.c) (hv : zC2 0 v = false) (hv' : v' = v.frz [some o]) (hi : inB [some o] v) (hb' : zC2 0 v' = true) (hk1 : zCi fr ((t, v) :: L)) (hk2 : zCi ((t, v) :: L) L) (hb : zEo 0 L = true) (hfx : ∀ h, ¬ c.fix h)
   (h : Ax P fn c (.code x k) ((t, v') :: L) []) : Ax P fn c (.code x k) fr [some o] := by
 refine zIX [some o] [none] ((t, v') :: L) (fun _ _ h => h) (zGX hn) Y ?_ ⟨⟨v, hk1.1, .inr (.inr ⟨hv', hi⟩)⟩, zKj hk1.2⟩ ?_
 · intro h o' ho'
   match h, ho' with
   | 0, ho' => simp at ho'
   | _ + 1, ho' => simp at ho'
 exact ax_cut [] [none] ((t, v') :: L) Y ⟨zQJ _ _ _, zL7 (p := v) hv L hk2 hb⟩ (fun h hh => (hfx h hh).elim) Y (by simp only [zEo, Bool.and_eq_true]; exact ⟨hb', hb⟩) h
end Go.Ax
namespace Go.Ax
variable [Pins]
open Go.RowKit
def sclEq (P : Program) (t : TypeId) (x y : AV) : Option Bool := match P.underlying t, x, y with
 | some (.int _), .int k a, .int k' b => if k = k' then some (decide (a = b)) else none
 | some .string, .str a, .str b => some (decide (a = b))
 | some .bool, .bool a, .bool b => some (a == b)
 | _, _, _ => none
theorem zRO {P : Program} {w w' : World} {S : Nat → Prop} {σ : Nat → Option Blk} {t : TypeId} {x y : AV} {b : Bool} {v v' : Value} (h : sclEq P t x y = some b) (hv : VR w S σ x v) (hv' : VR w S σ y v') (d : Nat) :
   P.plainKey t = true ∧ (Op.equalIn (d + 1) t v v').run P w' = .ok b w' := by
 unfold sclEq at h
 split at h
 · rename_i hu
   split at h
   · rename_i hk
     subst hk
     simp only [Option.some.injEq] at h
     subst h
     cases hv; cases hv'
     refine ⟨by simp [Program.plainKey, hu], ?_⟩
     rw [run_equalIn_int w' d t _ _ _ _ hu]; rfl
   · cases h
 · rename_i hu
   simp only [Option.some.injEq] at h
   subst h
   cases hv; cases hv'
   refine ⟨by simp [Program.plainKey, hu], ?_⟩
   simp only [zHO]
   rw [run_equalIn_string w' d t _ _ hu, zJE, zJE]
   congr 1
   rw [Bool.eq_iff_iff]; simp
 · rename_i hu
   simp only [Option.some.injEq] at h
   subst h
   cases hv; cases hv'
   exact ⟨by simp [Program.plainKey, hu], run_equalIn_bool' w' d t _ _ hu⟩
 · cases h
theorem zP2 {w : World} {S : Nat → Prop} {σ : Nat → Option Blk} {L : List AV} {vs : Array Value} (hl : vs.size = L.length) (hv : ∀ i, i < L.length → VR w S σ (L.getD i .any) (vs.getD i undef)) {o : Nat} {x : AV} (h : L[o]? = some x) : ∃ v, vs[o]? = some v ∧ VR w S σ x v := by
 have _pin := (inferInstance : Pins)
 have hlt : o < L.length := (List.getElem?_eq_some_iff.1 h).1
 have h3 := hv o hlt
 have e : L.getD o .any = x := by simp [List.getD, h]
 rw [e] at h3
 exact ⟨_, by simp [Array.getD, hl, hlt], h3⟩
section
variable {P : Program} {fn : Func} {c : Ctx} {fr : Fr} {H : zZ} {k : List It} {ind : Bool} {d : Option Nat} {ty : TypeId} {pos : String} {after : Array Edge} {g : Option (Nat × Bool)}
end
end Go.Ax
namespace Go.Ax
variable [Pins]
open Go.RowKit
/-- A kind without sign holds the zAw below M. -/
def UK (k : IntKind) (M : Nat) : Prop := ∀ n : Int, k.wrap n = n % (M : Int)
theorem zBO : UK .u64 18446744073709551616 := have _pin := (inferInstance : Pins); fun n => IntKind.wrap_u64 n
theorem zEr : UK .u32 4294967296 := have _pin := (inferInstance : Pins); fun n => IntKind.wrap_u32 n
theorem UK.in {k : IntKind} {M : Nat} (h : UK k M) {m : Nat} (hm : m < M) : k.wrap (m : Int) = (m : Int) := by have _pin := (inferInstance : Pins); rw [h]; exact Int.emod_eq_of_lt (by omega) (by omega)
theorem UK.low {k : IntKind} {M : Nat} (h : UK k M) (m : Nat) : k.wrap (m : Int) = ((m % M : Nat) : Int) := by have _pin := (inferInstance : Pins); rw [h]; simp
section
variable {P : Program} {fn : Func} {c : Ctx} {fr : Fr} {H : zZ} {k : List It} {ind : Bool} {d : Option Nat} {ty : TypeId} {pos : String} {after : Array Edge} {g : Option (Nat × Bool)}
/-- What it yields, told otherwise. -/
theorem QOp.res {o : Oper} {v v' : AV} (h : QOp ind P fn c fr H o v) (e : v = v') : QOp ind P fn c fr H o v' := e ▸ h
theorem zAb {x : Operand} {src dst : TypeId} {kk k' : IntKind} {u : TypeDesc} {m M : Nat} (hs : P.underlying src = some u) (hd : P.underlying dst = some (.int k')) (hx : ev fr x = some (.int kk (m : Nat))) (hk : UK k' M) (hm : m < M) :
   QOp ind P fn c fr H ⟨d, .convert src dst x, ty, pos, after, g⟩ (.int k' (m : Nat)) := (zOc hs hd hx).res (congrArg (AV.int k') (hk.in hm))
theorem zF4 {x : Operand} {src dst : TypeId} {kk k' : IntKind} {u : TypeDesc} {m M : Nat} (hs : P.underlying src = some u) (hd : P.underlying dst = some (.int k')) (hx : ev fr x = some (.int kk (m : Nat))) (hk : UK k' M) :
   QOp ind P fn c fr H ⟨d, .convert src dst x, ty, pos, after, g⟩ (.int k' (m % M : Nat)) := (zOc hs hd hx).res (congrArg (AV.int k') (hk.low m))
theorem zF3 {x y : Operand} {t t' : TypeId} {k k' : IntKind} {m s : Nat} (hx : ev fr x = some (.int k (m : Nat))) (hy : ev fr y = some (.int k' (s : Nat))) (hb : Nat.ble s k.bits = true) :
   QOp ind P fn c fr H ⟨d, .binOp .shr t x y t', ty, pos, after, g⟩ (.int k (m / 2 ^ s : Nat)) := by
 refine (q_shr hx hy (by omega)).res (congrArg (AV.int k) ?_)
 have hs : s ≤ k.bits := Nat.le_of_ble_eq_true hb
 unfold shrB
 rw [Int.toNat_natCast, Nat.min_eq_left hs, Int.fdiv_eq_ediv_of_nonneg _ (Int.pow_nonneg (by decide))]
 simp
theorem zKA {x y : Operand} {t t' : TypeId} {k k' : IntKind} {m s M : Nat} (hx : ev fr x = some (.int k (m : Nat))) (hy : ev fr y = some (.int k' (s : Nat))) (hb : s ≤ k.bits) (hk : UK k M) (hm : m * 2 ^ s < M) :
   QOp ind P fn c fr H ⟨d, .binOp .shl t x y t', ty, pos, after, g⟩ (.int k (m * 2 ^ s : Nat)) := by
 refine (q_shl hx hy (by omega)).res (congrArg (AV.int k) ?_)
 unfold shlB
 rw [Int.toNat_natCast, Nat.min_eq_left hb]
 have : ((m : Int) * 2 ^ s) = ((m * 2 ^ s : Nat) : Int) := by simp
 rw [this]; exact hk.in hm
theorem bvu {k : IntKind} {M : Nat} (hk : UK k M) (hM : M = 2 ^ k.bits) {m : Nat} (hm : m < M) : (BitVec.ofInt k.bits (m : Int)).toNat = m := by
 have _pin := (inferInstance : Pins)
 subst hM
 simp [BitVec.toNat_ofInt, Nat.mod_eq_of_lt hm]
theorem zNl {x y : Operand} {t t' : TypeId} {k : IntKind} {m n M : Nat} (hx : ev fr x = some (.int k (m : Nat))) (hy : ev fr y = some (.int k (n : Nat))) (hk : UK k M) (hM : M = 2 ^ k.bits) (hm : m < M) (hn : n < M) :
   QOp ind P fn c fr H ⟨d, .binOp .or t x y t', ty, pos, after, g⟩ (.int k (m ||| n : Nat)) := by
 refine (q_or hx hy).res (congrArg (AV.int k) ?_)
 unfold orB
 rw [BitVec.toNat_or, bvu hk hM hm, bvu hk hM hn]
 exact hk.in (by subst hM; exact Nat.or_lt_two_pow hm hn)
theorem q_uand {x y : Operand} {t t' : TypeId} {k : IntKind} {m n M : Nat} (hx : ev fr x = some (.int k (m : Nat))) (hy : ev fr y = some (.int k (n : Nat))) (hk : UK k M) (hM : M = 2 ^ k.bits) (hm : m < M) (hn : n < M) :
   QOp ind P fn c fr H ⟨d, .binOp .and t x y t', ty, pos, after, g⟩ (.int k (m &&& n : Nat)) := by
 refine (q_and hx hy).res (congrArg (AV.int k) ?_)
 unfold andB
 rw [BitVec.toNat_and, bvu hk hM hm, bvu hk hM hn]
 exact hk.in (by subst hM; exact Nat.and_lt_two_pow m hn)
theorem zFK {x y : Operand} {t t' : TypeId} {k : IntKind} {m n M : Nat} (hx : ev fr x = some (.int k (m : Nat))) (hy : ev fr y = some (.int k (n : Nat))) (hk : UK k M) (hm : m + n < M) :
   QOp ind P fn c fr H ⟨d, .binOp .add t x y t', ty, pos, after, g⟩ (.int k (m + n : Nat)) := by
 refine (zMG hx hy Y).res (congrArg (AV.int k) ?_)
 have : (m : Int) + (n : Int) = ((m + n : Nat) : Int) := by simp
 rw [this]; exact hk.in hm
theorem zIk {x y : Operand} {t t' : TypeId} {k : IntKind} {m n M : Nat} (hx : ev fr x = some (.int k (m : Nat))) (hy : ev fr y = some (.int k (n : Nat))) (hk : UK k M) (hm : m * n < M) :
   QOp ind P fn c fr H ⟨d, .binOp .mul t x y t', ty, pos, after, g⟩ (.int k (m * n : Nat)) := by
 refine (zMG hx hy Y).res (congrArg (AV.int k) ?_)
 have : (m : Int) * (n : Int) = ((m * n : Nat) : Int) := by simp
 rw [this]; exact hk.in hm
theorem zOX {x y : Operand} {t t' : TypeId} {k : IntKind} {m n M : Nat} (hx : ev fr x = some (.int k (m : Nat))) (hy : ev fr y = some (.int k (n : Nat))) (hk : UK k M) (hm : m < M) (hn : n ≤ m) :
   QOp ind P fn c fr H ⟨d, .binOp .sub t x y t', ty, pos, after, g⟩ (.int k (m - n : Nat)) := by
 refine (zMG hx hy Y).res (congrArg (AV.int k) ?_)
 have : (m : Int) - (n : Int) = ((m - n : Nat) : Int) := by omega
 rw [this]; exact hk.in (by omega)
theorem q_urem {x y : Operand} {t t' : TypeId} {k : IntKind} {m n : Nat} (hx : ev fr x = some (.int k (m : Nat))) (hy : ev fr y = some (.int k (n : Nat))) (hn : 0 < n) :
   QOp ind P fn c fr H ⟨d, .binOp .rem t x y t', ty, pos, after, g⟩ (.int k (m % n : Nat)) :=
 (q_rem hx hy ⟨by omega, by omega⟩).res (congrArg (AV.int k) (by simp))
theorem q_uquo {x y : Operand} {t t' : TypeId} {k : IntKind} {m n M : Nat} (hx : ev fr x = some (.int k (m : Nat))) (hy : ev fr y = some (.int k (n : Nat))) (hk : UK k M) (hm : m < M) (hn : 0 < n) :
   QOp ind P fn c fr H ⟨d, .binOp .quo t x y t', ty, pos, after, g⟩ (.int k (m / n : Nat)) := by
 refine (q_quok hx hy (by omega)).res (congrArg (AV.int k) ?_)
 have : (m : Int).tdiv (n : Int) = ((m / n : Nat) : Int) := by simp
 rw [this]; exact hk.in (Nat.lt_of_le_of_lt (Nat.div_le_self _ _) hm)
end
end Go.Ax
namespace Go.Ax
variable [Pins]
open Go.RowKit
section
variable {P : Program} {fn : Func} {c : Ctx} {fr : Fr} {H : zZ} {k : List It}
end
end Go.Ax
namespace Go.Ax
variable [Pins]
open Go.RowKit
section
variable {P : Program} {fn : Func} {c : Ctx} {fr : Fr} {H : zZ} {k : List It}
/-- copy(x, y): x a part of an object of one's own. -/
theorem zPg {all : Array Oper} {d : Nat} {t tx e : TypeId} {x y : Operand} {ty : TypeId} {pos : String} {after : Array Edge} {rest : List Oper} {inf : TypeInfo} {h i n : Nat} {o : AObj} {v : AV} {cx c' : Cells} {i2 m q : Nat}
   (ht : P.underlying t = some (.slice e)) (hi : P.info? e = some inf) (hszz : inf.size = o.c.sz) (hx : ev fr x = some (.sl h i n)) (hh : H[h]? = some (some o)) (hy : ev fr y = some v) (hs : srcOf H v = some (cx, i2, m))
   (hin0 : i + n ≤ o.c.len) (hn : 0 < n) (hin : i2 + m ≤ cx.len) (hm : 0 < m) (hq : Nat.min m n = q) (p1 : c'.sz = o.c.sz) (p2 : cx.sz = o.c.sz) (p3 : c'.len = o.c.len)
   (p4 : ∀ i' j, i' < o.c.len → j < o.c.sz → c'.at i' j = if i ≤ i' ∧ i' < i + q then cx.at (i2 + (i' - i)) j else o.c.at i' j)
   (hk : Ax P fn c (.ops false all rest k) ((d, .int .i64 (q : Nat)) :: fr) (H.set h (some ⟨o.ty, c'⟩))) (hz : o.c.sz ≠ 0 := by (intro hh; cases hh)) : Ax P fn c (.ops false all (⟨some d, .call { callee := .builtin .copy, args := #[x, y], argTypes := #[t, tx] }, ty, pos, after, none⟩ :: rest) k) fr H := by
 refine ax_w (fun w a σ S hr => ?_) hk
 have h1 := hr.evAt hx
 have h2 := hr.evAt hy
 have hsrc := hr.src h2 hs (fun _ _ => hin)
 have hexec : ∀ r w', (Builtin.copy_ #[t, tx] ty #[a.eval x, a.eval y]).run P w = .ok r w' → (execOp a.eval ⟨some d, .call { callee := .builtin .copy, args := #[x, y], argTypes := #[t, tx] }, ty, pos, after, none⟩).run P w = .ok (.value r) w' := by
   intro r w' h
   simp [execOp, resolve, invoke, builtin, h]
 generalize hzx : a.eval x = vx at h1 hexec
 generalize hzy : a.eval y = vy at h2 hsrc hexec
 unfold Src at hsrc
 rw [p2] at hsrc
 have hq1 : q ≤ m ∧ q ≤ n := by subst hq; exact ⟨Nat.min_le_left _ _, Nat.min_le_right _ _⟩
 cases h1 with
 | sl0 _ _ hσ => omega
 | sl _ _ _ _ b s C cap hσ hlen hcap =>
   obtain ⟨hs', cur, g1, g2, g3, g4, g5, g6⟩ := hr.obj hh hσ
   subst hs'
   obtain ⟨mk, g1, hmk, hrow⟩ := g1.cells hz
   rcases hsrc with ⟨rfl, ax, capx, rfl⟩ | ⟨ad, capx, news, rfl, q1, q2, q3, q4⟩
   · omega
   · have hle : q * o.c.sz ≤ news.length := by rw [q1]; exact Nat.mul_le_mul_right _ hq1.1
     have htl : (news.take (q * o.c.sz)).length = q * o.c.sz := by rw [List.length_take]; omega
     have hfits : i * o.c.sz + q * o.c.sz ≤ cur.size := by
       rw [g2, ← Nat.add_mul]; exact Nat.mul_le_mul_right _ (by omega)
     have hf := run_firstCells_some (P := P) w o.c.sz q ad m capx (news.take (q * o.c.sz)) htl (fun j u hu => by
       rw [List.getElem?_take] at hu
       split at hu
       · exact q2 j u hu
       · cases hu)
     have hst := zCj P b (i * o.c.sz) o.ty mk (news.take (q * o.c.sz)) 0 cur w g1 hmk (by rw [htl]; omega) (fun u hu => q3 u (List.mem_of_mem_take hu))
     simp only [Nat.add_zero, htl] at hst
     have hrun : (Builtin.copy_ #[t, tx] ty #[.slice (some ⟨b, i * o.c.sz, none⟩) n cap, .slice (some ad) m capx]).run P w = .ok (.int .i64 (q : Nat)) (w.setRow b (cur.toList.take (i * o.c.sz) ++ news.take (q * o.c.sz) ++ cur.toList.drop (i * o.c.sz + q * o.c.sz)).toArray) := by
       simp [Builtin.copy_, run_underlying ht, sizeOf, typeInfo, hi, hszz, Builtin.lenOf, hq, hf, hst, goInt]
     have hb0 : (cur.toList.take (i * o.c.sz)).length = i * o.c.sz := by rw [List.length_take]; simp; omega
     refine ⟨_, _, σ, S, hexec _ _ hrun, hr.setRow hh hσ hrow p1 (by omega) ?_ (fun i' j hi' hj => ?_), .int _ _ _⟩
     · rw [← g2]; simp; omega
     · rw [p3] at hi'
       rw [p1] at hj ⊢
       rw [p4 i' j hi' hj]
       split
       · rename_i hr1
         obtain ⟨u, e1, e2⟩ := q4 (i' - i) j (by omega) hj
         refine ⟨u, ?_, e2, q3 u (List.mem_of_getElem? e1)⟩
         have hidx : i' * o.c.sz + j = i * o.c.sz + ((i' - i) * o.c.sz + j) := by
           rw [← Nat.add_assoc, ← Nat.add_mul]; congr 2; omega
         have hlt : (i' - i) * o.c.sz + j < q * o.c.sz := by
           have : (i' - i + 1) * o.c.sz ≤ q * o.c.sz := Nat.mul_le_mul_right _ (by omega)
           rw [Nat.add_mul] at this; omega
         simp only [List.getElem?_toArray, List.append_assoc]
         rw [hidx, List.getElem?_append_right (by omega), hb0, Nat.add_sub_cancel_left, List.getElem?_append_left (by omega), List.getElem?_take, if_pos hlt]
         exact e1
       · rename_i hr1
         obtain ⟨u, e1, e2, e3⟩ := g6 i' j hi' hj
         refine ⟨u, ?_, e2, e3⟩
         simp only [List.getElem?_toArray, List.append_assoc]
         by_cases hlo : i' < i
         · have hlt : i' * o.c.sz + j < i * o.c.sz := by
             have : (i' + 1) * o.c.sz ≤ i * o.c.sz := Nat.mul_le_mul_right _ (by omega)
             rw [Nat.add_mul] at this; omega
           rw [List.getElem?_append_left (by omega), List.getElem?_take, if_pos hlt]
           simpa using e1
         · have hge : i + q ≤ i' := by omega
           have hge2 : i * o.c.sz + q * o.c.sz ≤ i' * o.c.sz + j := by
             have : (i + q) * o.c.sz ≤ i' * o.c.sz := Nat.mul_le_mul_right _ hge
             rw [Nat.add_mul] at this; omega
           rw [List.getElem?_append_right (by omega), hb0, List.getElem?_append_right (by omega), htl, List.getElem?_drop]
           rw [show i * o.c.sz + q * o.c.sz + (i' * o.c.sz + j - i * o.c.sz - q * o.c.sz) = i' * o.c.sz + j by omega]
           simpa using e1
end
end Go.Ax
namespace Go.Ax
variable [Pins]
open Go.RowKit
section
variable {ind : Bool} {P : Program} {fn : Func} {c : Ctx} {fr : Fr} {H : zZ} {k : List It} {d : Option Nat} {ty : TypeId} {pos : String} {after : Array Edge} {g : Option (Nat × Bool)}
end
end Go.Ax
namespace Go.Ax
variable [Pins]
open Go.RowKit
section
variable {P : Program} {fn : Func} {c : Ctx} {fr : Fr} {H : zZ} {k : List It}
theorem give_sub {h : Nat} {o : AObj} (hh : H[h]? = some (some o)) : subH (List.replicate h none ++ [some o]) H := by
 have _pin := (inferInstance : Pins)
 intro h' o' ho
 rcases Nat.lt_trichotomy h' h with q | q | q
 · rw [List.getElem?_append_left (by simpa using q)] at ho
   simp [List.getElem?_replicate, q] at ho
 · subst q
   rw [List.getElem?_append_right (by simp)] at ho
   simp at ho; subst ho; exact hh
 · rw [List.getElem?_eq_none (by simp; omega)] at ho; cases ho
theorem zRj {h : Nat} {o : AObj} (hrl : zAC o.c) : ∀ (h' : Nat) (o' : AObj), (List.replicate h none ++ [some o] : zZ)[h']? = some (some o') → zAC o'.c := by
 have _pin := (inferInstance : Pins)
 intro h' o' ho
 have hm := List.mem_of_getElem? ho
 rcases List.mem_append.1 hm with q | q
 · have := (List.mem_replicate.1 q).2; cases this
 · simp at q; subst q; exact hrl
theorem zPt {h : Nat} {o : AObj} : (List.replicate h none ++ [some o] : zZ)[h]? = some (some o) := by
 have _pin := (inferInstance : Pins)
 rw [List.getElem?_append_right (by simp)]; simp
theorem Rep.give {w : World} {a : Act} {σ : Nat → Option Blk} {S : Nat → Prop} {N : Nat} (hr : Rep c w a σ S N fr H) (h t n : Nat) {o : AObj} (L : Fr) (hh : H[h]? = some (some o)) (hrl : zAC o.c) (hl : zA5 t fr = some (.sl h 0 n)) (hn : n ≤ o.c.len) (hL : zCi fr L) :
   ∃ S', Rep c w a σ S' N ((t, .ro o.c 0 n) :: L) (H.set h none) := by
 have hlt : h < H.length := (List.getElem?_eq_some_iff.1 hh).1
 refine hr.freeze (List.replicate h none ++ [some o]) (H.set h none) (give_sub hh) (zRj hrl) (by simp) ?_ ⟨⟨_, hl, .inr (.inr ⟨?_, ?_⟩)⟩, zKj hL⟩
 · intro h' o' ho
   have hne : h' ≠ h := by
     rintro rfl
     rw [List.getElem?_set_self hlt] at ho; cases ho
   rw [List.getElem?_set_ne (Ne.symm hne)] at ho
   refine ⟨fun o2 h2 => ?_, o', ho, Y, Y, Y, fun i j _ _ => .inl Y⟩
   rcases Nat.lt_or_ge h' h with q | q
   · rw [List.getElem?_append_left (by simpa using q)] at h2
     simp [List.getElem?_replicate, q] at h2
   · rw [List.getElem?_eq_none (by simp; omega)] at h2; cases h2
 · simp only [AV.frz, zPt]
 · intro o2 h2
   rw [zPt] at h2
   cases h2
   omega
/-- A row of one's own is only read from now on. -/
theorem zC7 {all : Array Oper} {rest : List Oper} (h t n : Nat) {o : AObj} (L : Fr) (hh : H[h]? = some (some o)) (hrl : zAC o.c) (hl : zA5 t fr = some (.sl h 0 n)) (hn : n ≤ o.c.len) (hL : zCi fr L)
   (hk : Ax P fn c (.ops false all rest k) ((t, .ro o.c 0 n) :: L) (H.set h none)) : Ax P fn c (.ops false all rest k) fr H := by
 intro hd w a σ S hr
 obtain ⟨S', hr'⟩ := hr.give h t n L hh hrl hl hn hL
 exact hk hd w a σ S' hr'
theorem zAV {x : Code} (h t n : Nat) {o : AObj} (L : Fr) (hh : H[h]? = some (some o)) (hrl : zAC o.c) (hl : zA5 t fr = some (.sl h 0 n)) (hn : n ≤ o.c.len) (hL : zCi fr L)
   (hk : Ax P fn c (.code x k) ((t, .ro o.c 0 n) :: L) (H.set h none)) : Ax P fn c (.code x k) fr H := by
 intro w a σ S hr
 obtain ⟨S', hr'⟩ := hr.give h t n L hh hrl hl hn hL
 exact hk w a σ S' hr'
theorem zAd {q : Bool} {all : Array Oper} {rest : List Oper} (H' : zZ) (he : H = H') (hk : Ax P fn c (.ops q all rest k) fr H') : Ax P fn c (.ops q all rest k) fr H := by
 subst he; exact hk
variable {ind : Bool} {d : Option Nat} {ty : TypeId} {pos : String} {after : Array Edge} {g : Option (Nat × Bool)}
theorem zFd {op : BinOp} {t : TypeId} {x y : Operand} {a b : Bool} {w : World} : (eqGuard op t x y (.bool a) (.bool b)).run P w = .ok () w := by
 have _pin := (inferInstance : Pins)
 unfold eqGuard
 split <;> rfl
theorem zLU {x y : Operand} {t t' : TypeId} {a b : Bool} (ht : P.underlying t = some .bool) (hx : ev fr x = some (.bool a)) (hy : ev fr y = some (.bool b)) : QOp ind P fn c fr H ⟨d, .binOp .neq t x y t', ty, pos, after, g⟩ (.bool (!(a == b))) := by
 intro w ac σ S hr
 refine ⟨_, .bool _ _, fun w' _ => ?_⟩
 have h1 := hr.evBool hx
 have h2 := hr.evBool hy
 have h3 := run_neq_bool (P := P) w' t a b ht
 simp [execOp, h1, h2, zFd, h3]
 try (cases a <;> cases b <;> rfl)
theorem zKy {x y : Operand} {t t' : TypeId} {a b : Bool} (ht : P.underlying t = some .bool) (hx : ev fr x = some (.bool a)) (hy : ev fr y = some (.bool b)) : QOp ind P fn c fr H ⟨d, .binOp .eql t x y t', ty, pos, after, g⟩ (.bool (a == b)) := by
 intro w ac σ S hr
 refine ⟨_, .bool _ _, fun w' _ => ?_⟩
 have h1 := hr.evBool hx
 have h2 := hr.evBool hy
 have h3 := run_eql_bool (P := P) w' t a b ht
 simp [execOp, h1, h2, zFd, h3]
/-- Bits pushed out on the left are lost. -/
theorem zQM {x y : Operand} {t t' : TypeId} {kk k' : IntKind} {m s M : Nat} (hx : ev fr x = some (.int kk (m : Nat))) (hy : ev fr y = some (.int k' (s : Nat))) (hb : s ≤ kk.bits) (hk : UK kk M) :
   QOp ind P fn c fr H ⟨d, .binOp .shl t x y t', ty, pos, after, g⟩ (.int kk (m * 2 ^ s % M : Nat)) := by
 refine (q_shl hx hy (by omega)).res (congrArg (AV.int kk) ?_)
 unfold shlB
 rw [Int.toNat_natCast, Nat.min_eq_left hb]
 have : ((m : Int) * 2 ^ s) = ((m * 2 ^ s : Nat) : Int) := by simp
 rw [this]; exact hk.low _
end
end Go.Ax
namespace Go.Ax
variable [Pins]
open Go.RowKit
theorem zHt {fr : Fr} : ∀ {K : Fr}, (∀ p ∈ K, zA5 p.1 fr = some p.2) → zCi fr K
 | [], _ => have _pin := (inferInstance : Pins); trivial
 | (t, v) :: r, h => ⟨h (t, v) (by simp), zHt (fun p hp => h p (by simp [hp]))⟩
theorem zIH {fr : Fr} : ∀ {K : Fr}, zCi fr K → ∀ p ∈ K, zA5 p.1 fr = some p.2
 | [], _, p, hp => have _pin := (inferInstance : Pins); by simp at hp
 | (t, v) :: r, h, p, hp => by
   rcases List.mem_cons.1 hp with rfl | hp
   · exact h.1
   · exact zIH h.2 p hp
theorem zN6 {fr K : Fr} (h : zCi fr K) {o : Operand} {v : AV} (he : ev K o = some v) : ev fr o = some v := by
 have _pin := (inferInstance : Pins)
 cases o with
 | tmp t => exact zF1 h he
 | const x => exact he
 | «global» g => cases he
 | func f => exact he
theorem zLP {fr K : Fr} (h : zCi fr K) : ∀ {xs : List Operand} {l : List AV}, evs K xs = some l → evs fr xs = some l
 | [], l, he => have _pin := (inferInstance : Pins); he
 | x :: r, l, he => by
   simp only [evs] at he ⊢
   split at he
   · rename_i v hv
     split at he
     · rename_i q hq
       rw [zN6 h hv, zLP h hq]
       exact he
     · cases he
   · cases he
section
variable {P : Program} {fn : Func} {c : Ctx} {fr : Fr} {H : zZ} {k : List It}
/-- An operation that yields v and leaves the memory as it is told. -/
def zA0 (P : Program) (fn : Func) (c : Ctx) (H : zZ) (all : Array Oper) (K : Fr) (o : Oper) (d : Nat) (v : AV) : Prop :=
 ∀ (k : List It) (fr : Fr), zCi fr K → Ax P fn c (.ops false all [] k) ((d, v) :: fr) H → Ax P fn c (.ops false all [o] k) fr H
theorem pure_q {all : Array Oper} {K : Fr} {d : Nat} {op : Op} {ty : TypeId} {pos : String} {after : Array Edge} {v : AV} (h : QOp false P fn c K H ⟨some d, op, ty, pos, after, none⟩ v) : zA0 P fn c H all K ⟨some d, op, ty, pos, after, none⟩ d v :=
 fun k fr hk h2 => zD (fun w a σ S hr => h w a σ S (hr.weaken hk)) h2
theorem pure_v {all : Array Oper} {K : Fr} {d : Nat} {g : Operand} {args : List Operand} {ats : Array TypeId} {ty : TypeId} {pos : String} {after : Array Edge} {f : FuncId} {caps ags ags' : List AV} {r : AV} (hg : ev K g = some (.fn f caps)) (ha : evs K args = some ags) (has : ags ++ caps = ags') (hcall : zW P f ags' r) :
   zA0 P fn c H all K ⟨some d, .call { callee := .value g, args := args.toArray, argTypes := ats }, ty, pos, after, none⟩ d r :=
 fun k fr hk h2 => zB (zN6 hk hg) (zLP hk ha) has hcall h2
/-- A guard that holds. -/
theorem zLn {all : Array Oper} {K : Fr} {d : Nat} {op : Op} {ty : TypeId} {pos : String} {after : Array Edge} {v : AV} {j t : Nat} {p : Bool} (hy : zFs all j = some t) (hb : zA5 t K = some (.bool p)) (h : zA0 P fn c H all K ⟨some d, op, ty, pos, after, none⟩ d v) : zA0 P fn c H all K ⟨some d, op, ty, pos, after, some (j, p)⟩ d v :=
 fun k fr hk h2 => zAL hy (zF1 hk hb) (h k fr hk h2)
/-- A guard that does not hold: nothing is left in the slot. -/
theorem pure_gno {all : Array Oper} {K : Fr} {d : Nat} {op : Op} {ty : TypeId} {pos : String} {after : Array Edge} {j t : Nat} {p b : Bool} (hy : zFs all j = some t) (hb : zA5 t K = some (.bool b)) (hne : (b == p) = false) : zA0 P fn c H all K ⟨some d, op, ty, pos, after, some (j, p)⟩ d (.tup []) :=
 fun k fr hk h2 => zAn hy (zF1 hk hb) hne h2
abbrev Steps := List (Nat × Nat × AV)
def zH7 (st : Steps) (K0 : Fr) (o : Oper) : Fr := ((st.filter (fun s => o.after.toList.any (fun e => Nat.beq e.on s.1 && Region.binds .any e))).map (fun s => s.2)) ++ K0
/-- One operation after the other, in the order that is given. -/
def zHM (P : Program) (fn : Func) (c : Ctx) (H : zZ) (all : Array Oper) (K0 : Fr) : List Nat → Steps → (Steps → Prop) → Prop
 | [], st, G => G st
 | i :: r, st, G => ∃ o d v, all[i]? = some o ∧ o.dst = some d ∧ zA0 P fn c H all (zH7 st K0 o) o d v ∧ zHM P fn c H all K0 r ((i, d, v) :: st) G
theorem zPR {all : Array Oper} {K0 : Fr} {i : Nat} {r : List Nat} {st : Steps} {G : Steps → Prop} {d : Nat} {op : Op} {ty : TypeId} {pos : String} {after : Array Edge} {v : AV} (hi : all[i]? = some ⟨some d, op, ty, pos, after, none⟩)
   (hop : zA0 P fn c H all (zH7 st K0 ⟨some d, op, ty, pos, after, none⟩) ⟨some d, op, ty, pos, after, none⟩ d v) (h : zHM P fn c H all K0 r ((i, d, v) :: st) G) : zHM P fn c H all K0 (i :: r) st G :=
 ⟨_, _, _, hi, rfl, hop, h⟩
theorem zU {all : Array Oper} {K0 : Fr} {i : Nat} {r : List Nat} {st : Steps} {G : Steps → Prop} {d : Nat} {op : Op} {ty : TypeId} {pos : String} {after : Array Edge} {v : AV} {K : Fr} (hi : all[i]? = some ⟨some d, op, ty, pos, after, none⟩)
   (hK : zH7 st K0 ⟨some d, op, ty, pos, after, none⟩ = K) (hop : QOp false P fn c K H ⟨some d, op, ty, pos, after, none⟩ v) (h : zHM P fn c H all K0 r ((i, d, v) :: st) G) : zHM P fn c H all K0 (i :: r) st G :=
 zPR hi (hK ▸ pure_q hop) h
theorem zBR {all : Array Oper} {K0 : Fr} {i : Nat} {r : List Nat} {st : Steps} {G : Steps → Prop} {d : Nat} {g : Operand} {args : List Operand} {ats : Array TypeId} {ty : TypeId} {pos : String} {after : Array Edge} {f : FuncId} {caps ags ags' : List AV} {v : AV} {K : Fr} (hi : all[i]? = some ⟨some d, .call { callee := .value g, args := args.toArray, argTypes := ats }, ty, pos, after, none⟩)
   (hK : zH7 st K0 ⟨some d, .call { callee := .value g, args := args.toArray, argTypes := ats }, ty, pos, after, none⟩ = K) (hg : ev K g = some (.fn f caps)) (ha : evs K args = some ags) (has : ags ++ caps = ags') (hcall : zW P f ags' v)
   (h : zHM P fn c H all K0 r ((i, d, v) :: st) G) : zHM P fn c H all K0 (i :: r) st G :=
 zPR hi (hK ▸ pure_v hg ha has hcall) h
theorem zD3 {all : Array Oper} {K0 : Fr} {i : Nat} {r : List Nat} {st : Steps} {G : Steps → Prop} {d : Nat} {op : Op} {ty : TypeId} {pos : String} {after : Array Edge} {v : AV} {K : Fr} {j t : Nat} {p : Bool} (hi : all[i]? = some ⟨some d, op, ty, pos, after, some (j, p)⟩)
   (hK : zH7 st K0 ⟨some d, op, ty, pos, after, some (j, p)⟩ = K) (hy : zFs all j = some t) (hb : zA5 t K = some (.bool p)) (hop : QOp false P fn c K H ⟨some d, op, ty, pos, after, none⟩ v) (h : zHM P fn c H all K0 r ((i, d, v) :: st) G) : zHM P fn c H all K0 (i :: r) st G :=
 ⟨_, _, _, hi, rfl, hK ▸ zLn hy hb (pure_q hop), h⟩
theorem zCg {all : Array Oper} {K0 : Fr} {i : Nat} {r : List Nat} {st : Steps} {G : Steps → Prop} {d : Nat} {op : Op} {ty : TypeId} {pos : String} {after : Array Edge} {K : Fr} {j t : Nat} {p b : Bool} (hi : all[i]? = some ⟨some d, op, ty, pos, after, some (j, p)⟩)
   (hK : zH7 st K0 ⟨some d, op, ty, pos, after, some (j, p)⟩ = K) (hy : zFs all j = some t) (hb : zA5 t K = some (.bool b)) (hne : (b == p) = false) (h : zHM P fn c H all K0 r ((i, d, .tup []) :: st) G) : zHM P fn c H all K0 (i :: r) st G :=
 ⟨_, _, _, hi, rfl, hK ▸ pure_gno hy hb hne, h⟩
theorem zAZ {all : Array Oper} {K0 : Fr} {st : Steps} {G : Steps → Prop} (h : G st) : zHM P fn c H all K0 [] st G := h
/-- What the steps tell. -/
def zIW (P : Program) (fn : Func) (c : Ctx) (H : zZ) (all : Array Oper) (K0 : Fr) (st : Steps) (s : Nat × Nat × AV) : Prop :=
 ∃ o K, all[s.1]? = some o ∧ o.dst = some s.2.1 ∧ zA0 P fn c H all K o s.2.1 s.2.2 ∧ ∀ p ∈ K, p ∈ K0 ∨ ∃ s' ∈ st, (∃ e ∈ o.after, Region.binds .any e = true ∧ e.on = s'.1) ∧ s'.2 = p
theorem zIW.mono {all : Array Oper} {K0 : Fr} {st st' : Steps} {s : Nat × Nat × AV} (hs : ∀ x ∈ st, x ∈ st') (h : zIW P fn c H all K0 st s) : zIW P fn c H all K0 st' s := by
 obtain ⟨o, K, h1, h2, h3, h4⟩ := h
 refine ⟨o, K, h1, h2, h3, fun p hp => ?_⟩
 rcases h4 p hp with q | ⟨s', q1, q2⟩
 · exact .inl q
 · exact .inr ⟨s', hs _ q1, q2⟩
theorem zK1 {all : Array Oper} {K0 : Fr} {G : Steps → Prop} : ∀ {idx : List Nat} {st : Steps}, zHM P fn c H all K0 idx st G → (∀ s ∈ st, zIW P fn c H all K0 st s) → ∃ st', G st' ∧ st'.map (·.1) = idx.reverse ++ st.map (·.1) ∧ (∀ s ∈ st', zIW P fn c H all K0 st' s)
 | [], st, h, hs => ⟨st, h, by simp, hs⟩
 | i :: r, st, h, hs => by
   obtain ⟨o, d, v, h1, h2, h3, h4⟩ := h
   have hsub : ∀ x ∈ st, x ∈ (i, d, v) :: st := fun x hx => List.mem_cons_of_mem _ hx
   have hstep : zIW P fn c H all K0 ((i, d, v) :: st) (i, d, v) := by
     refine ⟨o, zH7 st K0 o, h1, h2, h3, fun p hp => ?_⟩
     unfold zH7 at hp
     rcases List.mem_append.1 hp with q | q
     · obtain ⟨s, q1, q2⟩ := List.mem_map.1 q
       obtain ⟨q3, q4⟩ := List.mem_filter.1 q1
       obtain ⟨e, q5, q6⟩ := List.any_eq_true.1 q4
       rw [Bool.and_eq_true] at q6
       exact .inr ⟨s, hsub _ q3, ⟨e, Array.mem_toList_iff.1 q5, q6.2, Nat.eq_of_beq_eq_true q6.1⟩, q2⟩
     · exact .inl q
   obtain ⟨st', g1, g2, g3⟩ := zK1 h4 (fun s hs' => by
     rcases List.mem_cons.1 hs' with rfl | q
     · exact hstep
     · exact (hs s q).mono hsub)
   exact ⟨st', g1, by rw [g2]; simp, g3⟩
theorem zPY {all : Array Oper} {fuel : Nat} {listed : Array Bool} : ∀ {is : List Nat}, (∀ i ∈ is, ∀ o, all[i]? = some o → Ax P fn c (.ops false all [o] (.any all fuel (listed.setIfInBounds i true) :: k)) fr H) → AllR P fn c all fuel listed k fr H is
 | [], _ => trivial
 | i :: r, h => ⟨h i (by simp), zPY (fun j hj => h j (by simp [hj]))⟩
/-- May these operations run in any order, ahead of all others? -/
def okRun (all : Array Oper) (listed : Array Bool) (idx : List Nat) (k0 : List Nat) : Bool :=
 (idx.all fun i => !listed.getD i true && (match all[i]? with
   | some o => (match o.dst with | some d => !k0.contains d | none => false) && o.after.toList.all (fun e => !Region.binds .any e || (Nat.blt e.on i && (idx.contains e.on || listed.getD e.on false)))
   | none => false)) &&
 ((List.range all.size).all fun j => idx.contains j || listed.getD j true || (match all[j]? with
   | some o => idx.all (fun i => o.after.toList.any (fun e => Nat.beq e.on i && Region.binds .any e))
   | none => true)) &&
 (idx.all fun i => idx.all fun j => Nat.beq i j || !(match all[i]?, all[j]? with | some o, some o' => o.dst == o'.dst | _, _ => false))
def zHm (listed : Array Bool) (idx : List Nat) : Array Bool := idx.foldl (fun a i => a.setIfInBounds i true) listed
theorem zI8 : ∀ (idx : List Nat) (listed : Array Bool), (zHm listed idx).size = listed.size
 | [], _ => have _pin := (inferInstance : Pins); rfl
 | i :: r, listed => by
   have := zI8 r (listed.setIfInBounds i true)
   simpa [zHm] using this
theorem zKc : ∀ (idx : List Nat) (listed : Array Bool) (j : Nat), j < listed.size → (zHm listed idx)[j]? = if j ∈ idx then some true else listed[j]?
 | [], _, j, _ => have _pin := (inferInstance : Pins); by simp [zHm]
 | i :: r, listed, j, hj => by
   have h := zKc r (listed.setIfInBounds i true) j (by simpa using hj)
   have e : zHm listed (i :: r) = zHm (listed.setIfInBounds i true) r := rfl
   rw [e, h]
   by_cases h1 : j ∈ r
   · simp [h1]
   · by_cases h2 : i = j
     · subst h2; simp [h1, hj]
     · have h3 : ¬ j = i := fun e => h2 e.symm
       simp [h1, h2, h3, Array.getElem?_setIfInBounds]
def unl (cur : Array Bool) (st : Steps) : Nat := (st.filter (fun s => !cur.getD s.1 true)).length
theorem zt {all : Array Oper} {fuel : Nat} {listed listed' : Array Bool} (idx : List Nat) (K0 : Fr) (hK : zCi fr K0) (hok : okRun all listed idx (K0.map (·.1)) = true) (hnd : idx.Nodup) (hd : zDj fn.ntmps all.toList = true) (hl : zHm listed idx = listed')
   (h : zHM P fn c H all K0 idx [] (fun st => Ax P fn c (.any all fuel listed' k) (st.map (·.2) ++ K0) H)) : Ax P fn c (.any all (fuel + idx.length) listed k) fr H := by
 obtain ⟨st, hG, hidx, hst⟩ := zK1 h (fun s hs => by simp at hs)
 rw [List.map_nil, List.append_nil] at hidx
 clear h
 unfold okRun at hok
 simp only [Bool.and_eq_true] at hok
 obtain ⟨⟨ok1, ok2⟩, ok3⟩ := hok
 rw [List.all_eq_true] at ok1 ok2 ok3
 have hmem : ∀ i, i ∈ idx ↔ ∃ s ∈ st, s.1 = i := fun i => by
   have : i ∈ idx.reverse ↔ ∃ s ∈ st, s.1 = i := by rw [← hidx]; simp
   rw [← this, List.mem_reverse]
 have hlen : st.length = idx.length := by
   have := congrArg List.length hidx
   simpa using this
 have hnd' : (st.map (·.1)).Nodup := by rw [hidx]; exact (List.reverse_perm idx).nodup_iff.2 hnd
 have hlt : ∀ i ∈ idx, i < listed.size := fun i hi => by
   have := ok1 i hi
   simp only [Bool.and_eq_true, Bool.not_eq_true'] at this
   rcases Nat.lt_or_ge i listed.size with q | q
   · exact q
   · have h1 := this.1
     simp only [Array.getD, show ¬ i < listed.size by omega, dite_false] at h1
     cases h1
 -- the induction
 have key : ∀ (m : Nat) (cur : Array Bool) (fr : Fr), cur.size = listed.size → (∀ j, j ∉ idx → cur[j]? = listed[j]?) → unl cur st = m → (∀ s ∈ st, cur.getD s.1 true = true → zA5 s.2.1 fr = some s.2.2) → zCi fr K0 → Ax P fn c (.any all (fuel + m) cur k) fr H := by
   intro m
   induction m with
   | zero =>
     intro cur fr hcs hco hcm hck hk0
     have hall : ∀ s ∈ st, cur.getD s.1 true = true := fun s hs => by
       cases hq : cur.getD s.1 true with
       | true => rfl
       | false =>
         exfalso
         have h0 : st.filter (fun s => !cur.getD s.1 true) = [] := List.length_eq_zero_iff.1 hcm
         have : s ∈ st.filter (fun s => !cur.getD s.1 true) := List.mem_filter.2 ⟨hs, by rw [hq]; rfl⟩
         rw [h0] at this; simp at this
     have hcur : cur = listed' := by
       rw [← hl]
       apply Array.ext_getElem?
       intro j
       rcases Nat.lt_or_ge j listed.size with q | q
       · rw [zKc idx listed j q]
         by_cases hj : j ∈ idx
         · rw [if_pos hj]
           obtain ⟨s, hs1, hs2⟩ := (hmem j).1 hj
           have := hall s hs1
           rw [hs2] at this
           simp only [Array.getD, show j < cur.size by omega, dite_true] at this
           rw [Array.getElem?_eq_getElem (by omega)]
           exact congrArg some this
         · rw [if_neg hj]; exact hco j hj
       · rw [Array.getElem?_eq_none (by omega), Array.getElem?_eq_none (by rw [zI8]; omega)]
     subst hcur
     intro w a σ S hr
     refine hG w a σ S (hr.weaken (zHt fun p hp => ?_))
     rcases List.mem_append.1 hp with q | q
     · obtain ⟨s, q1, q2⟩ := List.mem_map.1 q
       rw [← q2]; exact hck s q1 (hall s q1)
     · exact zIH hk0 p q
   | succ m ih =>
     intro cur fr hcs hco hcm hck hk0
     -- some step is left
     obtain ⟨s0, hs0, hs0u⟩ : ∃ s ∈ st, cur.getD s.1 true = false := by
       rcases hq : st.filter (fun s => !cur.getD s.1 true) with _ | ⟨s, r⟩
       · unfold unl at hcm; rw [hq] at hcm; simp at hcm
       · have : s ∈ st.filter (fun s => !cur.getD s.1 true) := by rw [hq]; simp
         obtain ⟨h1, h2⟩ := List.mem_filter.1 this
         exact ⟨s, h1, by simpa using h2⟩
     have hsub : ∀ i ∈ Region.ready .any all cur, i ∈ idx ∧ cur.getD i true = false := by
       intro i hi
       obtain ⟨h1, o, ho, hdeps⟩ := mem_ready.1 hi
       refine ⟨?_, h1⟩
       apply Classical.byContradiction
       intro hni
       have hjs : i < all.size := (Array.getElem?_eq_some_iff.1 ho).1
       have := ok2 i (List.mem_range.2 hjs)
       simp only [Bool.or_eq_true, ho] at this
       rcases this with (q | q) | q
       · exact hni (by simpa using q)
       · have hco' := hco i hni
         have h2 : listed.getD i true = cur.getD i true := by
           simp only [Array.getD_eq_getD_getElem?, hco']
         rw [h2, h1] at q; cases q
       · rw [List.all_eq_true] at q
         have := q s0.1 ((hmem s0.1).2 ⟨s0, hs0, rfl⟩)
         obtain ⟨e, he1, he2⟩ := List.any_eq_true.1 this
         rw [Bool.and_eq_true] at he2
         have h3 := hdeps e (Array.mem_toList_iff.1 he1) he2.2
         rw [Nat.eq_of_beq_eq_true he2.1] at h3
         have hsz := hlt s0.1 ((hmem s0.1).2 ⟨s0, hs0, rfl⟩)
         simp only [Array.getD, show s0.1 < cur.size by omega, dite_true] at h3 hs0u
         rw [h3] at hs0u; cases hs0u
     have hne : Region.ready .any all cur ≠ [] := by
       intro h0
       -- the least one that is left
       have hex : ∃ i, i ∈ idx ∧ cur.getD i true = false := ⟨s0.1, (hmem s0.1).2 ⟨s0, hs0, rfl⟩, hs0u⟩
       have least : ∀ n i, i ≤ n → i ∈ idx → cur.getD i true = false → False := by
         intro n
         induction n with
         | zero =>
           intro i hi him hiu
           have h1 := ok1 i him
           simp only [Bool.and_eq_true] at h1
           cases hoo : all[i]? with
           | none => rw [hoo] at h1; exact absurd h1.2 (by simp)
           | some o =>
             rw [hoo] at h1
             simp only [Bool.and_eq_true] at h1
             have h2 := List.all_eq_true.1 h1.2.2
             have : i ∈ Region.ready .any all cur := mem_ready.2 ⟨hiu, o, hoo, fun e he hb => by
               have := h2 e (Array.mem_toList_iff.2 he)
               rw [hb] at this
               simp only [Bool.not_true, Bool.false_or, Bool.and_eq_true] at this
               have := Nat.le_of_ble_eq_true this.1
               omega⟩
             rw [h0] at this; simp at this
         | succ n ihn =>
           intro i hi him hiu
           have h1 := ok1 i him
           simp only [Bool.and_eq_true] at h1
           cases hoo : all[i]? with
           | none => rw [hoo] at h1; exact absurd h1.2 (by simp)
           | some o =>
             rw [hoo] at h1
             simp only [Bool.and_eq_true] at h1
             have h2 := List.all_eq_true.1 h1.2.2
             have : i ∈ Region.ready .any all cur := mem_ready.2 ⟨hiu, o, hoo, fun e he hb => by
               have h3 := h2 e (Array.mem_toList_iff.2 he)
               rw [hb] at h3
               simp only [Bool.not_true, Bool.false_or, Bool.and_eq_true, Bool.or_eq_true] at h3
               have hlt' : e.on < i := Nat.le_of_ble_eq_true h3.1
               by_cases hei : e.on ∈ idx
               · cases hq : cur.getD e.on true with
                 | false => exact (ihn e.on (by omega) hei hq).elim
                 | true =>
                   have hsz := hlt e.on hei
                   simp only [Array.getD, show e.on < cur.size by omega, dite_true] at hq ⊢
                   exact hq
               · rcases h3.2 with q | q
                 · exact absurd (by simpa using q) hei
                 · have h2 : cur.getD e.on false = listed.getD e.on false := by simp only [Array.getD_eq_getD_getElem?, hco e.on hei]
                   rw [h2]; exact q⟩
             rw [h0] at this; simp at this
       obtain ⟨i, hi1, hi2⟩ := hex
       exact least i i (Nat.le_refl _) hi1 hi2
     refine zF Y hne hd (zPY (fun i hi o ho => ?_))
     obtain ⟨him, hiu⟩ := hsub i hi
     obtain ⟨s, hs1, hs2⟩ := (hmem i).1 him
     obtain ⟨o', K, g1, g2, g3, g4⟩ := hst s hs1
     rw [hs2, ho] at g1
     obtain rfl := Option.some.inj g1
     obtain ⟨_, o2, ho2, hdeps⟩ := mem_ready.1 hi
     rw [ho] at ho2
     obtain rfl := Option.some.inj ho2
     refine g3 _ fr (zHt fun p hp => ?_) (zC (zo ?_))
     · rcases g4 p hp with q | ⟨s', q1, ⟨e, q2, q3, q4⟩, q5⟩
       · exact zIH hk0 p q
       · have h1 := hdeps e q2 q3
         rw [q4] at h1
         rw [← q5]
         refine hck s' q1 ?_
         have hsz := hlt s'.1 ((hmem s'.1).2 ⟨s', q1, rfl⟩)
         simp only [Array.getD, show s'.1 < cur.size by omega, dite_true] at h1 ⊢
         exact h1
     · have hisz := hlt i him
       refine ih (cur.setIfInBounds i true) _ (by simpa using hcs) (fun j hj => ?_) ?_ (fun s' hs' hu => ?_) ?_
       · rw [Array.getElem?_setIfInBounds_ne (show i ≠ j from fun e => hj (e ▸ him))]; exact hco j hj
       · -- one less
         have hf : st.filter (fun s' => !(cur.setIfInBounds i true).getD s'.1 true) = (st.filter (fun s' => !cur.getD s'.1 true)).filter (fun s' => decide (s'.1 ≠ i)) := by
           rw [List.filter_filter]
           congr 1
           funext s'
           by_cases hq : s'.1 = i
           · rw [hq]; simp [Array.getD, show i < cur.size by omega]
           · have hq' : ¬ i = s'.1 := fun e => hq e.symm
             simp [Array.getD_eq_getD_getElem?, Array.getElem?_setIfInBounds, hq, hq']
         unfold unl at hcm ⊢
         rw [hf]
         have hmemf : s ∈ st.filter (fun s' => !cur.getD s'.1 true) := List.mem_filter.2 ⟨hs1, by rw [hs2, hiu]; rfl⟩
         have hndf : ((st.filter (fun s' => !cur.getD s'.1 true)).map (·.1)).Nodup := List.Nodup.sublist (List.Sublist.map _ List.filter_sublist) hnd'
         revert hcm hmemf hndf
         generalize st.filter (fun s' => !cur.getD s'.1 true) = L
         intro hcm hmemf hndf
         have gen : ∀ (L : Steps) (n : Nat), L.length = n + 1 → s ∈ L → (L.map (·.1)).Nodup → (L.filter (fun s' => decide (s'.1 ≠ i))).length = n := by
           intro L
           induction L with
           | nil => intro n h; simp at h
           | cons x r ihL =>
             intro n hn hm hnd
             simp only [List.map_cons, List.nodup_cons] at hnd
             rcases List.mem_cons.1 hm with rfl | hm
             · have hno : ∀ y ∈ r, y.1 ≠ i := fun y hy e => hnd.1 (List.mem_map.2 ⟨y, hy, by rw [e, hs2]⟩)
               have : (r.filter (fun s' => decide (s'.1 ≠ i))) = r := List.filter_eq_self.2 (fun y hy => by simpa using hno y hy)
               rw [List.filter_cons_of_neg (by simp [hs2]), this]
               simpa using hn
             · have hx : x.1 ≠ i := fun e => hnd.1 (List.mem_map.2 ⟨s, hm, by rw [hs2, e]⟩)
               have hr0 : 0 < r.length := List.length_pos_iff.2 (by rintro rfl; simp at hm)
               obtain ⟨n', rfl⟩ : ∃ n', n = n' + 1 := ⟨n - 1, by simp at hn; omega⟩
               rw [List.filter_cons_of_pos (by simpa using hx), List.length_cons, ihL n' (by simpa using hn) hm hnd.2]
         exact gen L m hcm hmemf hndf
       · by_cases hq : s'.1 = i
         · have : s' = s := by
             have h1 : s ∈ st := hs1
             have hinj : ∀ (L : Steps), (L.map (·.1)).Nodup → ∀ x ∈ L, ∀ y ∈ L, x.1 = y.1 → x = y := by
               intro L
               induction L with
               | nil => intro _ x hx; simp at hx
               | cons z r ihL =>
                 intro hnd x hx y hy hxy
                 simp only [List.map_cons, List.nodup_cons] at hnd
                 rcases List.mem_cons.1 hx with hx | hx <;> rcases List.mem_cons.1 hy with hy | hy
                 · rw [hx, hy]
                 · exact absurd (List.mem_map.2 ⟨y, hy, by rw [← hxy, hx]⟩) hnd.1
                 · exact absurd (List.mem_map.2 ⟨x, hx, by rw [hxy, hy]⟩) hnd.1
                 · exact ihL hnd.2 x hx y hy hxy
             exact hinj st hnd' s' hs' s hs1 (by rw [hq, hs2])
           rw [this]
           exact zQJ _ _ _
         · have h1 : cur.getD s'.1 true = true := by
             have hq' : ¬ i = s'.1 := fun e => hq e.symm
             simpa [Array.getD_eq_getD_getElem?, Array.getElem?_setIfInBounds, hq'] using hu
           have h2 := hck s' hs' h1
           -- another slot
           have hne2 : s'.2.1 ≠ s.2.1 := by
             intro e
             obtain ⟨o3, _, f1, f2, _, _⟩ := hst s' hs'
             have h3 := List.all_eq_true.1 (ok3 s'.1 ((hmem s'.1).2 ⟨s', hs', rfl⟩)) i him
             rw [f1, ho] at h3
             simp only [Bool.or_eq_true, Bool.not_eq_true', f2, g2] at h3
             rcases h3 with h3 | h3
             · exact hq (Nat.eq_of_beq_eq_true h3)
             · rw [e] at h3; simp at h3
           show (bif Nat.beq s'.2.1 s.2.1 then some s.2.2 else zA5 s'.2.1 fr) = _
           rw [zB5 hne2]; exact h2
       · refine zHt fun p hp => ?_
         have h1 := ok1 i him
         simp only [Bool.and_eq_true] at h1
         rw [ho] at h1
         simp only [g2, Bool.and_eq_true, Bool.not_eq_true'] at h1
         have hne3 : p.1 ≠ s.2.1 := by
           intro e
           have : (K0.map (·.1)).contains s.2.1 = true := by
             rw [List.contains_iff_mem]
             exact List.mem_map.2 ⟨p, hp, e⟩
           rw [h1.2.1] at this; cases this
         show (bif Nat.beq p.1 s.2.1 then some s.2.2 else zA5 p.1 fr) = _
         rw [zB5 hne3]; exact zIH hk0 p hp
 have hm0 : unl listed st = idx.length := by
   unfold unl
   rw [List.filter_eq_self.2 (fun s hs => ?_), hlen]
   have := ok1 s.1 ((hmem s.1).2 ⟨s, hs, rfl⟩)
   simp only [Bool.and_eq_true] at this
   exact this.1
 have := key idx.length listed fr rfl (fun _ _ => rfl) hm0 (fun s hs hu => by
   have h1 := ok1 s.1 ((hmem s.1).2 ⟨s, hs, rfl⟩)
   simp only [Bool.and_eq_true, Bool.not_eq_true'] at h1
   rw [h1.1] at hu; cases hu) hK
 exact this
variable {ind : Bool} {d : Option Nat} {ty : TypeId} {pos : String} {after : Array Edge} {g : Option (Nat × Bool)}
/-- Reading a part of a variable that is a struct. -/
theorem zn {x : Operand} {t : TypeId} {u : TypeDesc} {h i j : Nat} {ob : AObj} {inf : TypeInfo} {L : List AV} (ht : P.underlying t = some u) (hu : zCS u = true) (hinf : P.info? t = some inf) (hsz : Nat.ble (j + inf.size) ob.c.sz = true) (hx : ev fr x = some (.ptr h i j)) (hh : H[h]? = some (some ob))
   (hL : (List.range inf.size).map (fun e => ob.c.at i (j + e)) = L) (hi : i < ob.c.len) : QOp false P fn c fr H ⟨d, .load t x, ty, pos, after, g⟩ (.agg L) := by
 intro w a σ S hr
 have h1 := hr.evAt hx
 subst hL
 have hsz' := Nat.le_of_ble_eq_true hsz
 generalize hz : a.eval x = z at h1
 cases h1 with
 | ptr _ _ _ _ b s C hσ =>
   obtain ⟨hs', cur, g1, g2, g3, g4, g5, g6⟩ := hr.obj hh hσ
   subst hs'
   have hcell : ∀ w' : World, w'.heap = w.heap → ∀ e, e < inf.size → ∃ y, w'.cell? ⟨b, i * ob.c.sz + j + e, none⟩ = some y ∧ VR w S σ (ob.c.at i (j + e)) y ∧ y.oneCell' = true := by
     intro w' hw e he
     obtain ⟨y, e1, e2, e3⟩ := g6 i (j + e) hi (by omega)
     obtain ⟨mk, g1, _, _⟩ := g1.cells (by omega)
     exact ⟨y, by simp [World.cell?, hw, g1, Nat.add_assoc, e1], e2, e3⟩
   let cs : List Value := (List.range inf.size).map (fun e => (w.cell? ⟨b, i * ob.c.sz + j + e, none⟩).getD undef)
   refine ⟨.agg cs.toArray, .agg _ _ _ (by simp [cs]) (fun e he => ?_) (fun e he => ?_), fun w' hw => ?_⟩
   · have he' : e < inf.size := by simpa using he
     obtain ⟨y, e1, e2, _⟩ := hcell w rfl e he'
     simpa [cs, Array.getD, he', e1, List.getD] using e2
   · have he' : e < inf.size := by simpa using he
     obtain ⟨y, e1, _, e3⟩ := hcell w rfl e he'
     simpa [cs, Array.getD, he', e1] using e3
   · have hw := hw.resolve_left (by decide)
     have hl := run_loadCells_list (P := P) w' ⟨b, i * ob.c.sz + j, none⟩ cs (fun e v hv => by
       have he : e < inf.size := by simpa [cs] using (List.getElem?_eq_some_iff.1 hv).1
       obtain ⟨y, e1, _, _⟩ := hcell w rfl e he
       simp only [cs, List.getElem?_map, List.getElem?_range he, Option.map_some, Option.some.injEq] at hv
       subst hv
       rw [e1, Addr.add_lit]
       have := World.cell?_of_block (w := w) (w' := w') (a := ⟨b, i * ob.c.sz + j + e, none⟩) (by rw [hw])
       rw [this, e1]; rfl)
     have hcl : cs.length = inf.size := by simp [cs]
     rw [hcl] at hl
     have hz' : a.eval x = .pointer (some ⟨b, i * ob.c.sz + j, none⟩) := by rw [hz]
     simp [execOp, hz', Instr.loadAt, Instr.sureAddr, loadVar, zDg ht, hu, sizeOf, typeInfo, hinf, hl]
end
end Go.Ax
namespace Go.Ax
variable [Pins]
open Go.RowKit
section
variable {ind : Bool} {P : Program} {fn : Func} {c : Ctx} {fr : Fr} {H : zZ} {k : List It}
variable {d : Option Nat} {ty : TypeId} {pos : String} {after : Array Edge} {g : Option (Nat × Bool)}
end
end Go.Ax
namespace Go.Ax
variable [Pins]
open Go.RowKit
mutual
/-- The objects stand behind N others. -/
def AV.shift (N : Nat) : AV → AV
 | .sl h i n => .sl (h + N) i n
 | .ptr h i j => .ptr (h + N) i j
 | .fn f l => .fn f (AV.shifts N l)
 | .agg l => .agg (AV.shifts N l)
 | .tup l => .tup (AV.shifts N l)
 | .mp h => .mp (h + N)
 | v => v
def AV.shifts (N : Nat) : List AV → List AV
 | [] => []
 | v :: r => v.shift N :: AV.shifts N r
end
def Cells.shift (N : Nat) : Cells → Cells
 | .ints k l => .ints k l
 | .strs l => .strs l
 | .box l => .box (AV.shifts N l)
 | .mp ks vs => .mp (AV.shifts N ks) (AV.shifts N vs)
 | .fn n s f => .fn n s (fun i j => (f i j).shift N)
section
variable {P : Program} {fn : Func} {c : Ctx} {fr : Fr} {H : zZ} {k : List It} {all : Array Oper} {d : Nat} {g : Operand} {args : List Operand} {ats : Array TypeId} {ty : TypeId} {pos : String} {after : Array Edge} {rest : List Oper} {f : FuncId}
end
mutual
theorem zMz : ∀ (x : AV), noRef x = true → ∀ N, x.shift N = x
 | .int _ _, _, _ => rfl
 | .bool _, _, _ => rfl
 | .str _, _, _ => rfl
 | .nil, _, _ => rfl
 | .ro _ _ _, _, _ => rfl
 | .sl _ _ _, h, _ => by simp [noRef] at h
 | .rp _ _ _, _, _ => rfl
 | .ptr _ _ _, h, _ => by simp [noRef] at h
 | .nilp, _, _ => rfl
 | .fn f l, h, N => by
   have _pin := (inferInstance : Pins)
   simp only [AV.shift]; rw [zEM l (by simpa [noRef] using h) N]
 | .nilfn, _, _ => rfl
 | .iface, _, _ => rfl
 | .nilif, _, _ => rfl
 | .agg l, h, N => by simp only [AV.shift]; rw [zEM l (by simpa [noRef] using h) N]
 | .tup l, h, N => by simp only [AV.shift]; rw [zEM l (by simpa [noRef] using h) N]
 | .mp _, h, _ => by simp [noRef] at h
 | .rom _ _, _, _ => rfl
 | .any, _, _ => rfl
theorem zEM : ∀ (l : List AV), noRef.noRefs l = true → ∀ N, AV.shifts N l = l
 | [], _, _ => rfl
 | v :: r, h, N => by
   have _pin := (inferInstance : Pins)
   simp only [noRef.noRefs, Bool.and_eq_true] at h
   simp only [AV.shifts]
   rw [zMz v h.1 N, zEM r h.2 N]
end
end Go.Ax
namespace Go.Ax
variable [Pins]
open Go.RowKit
section
variable {α : Type} {O : AObj} {t : TypeId} {f : α → Cells} {X : List α} {L : zZ}
end
section
variable {ind : Bool} {P : Program} {fn : Func} {c : Ctx} {fr : Fr} {H : zZ} {k : List It}
variable {d : Option Nat} {ty : TypeId} {pos : String} {after : Array Edge} {g : Option (Nat × Bool)}
end
end Go.Ax
namespace Go.Ax
variable [Pins]
open Go.RowKit
/-- What keys a map has. -/
inductive KSort where
 | int (k : IntKind)
 | str
 | pair (k : IntKind)
inductive KV : KSort → Value → Prop
 | int (k n) : KV (.int k) (.int k n)
 | str (s) : KV .str (.string s)
 | pair (k a b) : KV (.pair k) (.agg #[.int k a, .int k b])
inductive KFit (P : Program) (kt : TypeId) : KSort → Prop
 | int {k} (h : P.underlying kt = some (.int k)) : KFit P kt (.int k)
 | str (h : P.underlying kt = some .string) : KFit P kt .str
 | pair {k e} (h : P.underlying kt = some (.array 2 e)) (he : P.underlying e = some (.int k)) (h1 : (P.info? e).map (·.size) = some 1) : KFit P kt (.pair k)
theorem KV.isKey {s : KSort} {v : Value} (hv : KV s v) : (∀ k, s = .int k → MapKept.IsKey (.int k) v) ∧ (s = .str → MapKept.IsKey .string v) := by
 have _pin := (inferInstance : Pins)
 cases hv
 · refine ⟨fun k h => ?_, fun h => ?_⟩
   · cases h; trivial
   · cases h
 · refine ⟨fun k h => ?_, fun h => ?_⟩
   · cases h
   · trivial
 · refine ⟨fun k h => ?_, fun h => ?_⟩
   · cases h
   · cases h
section
variable {P : Program} {kt : TypeId} {s : KSort}
theorem zFC {e : TypeId} {q : IntKind} (he : P.underlying e = some (.int q)) (w : World) (cs : Array Value) (o : Nat) {v : Value} (hv : cs[o]? = some v) : (part e cs o).run P w = .ok v w := by
 have _pin := (inferInstance : Pins)
 simp [part, isAgg, Sem.run_bind, run_underlying he, hv]
theorem zLH {e : TypeId} {q : IntKind} (h : P.underlying kt = some (.array 2 e)) (he : P.underlying e = some (.int q)) (h1 : (P.info? e).map (·.size) = some 1) (w : World) (a b c d : Int) :
   (Op.equal kt (.agg #[.int q a, .int q b]) (.agg #[.int q c, .int q d])).run P w = .ok (decide (a = c ∧ b = d)) w := by
 have _pin := (inferInstance : Pins)
 have p0 : ∀ x y : Int, (part e #[.int q x, .int q y] 0).run P w = .ok (.int q x) w := fun x y => zFC he w _ 0 rfl
 have p1 : ∀ x y : Int, (part e #[.int q x, .int q y] 1).run P w = .ok (.int q y) w := fun x y => zFC he w _ 1 rfl
 have z0 : (sizeOf e).run P w = .ok 1 w := zHA h1
 have e0 : ∀ x y : Int, (Op.equalIn 9999 e (.int q x) (.int q y)).run P w = .ok (x == y) w := fun x y => run_equalIn_int w 9998 e q q x y he
 unfold Op.equal Op.maxDepth
 rw [show (10000 : Nat) = 9999 + 1 from rfl, Op.equalIn]
 simp only [Sem.run_bind, run_underlying h, Result.andThen_ok, zHA h1]
 simp only [Std.Legacy.Range.forIn_eq_forIn_range', Std.Legacy.Range.size, Nat.sub_zero, Nat.add_sub_cancel, Nat.div_one, List.range'_succ, List.range'_zero, List.forIn_cons, List.forIn_nil]
 simp [Sem.run_bind, Result.andThen, p0, p1, z0, e0]
 by_cases g1 : a = c <;> by_cases g2 : b = d <;> simp [g1, g2, Sem.run_bind, Result.andThen, p0, p1, z0, e0]
theorem zDu (hf : KFit P kt s) {v : Value} (hv : KV s v) (w : World) (em : Bool) : (Instr.checkKey em 10000 kt v).run P w = .ok () w := by
 have _pin := (inferInstance : Pins)
 cases hv with
 | int k n => cases hf with | int h => exact MapKept.run_checkKey h (by trivial) em 9999
 | str x => cases hf with | str h => exact MapKept.run_checkKey h (by trivial) em 9999
 | pair k a b =>
   cases hf with
   | pair h he h1 =>
     rename_i e
     have p0 : ∀ x y : Int, (part e #[.int k x, .int k y] 0).run P w = .ok (.int k x) w := fun x y => zFC he w _ 0 rfl
     have p1 : ∀ x y : Int, (part e #[.int k x, .int k y] 1).run P w = .ok (.int k y) w := fun x y => zFC he w _ 1 rfl
     have z0 : (sizeOf e).run P w = .ok 1 w := zHA h1
     have c0 : ∀ x : Int, (Instr.checkKey em 9999 e (.int k x)).run P w = .ok () w := fun x => MapKept.run_checkKey he (by trivial) em 9998
     rw [show (10000 : Nat) = 9999 + 1 from rfl, Instr.checkKey]
     simp only [Sem.run_bind, run_underlying h, Result.andThen_ok, zHA h1]
     simp only [Std.Legacy.Range.forIn_eq_forIn_range', Std.Legacy.Range.size, Nat.sub_zero, Nat.add_sub_cancel, Nat.div_one, List.range'_succ, List.range'_zero, List.forIn_cons, List.forIn_nil]
     simp [Sem.run_bind, Result.andThen, p0, p1, z0, c0]
theorem zEO (hf : KFit P kt s) {x : Value} (hx : KV s x) (w : World) (es : List MapEntry) (hes : ∀ e ∈ es, KV s e.key) :
   ((Instr.findKey kt x es).run P w = .ok none w ∧ ∀ e ∈ es, e.key ≠ x) ∨ ∃ j e, (Instr.findKey kt x es).run P w = .ok (some (j, e.val)) w ∧ es[j]? = some e ∧ e.key = x := by
 have _pin := (inferInstance : Pins)
 have flat : ∀ d, P.underlying kt = some d → MapKept.IsKey d x → (∀ e ∈ es, MapKept.IsKey d e.key) → ((Instr.findKey kt x es).run P w = .ok none w ∧ ∀ e ∈ es, e.key ≠ x) ∨ ∃ j e, (Instr.findKey kt x es).run P w = .ok (some (j, e.val)) w ∧ es[j]? = some e ∧ e.key = x := by
   intro d hd hk hks
   rcases MapKept.findNow_spec hk es 0 hks with ⟨h1, h2⟩ | ⟨j, e, h1, h2, h3⟩
   · exact .inl ⟨MapKept.run_findKey hd h1, h2⟩
   · exact .inr ⟨j, e, by rw [Nat.zero_add] at h1; exact MapKept.run_findKey hd h1, h2, h3⟩
 cases hf with
 | int h => exact flat _ h (hx.isKey.1 _ rfl) (fun e he => (hes e he).isKey.1 _ rfl)
 | str h => exact flat _ h (hx.isKey.2 rfl) (fun e he => (hes e he).isKey.2 rfl)
 | pair h he h1 =>
   rename_i k e
   have hnow : ∀ (l : List MapEntry), Instr.findNow (.array 2 e) x l 0 = none ∨ l = [] := by
     intro l
     cases l with
     | nil => exact .inr rfl
     | cons a r => left; cases hx; simp [Instr.findNow, Instr.sameNow]
   have hask : ∀ (l : List MapEntry) (i : Nat), (∀ e ∈ l, KV (.pair k) e.key) → ((Instr.findAsking kt x l i).run P w = .ok none w ∧ ∀ e ∈ l, e.key ≠ x) ∨ ∃ j e, (Instr.findAsking kt x l i).run P w = .ok (some (i + j, e.val)) w ∧ l[j]? = some e ∧ e.key = x := by
     intro l
     induction l with
     | nil => intro i _; exact .inl ⟨rfl, fun e he => by cases he⟩
     | cons y r ih =>
       intro i hl
       obtain ⟨yk, yv, yb⟩ := y
       have hy : KV (.pair k) yk := hl _ (List.mem_cons_self ..)
       cases hx with
       | pair _ a b =>
         cases hy with
         | pair _ c d =>
           have heq := zLH (P := P) h he h1 w a b c d
           by_cases hac : a = c ∧ b = d
           · obtain ⟨rfl, rfl⟩ := hac
             exact .inr ⟨0, _, by simp [Instr.findAsking, Sem.run_bind, heq, Result.andThen], Y, Y⟩
           · have hne : (Value.agg #[.int k c, .int k d]) ≠ .agg #[.int k a, .int k b] := by
               intro q; simp at q; exact hac ⟨q.1.symm, q.2.symm⟩
             rcases ih (i + 1) (fun e he => hl e (List.mem_cons_of_mem _ he)) with ⟨g1, g2⟩ | ⟨j, e', g1, g2, g3⟩
             · refine .inl ⟨by simp [Instr.findAsking, Sem.run_bind, heq, Result.andThen, hac, g1], fun e he => ?_⟩
               rcases List.mem_cons.1 he with rfl | he
               · exact hne
               · exact g2 e he
             · exact .inr ⟨j + 1, e', by simp [Instr.findAsking, Sem.run_bind, heq, Result.andThen, hac, g1]; omega, by simpa using g2, g3⟩
   have hrun : (Instr.findKey kt x es).run P w = (Instr.findAsking kt x es 0).run P w := by
     rcases hnow es with hn | rfl
     · simp [Instr.findKey, Sem.run_bind, run_underlying h, Result.andThen, hn]
     · simp [Instr.findKey, Sem.run_bind, run_underlying h, Result.andThen, Instr.findNow, Instr.findAsking]
   rw [hrun]
   rcases hask es 0 hes with h2 | ⟨j, e', g1, g2, g3⟩
   · exact .inl h2
   · exact .inr ⟨j, e', by rw [Nat.zero_add] at g1; exact g1, g2, g3⟩
theorem zQ9 {v : Value} (hv : KV s v) : Instr.sameBits 10000 v v = true := by
 have _pin := (inferInstance : Pins)
 cases hv with
 | int => simp [Instr.sameBits]
 | str => simp [Instr.sameBits]; exact (MapKept.bytes_beq _ _).2 rfl
 | pair => rw [show (10000 : Nat) = 9998 + 1 + 1 from rfl]; simp [Instr.sameBits]
theorem zOk {v : Value} (hv : KV s v) (w : World) : (Instr.keyThatStays v v).run P w = .ok v w := by
 have _pin := (inferInstance : Pins)
 simp [Instr.keyThatStays, zQ9 hv]
end
/-- Keys, told. -/
def zDP : KSort → AV → Bool
 | .int .i64, .int .i64 _ => true
 | .str, .str _ => true
 | .pair .i64, .agg [.int .i64 _, .int .i64 _] => true
 | _, _ => false
theorem zGb {s : KSort} {x : AV} (h : zDP s x = true) : ∃ u : Value, KV s u ∧ (∀ (w : World) (S : Nat → Prop) (σ : Nat → Option Blk) (v : Value), VR w S σ x v → v = u) ∧ (∀ y : AV, zDP s y = true → ∀ (w : World) (S : Nat → Prop) (σ : Nat → Option Blk), VR w S σ y u → y = x) := by
 have _pin := (inferInstance : Pins)
 unfold zDP at h
 split at h
 · rename_i n
   refine ⟨.int .i64 n, .int _ _, fun w S σ v hv => by cases hv; rfl, fun y hy w S σ hv => ?_⟩
   unfold zDP at hy
   split at hy <;> first | (cases hy; done) | (cases hv; rfl) | (rename_i q _; cases q; done) | (rename_i q; cases q; done) | skip
 · rename_i n
   refine ⟨zHO n, .str _, fun w S σ v hv => by cases hv; rfl, fun y hy w S σ hv => ?_⟩
   unfold zDP at hy
   split at hy <;> first | (cases hy; done) | (rename_i q _; cases q; done) | (rename_i q; cases q; done) | skip
   rename_i m _
   generalize hz : zHO n = z at hv
   cases hv
   unfold zHO at hz
   simp at hz
   rw [hz]
 · rename_i a b
   refine ⟨.agg #[.int .i64 a, .int .i64 b], .pair _ _ _, fun w S σ v hv => ?_, fun y hy w S σ hv => ?_⟩
   · cases hv with
     | agg _ _ vs hl hv h1 =>
       obtain ⟨l⟩ := vs
       have hl' : l.length = 2 := by simpa using hl
       match l, hl' with
       | [x, y], _ =>
         have q0 := hv 0 (by simp)
         have q1 := hv 1 (by simp)
         simp at q0 q1
         cases q0; cases q1; rfl
   · unfold zDP at hy
     split at hy <;> first | (cases hy; done) | (rename_i q _; cases q; done) | (rename_i q; cases q; done) | skip
     cases hv with
     | agg _ _ vs hl hv h1 =>
       have q0 := hv 0 (by simp)
       have q1 := hv 1 (by simp)
       simp at q0 q1
       cases q0; cases q1; rfl
 · cases h
/-- What a map holds. -/
def zNu (H : zZ) : AV → Option (List AV × List AV)
 | .mp h => match H[h]? with
   | some (some o) => match o.c with
     | .mp ks vs => some (ks, vs)
     | _ => none
   | _ => none
 | .rom ks vs => some (ks, vs)
 | _ => none
theorem Rep.map {c : Ctx} {w : World} {a : Act} {σ : Nat → Option Blk} {S : Nat → Prop} {n : Nat} {fr : Fr} {H : zZ} (hr : Rep c w a σ S n fr H) {x : AV} {v : Value} {ks vs : List AV} (hv : VR w S σ x v) (hm : zNu H x = some (ks, vs)) :
   ∃ b es clock, v = .map (some b) ∧ w.heap[b]? = some (.map es clock) ∧ es.size = ks.length ∧ vs.length = ks.length ∧ es.toList.Pairwise (fun x y => x.key ≠ y.key) ∧ ∀ i, i < ks.length → ∃ e, es[i]? = some e ∧ VR w S σ (ks.getD i .any) e.key ∧ VR w S σ (vs.getD i .any) e.val := by
 cases hv <;> simp only [zNu] at hm <;> try (cases hm; done)
 case mp h b hσ =>
   cases hq : H[h]? with
   | none => simp [hq] at hm
   | some oo => cases oo with
     | none => simp [hq] at hm
     | some o =>
       simp only [hq] at hm
       rcases hr.hr.live h o hq with ⟨hn, _⟩ | ⟨b', C', cur, hσ', g1, g2, g3, g4, g5, g6⟩
       · rw [hσ] at hn; cases hn
       · rw [hσ] at hσ'
         simp only [Option.some.injEq, Blk.at.injEq] at hσ'
         obtain ⟨rfl, hsz, rfl⟩ := hσ'
         cases g1 with
         | row mk _ _ hC => omega
         | map ks' vs' es clock hc _ hb hn hl hd he =>
           rw [hc] at hm
           simp only [Option.some.injEq, Prod.mk.injEq] at hm
           obtain ⟨rfl, rfl⟩ := hm
           exact ⟨b, es, clock, Y, hb, hn, hl, hd, he⟩
 case rom ks' vs' b es clock e hS hb hn hl hd he hk hv =>
   simp only [Option.some.injEq, Prod.mk.injEq] at hm
   obtain ⟨rfl, rfl⟩ := hm
   exact ⟨b, es, clock, rfl, hb, hn, hl, hd, fun i hi => ⟨e i, he i hi, (hk i hi).mono (fun _ h => h) (fun _ _ => rfl) _ (fun _ _ h => by cases h), (hv i hi).mono (fun _ h => h) (fun _ _ => rfl) _ (fun _ _ h => by cases h)⟩⟩
section
variable {ind : Bool} {P : Program} {fn : Func} {c : Ctx} {fr : Fr} {H : zZ} {k : List It} {d : Option Nat} {ty : TypeId} {pos : String} {after : Array Edge} {g : Option (Nat × Bool)}
theorem zHr {w : World} {S : Nat → Prop} {σ : Nat → Option Blk} {s : KSort} {ks : List AV} {es : Array MapEntry} (hks : ∀ x ∈ ks, zDP s x = true) (hn : es.size = ks.length) (he : ∀ i, i < ks.length → ∃ e, es[i]? = some e ∧ VR w S σ (ks.getD i .any) e.key) : ∀ e ∈ es.toList, KV s e.key := by
 have _pin := (inferInstance : Pins)
 intro e hm
 obtain ⟨i, hi, rfl⟩ := List.getElem_of_mem hm
 have hi' : i < ks.length := by simpa [hn] using hi
 obtain ⟨e', e1, e2⟩ := he i hi'
 have hmem : ks.getD i .any ∈ ks := by simp [List.getD, hi']
 obtain ⟨u, u1, u2, _⟩ := zGb (hks _ hmem)
 have : es.toList[i] = e' := by
   have h3 : es.toList[i]? = some e' := by simpa using e1
   rw [List.getElem?_eq_getElem hi] at h3
   exact Option.some.inj h3
 rw [this, u2 _ _ _ _ e2]
 exact u1
/-- m[key], where the key is there. -/
theorem zBk {t kt et : TypeId} {x ix : Operand} {ok : Bool} {m kk v : AV} {ks vs : List AV} {s : KSort} (ht : P.underlying t = some (.map kt et)) (hf : KFit P kt s) (hx : ev fr x = some m) (hm : zNu H m = some (ks, vs)) (hi : ev fr ix = some kk) (hk : zDP s kk = true) (hks : ∀ x ∈ ks, zDP s x = true)
   (i : Nat) (h1 : ks[i]? = some kk) (h2 : vs[i]? = some v) : QOp false P fn c fr H ⟨d, .lookup t x ix ok, ty, pos, after, g⟩ (bif ok then .tup [v, .bool true] else v) := by
 intro w a σ S hr
 have e1 := hr.evAt hx
 have e2 := hr.evAt hi
 obtain ⟨b, es, clock, q1, q2, q3, q4, q5, q6⟩ := hr.map e1 hm
 obtain ⟨u, u1, u2, u3⟩ := zGb hk
 have q7 := u2 _ _ _ _ e2
 have hil : i < ks.length := (List.getElem?_eq_some_iff.1 h1).1
 obtain ⟨e0, p1, p2, p3⟩ := q6 i hil
 have g1 : ks.getD i .any = kk := by simp [List.getD, h1]
 have g2 : vs.getD i .any = v := by simp [List.getD, h2]
 rw [g1] at p2
 rw [g2] at p3
 have p4 := u2 _ _ _ _ p2
 have hkeys := zHr hks q3 (fun i hi => let ⟨e, a, b, _⟩ := q6 i hi; ⟨e, a, b⟩)
 have hval : ∀ w' : World, w'.heap = w.heap → (Instr.lookup t (a.eval x) (a.eval ix) ok).run P w' = .ok (if ok then .tuple #[e0.val, .bool true] else e0.val) w' := by
   intro w' hw
   have hb' : w'.heap[b]? = some (.map es clock) := by rw [hw]; exact q2
   rw [q1, q7]
   rcases zEO hf u1 w' es.toList hkeys with ⟨r1, r2⟩ | ⟨j, e', r1, r2, r3⟩
   · exact absurd p4 (r2 e0 (by have := List.mem_of_getElem? (l := es.toList) (by simpa using p1); exact this))
   · have : e' = e0 := by
       have hj := List.getElem?_eq_some_iff.1 r2
       have hi3 := List.getElem?_eq_some_iff.1 (show es.toList[i]? = some e0 by simpa using p1)
       obtain ⟨j1, j2⟩ := hj
       obtain ⟨i1, i2⟩ := hi3
       rcases Nat.lt_trichotomy i j with hlt | rfl | hlt
       · exact absurd (by rw [i2, j2, p4, r3]) (List.pairwise_iff_getElem.1 q5 i j i1 j1 hlt)
       · rw [← i2, ← j2]
       · exact absurd (by rw [i2, j2, p4, r3]) (List.pairwise_iff_getElem.1 q5 j i j1 i1 hlt)
     subst this
     simp [Instr.lookup, Sem.run_bind, run_underlying ht, Result.andThen, MapKept.run_getObj_map hb', zDu hf u1, r1]
 refine ⟨if ok then .tuple #[e0.val, .bool true] else e0.val, ?_, fun w' hw => ?_⟩
 · cases ok with
   | false => exact p3
   | true =>
     refine .tup _ _ _ Y (fun j hj => ?_)
     match j, hj with
     | 0, _ => exact p3
     | 1, _ => exact .bool _ _
 · have hw := hw.resolve_left (by decide)
   simp only [execOp, Sem.run_bind, hval w' hw]
   rfl
/-- .. where it is not. -/
theorem zFF {t kt et : TypeId} {x ix : Operand} {ok : Bool} {m kk zv : AV} {ks vs : List AV} {s : KSort} {inf : TypeInfo} {z : Value} (ht : P.underlying t = some (.map kt et)) (hf : KFit P kt s) (hinf : P.info? et = some inf) (hz : inf.zero = some z) (hzv : zav z = some [zv]) (hz1 : z.cells = #[z]) (hx : ev fr x = some m) (hm : zNu H m = some (ks, vs)) (hi : ev fr ix = some kk) (hk : zDP s kk = true) (hks : ∀ x ∈ ks, zDP s x = true)
   (h1 : kk ∉ ks) : QOp false P fn c fr H ⟨d, .lookup t x ix ok, ty, pos, after, g⟩ (bif ok then .tup [zv, .bool false] else zv) := by
 intro w a σ S hr
 have e1 := hr.evAt hx
 have e2 := hr.evAt hi
 obtain ⟨b, es, clock, q1, q2, q3, q4, q5, q6⟩ := hr.map e1 hm
 obtain ⟨u, u1, u2, u3⟩ := zGb hk
 have q7 := u2 _ _ _ _ e2
 have hkeys := zHr hks q3 (fun i hi => let ⟨e, a, b, _⟩ := q6 i hi; ⟨e, a, b⟩)
 have hno : ∀ e ∈ es.toList, e.key ≠ u := by
   intro e hm' he
   obtain ⟨i, hi', rfl⟩ := List.getElem_of_mem hm'
   have hil : i < ks.length := by simpa [q3] using hi'
   obtain ⟨e', p1, p2, _⟩ := q6 i hil
   have : es.toList[i] = e' := by
     have h3 : es.toList[i]? = some e' := by simpa using p1
     rw [List.getElem?_eq_getElem hi'] at h3
     exact Option.some.inj h3
   rw [this] at he
   rw [he] at p2
   have hmem : ks.getD i .any ∈ ks := by simp [List.getD, hil]
   have := u3 _ (hks _ hmem) _ _ _ p2
   rw [this] at hmem
   exact h1 hmem
 have hval : ∀ w' : World, w'.heap = w.heap → (Instr.lookup t (a.eval x) (a.eval ix) ok).run P w' = .ok (if ok then .tuple #[z, .bool false] else z) w' := by
   intro w' hw
   have hb' : w'.heap[b]? = some (.map es clock) := by rw [hw]; exact q2
   have hzr : (zeroValue et).run P w' = .ok z w' := by simp [zeroValue, Sem.run_bind, typeInfo, hinf, hz]
   rw [q1, q7]
   rcases zEO hf u1 w' es.toList hkeys with ⟨r1, r2⟩ | ⟨j, e', r1, r2, r3⟩
   · simp [Instr.lookup, Sem.run_bind, run_underlying ht, Result.andThen, MapKept.run_getObj_map hb', zDu hf u1, r1, hzr]
   · exact absurd r3 (hno e' (List.mem_of_getElem? r2))
 have hzz : VR w S σ zv z := by
   have := (zFu (w := w) (S := S) (σ := σ) hzv).2 0 (by simp)
   rw [hz1] at this
   simpa using this.1
 refine ⟨if ok then .tuple #[z, .bool false] else z, ?_, fun w' hw => ?_⟩
 · cases ok with
   | false => exact hzz
   | true =>
     refine .tup _ _ _ Y (fun j hj => ?_)
     match j, hj with
     | 0, _ => exact hzz
     | 1, _ => exact .bool _ _
 · have hw := hw.resolve_left (by decide)
   simp only [execOp, Sem.run_bind, hval w' hw]
   rfl
end
theorem Rep.allocL {c : Ctx} {w : World} {a : Act} {σ : Nat → Option Blk} {S : Nat → Prop} {n : Nat} {fr : Fr} {H : zZ} (hr : Rep c w a σ S n fr H) {o : AObj} {C : Nat} {cur : Array Value} (ob : Obj) (hlen : o.c.len ≤ C) (hC : C ≤ maxLen + 1) (hcur : cur.size = C * o.c.sz) (hL : Lays (w.alloc ob) S (upσ σ H.length (.at w.heap.size o.c.sz C)) o w.heap.size cur C)
   (hc : ∀ i j, i < o.c.len → j < o.c.sz → ∃ v, cur[i * o.c.sz + j]? = some v ∧ VR w S σ (o.c.at i j) v ∧ v.oneCell' = true) :
   Rep c (w.alloc ob) a (upσ σ H.length (.at w.heap.size o.c.sz C)) S n fr (H ++ [some o]) := by
 have hold : ∀ b, b < w.heap.size → (w.alloc ob).heap[b]? = w.heap[b]? := fun b hb => Below.heap_alloc _ _ b hb
 have hext : ∀ h B, σ h = some B → upσ σ H.length (.at w.heap.size o.c.sz C) h = some B := by
   intro h B hB
   unfold upσ
   split
   · rename_i he; rw [he, hr.hr.dom _ (Nat.le_refl _)] at hB; cases hB
   · exact hB
 have hv : ∀ {x v}, VR w S σ x v → VR (w.alloc ob) S (upσ σ H.length (.at w.heap.size o.c.sz C)) x v :=
   fun h => h.mono (fun _ h => h) (fun b hb => hold b (hr.hr.small b hb)) _ hext
 have hset : ∀ h' o', (H ++ [some o])[h']? = some (some o') → (h' = H.length ∧ o' = o) ∨ (h' < H.length ∧ H[h']? = some (some o')) := by
   intro h' o' ho
   by_cases he : h' < H.length
   · rw [List.getElem?_append_left he] at ho; exact .inr ⟨he, ho⟩
   · by_cases he2 : h' = H.length
     · subst he2; simp at ho; exact .inl ⟨rfl, ho.symm⟩
     · have : (H ++ [some o]).length ≤ h' := by simp; omega
       rw [List.getElem?_eq_none this] at ho; cases ho
 have hσlt : ∀ h o' b s C', h < H.length → H[h]? = some (some o') → σ h = some (.at b s C') → b < w.heap.size := by
   intro h o' b s C' _ ho hb
   obtain ⟨_, cu, g, _⟩ := hr.obj ho hb
   exact g.lt
 refine ⟨⟨?_, ?_, fun b hb => by have := hr.hr.small b hb; simp; omega, fun h hl => ?_⟩, ?_, hr.defers, hr.size, fun t v hl => ⟨(hr.slots t v hl).1, hv (hr.slots t v hl).2⟩⟩
 · intro h' o' ho
   rcases hset h' o' ho with ⟨rfl, rfl⟩ | ⟨hlt, ho'⟩
   · right
     refine ⟨w.heap.size, C, cur, by simp [upσ], hL, hcur, hC, hlen, fun hs => Nat.lt_irrefl _ (hr.hr.small _ hs), fun i j hi hj => ?_⟩
     obtain ⟨v, e1, e2, e3⟩ := hc i j hi hj
     exact ⟨v, e1, hv e2, e3⟩
   · rcases hr.hr.live h' o' ho' with ⟨hn, hl0⟩ | ⟨b', C', cu, g1, g2, g3, g4, g5, g6, g7⟩
     · exact .inl ⟨hext _ _ hn, hl0⟩
     · right
       refine ⟨b', C', cu, hext _ _ g1, g2.mono (hold b' g2.lt) hv, g3, g4, g5, g6, fun i j hi hj => ?_⟩
       obtain ⟨v, e1, e2, e3⟩ := g7 i j hi hj
       exact ⟨v, e1, hv e2, e3⟩
 · intro h1 h2 o1 o2 b s1 C1 s2 C2 g1 g2 e1 e2
   rcases hset h1 o1 g1 with ⟨rfl, rfl⟩ | ⟨l1, g1'⟩ <;> rcases hset h2 o2 g2 with ⟨rfl, rfl⟩ | ⟨l2, g2'⟩
   · rfl
   · simp only [upσ, if_true, Option.some.injEq, Blk.at.injEq] at e1
     simp only [upσ, Nat.ne_of_lt l2, if_false] at e2
     have := hσlt h2 o2 b s2 C2 l2 g2' e2
     omega
   · simp only [upσ, if_true, Option.some.injEq, Blk.at.injEq] at e2
     simp only [upσ, Nat.ne_of_lt l1, if_false] at e1
     have := hσlt h1 o1 b s1 C1 l1 g1' e1
     omega
   · simp only [upσ, Nat.ne_of_lt l1, Nat.ne_of_lt l2, if_false] at e1 e2
     exact hr.hr.dist h1 h2 o1 o2 b s1 C1 s2 C2 g1' g2' e1 e2
 · simp only [List.length_append, List.length_cons, List.length_nil] at hl
   have : ¬ h = H.length := by omega
   simp only [upσ, this, if_false]
   exact hr.hr.dom h (by omega)
 · refine ⟨hr.kp.os, hr.kp.output, hr.kp.tape, by have := hr.kp.size; simp; omega, fun b hb ho => ?_, hr.kp.S1, hr.kp.S2, fun h hf => ?_, fun h hf => by have := hr.kp.fixlt h hf; simp; omega, ?_⟩
   · rw [hold b (by have := hr.kp.size; omega)]; exact hr.kp.block b hb ho
   · have := hr.kp.fixlt h hf
     have h2 : ¬ h = H.length := by omega
     simp only [upσ, h2, if_false]
     exact hr.kp.fixed h hf
   · intro h' o' b s C' ho hb
     rcases hset h' o' ho with ⟨rfl, rfl⟩ | ⟨hlt, ho'⟩
     · simp only [upσ, if_true, Option.some.injEq, Blk.at.injEq] at hb
       have := hr.kp.size
       omega
     · simp only [upσ, Nat.ne_of_lt hlt, if_false] at hb
       exact hr.kp.own h' o' b s C' ho' hb
theorem Rep.reobj {c : Ctx} {w : World} {a : Act} {σ : Nat → Option Blk} {S : Nat → Prop} {n : Nat} {fr : Fr} {H : zZ} (hr : Rep c w a σ S n fr H) {h b s C : Nat} {o : AObj} (hh : H[h]? = some (some o)) (hσ : σ h = some (.at b s C))
   {c' : Cells} {cur' : Array Value} (w' : World) (hos : w'.os = w.os) (hout : w'.output = w.output) (htape : w'.tape = w.tape) (hsize : w'.heap.size = w.heap.size) (hoth : ∀ b', b' ≠ b → w'.heap[b']? = w.heap[b']?) (hsz : c'.sz = o.c.sz) (hlen : c'.len ≤ C) (hcur : cur'.size = C * o.c.sz)
   (hc : ∀ i j, i < c'.len → j < c'.sz → ∃ v, cur'[i * c'.sz + j]? = some v ∧ VR w S σ (c'.at i j) v ∧ v.oneCell' = true) (hL : Lays w' S σ ⟨o.ty, c'⟩ b cur' C) :
   Rep c w' a σ S n fr (H.set h (some ⟨o.ty, c'⟩)) := by
 obtain ⟨hs, cur, h1, h2, h3, h4, h5, h6⟩ := hr.obj hh hσ
 have hlt : h < H.length := (List.getElem?_eq_some_iff.1 hh).1
 have hS : ∀ b', S b' → w'.heap[b']? = w.heap[b']? := fun b' hb => hoth b' (fun e => h5 (e ▸ hb))
 have hv : ∀ {σ' : Nat → Option Blk} {x v}, VR w S σ' x v → VR w' S σ' x v := fun h => h.mono (fun _ h => h) hS _ (fun _ _ h => h)
 have hset : ∀ h' o', (H.set h (some ⟨o.ty, c'⟩))[h']? = some (some o') → (h' = h ∧ o' = ⟨o.ty, c'⟩) ∨ (h' ≠ h ∧ H[h']? = some (some o')) := by
   intro h' o' ho
   by_cases he : h' = h
   · subst he
     simp only [List.getElem?_set_self hlt, Option.some.injEq] at ho
     exact .inl ⟨Y, ho.symm⟩
   · rw [List.getElem?_set_ne (Ne.symm he)] at ho
     exact .inr ⟨he, ho⟩
 have hown := hr.kp.own h o b s C hh hσ
 refine ⟨⟨?_, ?_, fun b' hb => by rw [hsize]; exact hr.hr.small b' hb, fun h' hl => hr.hr.dom h' (by simpa using hl)⟩, ?_, hr.defers, hr.size, fun t v hl => ⟨(hr.slots t v hl).1, hv (hr.slots t v hl).2⟩⟩
 · intro h' o' ho
   rcases hset h' o' ho with ⟨rfl, rfl⟩ | ⟨hne, ho'⟩
   · right
     refine ⟨b, C, cur', ?_, hL, by simpa [hsz] using hcur, h3, hlen, h5, fun i j hi hj => ?_⟩
     · rw [hσ, hs, hsz]
     · obtain ⟨v, e1, e2, e3⟩ := hc i j hi hj
       exact ⟨v, e1, hv e2, e3⟩
   · rcases hr.hr.live h' o' ho' with hn | ⟨b', C', cu, g1, g2, g3, g4, g5, g6, g7⟩
     · exact .inl hn
     · right
       have hbb : b' ≠ b := fun e => hne (hr.hr.dist h' h o' o b' o'.c.sz C' s C ho' hh g1 (by rw [hσ, e]))
       refine ⟨b', C', cu, g1, g2.mono (hoth b' hbb) hv, g3, g4, g5, g6, fun i j hi hj => ?_⟩
       obtain ⟨v, e1, e2, e3⟩ := g7 i j hi hj
       exact ⟨v, e1, hv e2, e3⟩
 · intro h1' h2' o1 o2 b' s1 C1 s2 C2 g1 g2 e1 e2
   have t1 : ∃ o, H[h1']? = some (some o) := by
     rcases hset h1' o1 g1 with ⟨rfl, _⟩ | ⟨_, g⟩
     · exact ⟨_, hh⟩
     · exact ⟨_, g⟩
   have t2 : ∃ o, H[h2']? = some (some o) := by
     rcases hset h2' o2 g2 with ⟨rfl, _⟩ | ⟨_, g⟩
     · exact ⟨_, hh⟩
     · exact ⟨_, g⟩
   obtain ⟨_, t1⟩ := t1
   obtain ⟨_, t2⟩ := t2
   exact hr.hr.dist h1' h2' _ _ b' s1 C1 s2 C2 t1 t2 e1 e2
 · refine ⟨hos.trans hr.kp.os, hout.trans hr.kp.output, htape.trans hr.kp.tape, by rw [hsize]; exact hr.kp.size, fun b' hb ho => ?_, hr.kp.S1, hr.kp.S2, hr.kp.fixed, fun h' hf => by simpa using hr.kp.fixlt h' hf, ?_⟩
   · have hbb : b' ≠ b := by
       rintro rfl
       rcases hown with h | h
       · exact ho h
       · omega
     rw [hoth b' hbb]
     exact hr.kp.block b' hb ho
   · intro h' o' b' s' C' ho hb
     rcases hset h' o' ho with ⟨rfl, _⟩ | ⟨_, g⟩
     · exact hr.kp.own _ _ b' s' C' hh hb
     · exact hr.kp.own h' o' b' s' C' g hb
section
variable {ind : Bool} {P : Program} {fn : Func} {c : Ctx} {fr : Fr} {H : zZ} {k : List It} {d : Option Nat} {ty : TypeId} {pos : String} {after : Array Edge} {g : Option (Nat × Bool)}
/-- A new map. -/
theorem zEg {all : Array Oper} {d : Nat} {t : TypeId} {rest : List Oper} (hk : Ax P fn c (.ops false all rest k) ((d, .mp H.length) :: fr) (H ++ [some ⟨t, .mp [] []⟩])) : Ax P fn c (.ops false all (⟨some d, .makeMap t none, ty, pos, after, none⟩ :: rest) k) fr H := by
 refine ax_w (fun w a σ S hr => ?_) hk
 have hrun : (execOp a.eval ⟨some d, .makeMap t none, ty, pos, after, none⟩).run P w = .ok (.value (.map (some w.heap.size))) (w.alloc (.map #[] 0)) := by
   simp [execOp, Instr.makeMap, Sem.run_bind, newObj, Sem.run, Result.andThen]
 refine ⟨_, _, _, S, hrun, hr.allocL (o := ⟨t, .mp [] []⟩) (C := maxLen + 1) (cur := #[]) (.map #[] 0) (Nat.zero_le _) (Nat.le_refl _) Y (.map [] [] #[] 0 Y Y (MapKept.heap_alloc w _).1 Y Y (by simp) (fun i hi => absurd hi (Nat.not_lt_zero _))) (fun i j hi => absurd hi (Nat.not_lt_zero _)), ?_⟩
 exact .mp _ _ _ (by simp [upσ, Cells.sz])
theorem Rep.own_map {w : World} {a : Act} {σ : Nat → Option Blk} {S : Nat → Prop} {n : Nat} (hr : Rep c w a σ S n fr H) {h : Nat} {x : Value} {t : TypeId} {ks vs : List AV} (hv : VR w S σ (.mp h) x) (hh : H[h]? = some (some ⟨t, .mp ks vs⟩)) :
   ∃ b es clock, x = .map (some b) ∧ σ h = some (.at b 0 (maxLen + 1)) ∧ w.heap[b]? = some (.map es clock) ∧ es.size = ks.length ∧ vs.length = ks.length ∧ es.toList.Pairwise (fun x y => x.key ≠ y.key) ∧ ∀ i, i < ks.length → ∃ e, es[i]? = some e ∧ VR w S σ (ks.getD i .any) e.key ∧ VR w S σ (vs.getD i .any) e.val := by
 have hσ : ∃ b, x = .map (some b) ∧ σ h = some (.at b 0 (maxLen + 1)) := by cases hv with | mp _ _ b hσ => exact ⟨b, rfl, hσ⟩
 obtain ⟨b, rfl, hσ⟩ := hσ
 obtain ⟨b2, es, clock, q1, q2⟩ := hr.map (ks := ks) (vs := vs) hv (by simp only [zNu, hh])
 simp at q1
 subst q1
 exact ⟨_, es, clock, Y, hσ, q2⟩
theorem find_at {es : Array MapEntry} {u : Value} {i j : Nat} {e e' : MapEntry} (hd : es.toList.Pairwise (fun x y => x.key ≠ y.key)) (h1 : es[i]? = some e) (h2 : e.key = u) (h3 : es.toList[j]? = some e') (h4 : e'.key = u) : i = j := by
 have _pin := (inferInstance : Pins)
 obtain ⟨j1, j2⟩ := List.getElem?_eq_some_iff.1 h3
 obtain ⟨i1, i2⟩ := List.getElem?_eq_some_iff.1 (show es.toList[i]? = some e by simpa using h1)
 rcases Nat.lt_trichotomy i j with hlt | rfl | hlt
 · exact absurd (by rw [i2, j2, h2, h4]) (List.pairwise_iff_getElem.1 hd i j i1 j1 hlt)
 · rfl
 · exact absurd (by rw [i2, j2, h2, h4]) (List.pairwise_iff_getElem.1 hd j i j1 i1 hlt)
/-- m[key] = v, where the key is there. -/
theorem zLB {all : Array Oper} {t kt et t' : TypeId} {x ix y : Operand} {rest : List Oper} {h : Nat} {kk v : AV} {ks vs : List AV} {s : KSort} (ht : P.underlying t = some (.map kt et)) (hf : KFit P kt s) (hx : ev fr x = some (.mp h)) (hh : H[h]? = some (some ⟨t', .mp ks vs⟩)) (hi : ev fr ix = some kk) (hy : ev fr y = some v) (hk : zDP s kk = true) (hks : ∀ x ∈ ks, zDP s x = true)
   (i : Nat) (h1 : ks[i]? = some kk) (hk' : Ax P fn c (.ops false all rest k) fr (H.set h (some ⟨t', .mp ks (vs.set i v)⟩))) : Ax P fn c (.ops false all (⟨none, .mapUpdate t x ix y, ty, pos, after, none⟩ :: rest) k) fr H := by
 refine ax_w0 (fun w a σ S hr => ?_) hk'
 have e1 := hr.evAt hx
 have e2 := hr.evAt hi
 have e3 := hr.evAt hy
 obtain ⟨b, es, clock, q1, hσ, q2, q3, q4, q5, q6⟩ := hr.own_map e1 hh
 obtain ⟨u, u1, u2, u3⟩ := zGb hk
 have q7 := u2 _ _ _ _ e2
 have hil : i < ks.length := (List.getElem?_eq_some_iff.1 h1).1
 obtain ⟨e0, p1, p2, p3⟩ := q6 i hil
 have g1 : ks.getD i .any = kk := by simp [List.getD, h1]
 rw [g1] at p2
 have p4 := u2 _ _ _ _ p2
 have hkeys := zHr hks q3 (fun i hi => let ⟨e, a, b, _⟩ := q6 i hi; ⟨e, a, b⟩)
 have hie : i < es.size := by omega
 have hrun : (Instr.mapUpdate t (a.eval x) (a.eval ix) (a.eval y)).run P w = .ok () { w with heap := w.heap.setIfInBounds b (.map (es.modify i fun e => { e with key := u, val := a.eval y }) clock) } := by
   rw [q1, q7]
   rcases zEO hf u1 w es.toList hkeys with ⟨r1, r2⟩ | ⟨j, e', r1, r2, r3⟩
   · exact absurd p4 (r2 e0 (List.mem_of_getElem? (l := es.toList) (by simpa using p1)))
   · have hij := find_at q5 p1 p4 r2 r3
     subst hij
     have : ((es[i]?).map (·.key)).getD u = u := by rw [p1]; simpa using p4
     simp only [Instr.mapUpdate, Sem.run_bind, run_underlying ht, Result.andThen_ok, MapKept.run_getObj_map q2, zDu hf u1, r1, this, zOk u1, MapKept.run_setObj_map _ q2]
 have hset := MapKept.heap_set (o' := .map (es.modify i fun e => { e with key := u, val := a.eval y }) clock) q2
 generalize hw' : ({ w with heap := w.heap.setIfInBounds b (.map (es.modify i fun e => { e with key := u, val := a.eval y }) clock) } : World) = w' at hrun
 have hwh : w'.heap = w.heap.setIfInBounds b (.map (es.modify i fun e => { e with key := u, val := a.eval y }) clock) := by rw [← hw']
 have hnS : ¬ S b := (hr.obj hh hσ).2.choose_spec.2.2.2.2.1
 have hoth : ∀ b', b' ≠ b → w'.heap[b']? = w.heap[b']? := fun b' hb => by rw [hwh]; exact hset.2 b' hb
 have hv : ∀ {x v}, VR w S σ x v → VR w' S σ x v := fun hv => hv.mono (fun _ h => h) (fun b' hb => hoth b' (fun e => hnS (e ▸ hb))) _ (fun _ _ h => h)
 have hkey : ∀ (j : Nat) (e : MapEntry), es[j]? = some e → (if j = i then ({ e with key := u, val := a.eval y } : MapEntry) else e).key = e.key := by
   intro j e hj
   split
   · rename_i hji; subst hji; rw [p1] at hj; cases hj; exact p4.symm
   · rfl
 have hmod : ∀ j : Nat, (es.modify i fun e => { e with key := u, val := a.eval y })[j]? = (es[j]?).map (fun e => if j = i then ({ e with key := u, val := a.eval y } : MapEntry) else e) := by
   intro j
   rw [Array.getElem?_modify]
   by_cases hij : i = j
   · subst hij; simp
   · have : ¬ j = i := fun e => hij e.symm
     simp [hij, this]
 refine ⟨w', σ, S, by simp only [execOp, Sem.run_bind, hrun]; rfl, hr.reobj (o := ⟨t', .mp ks vs⟩) hh hσ (c' := .mp ks (vs.set i v)) (cur' := #[]) w' (by rw [← hw']) (by rw [← hw']) (by rw [← hw']) (by rw [hwh]; simp) hoth Y (Nat.zero_le _) Y (fun i j hi => absurd hi (Nat.not_lt_zero _))
   (.map ks (vs.set i v) _ clock rfl rfl (by rw [hwh]; exact hset.1) (by simpa using q3) (by simpa using q4) ?_ (fun j hj => ?_))⟩
 · rw [List.pairwise_iff_getElem] at q5 ⊢
   intro a1 b1 ha hb hab
   have hsz : (es.modify i fun e => { e with key := u, val := a.eval y }).toList.length = es.toList.length := by simp
   have ka : ∀ (j : Nat) (hj : j < (es.modify i fun e => { e with key := u, val := a.eval y }).toList.length) (hj2 : j < es.toList.length), ((es.modify i fun e => { e with key := u, val := a.eval y }).toList[j]).key = (es.toList[j]).key := by
     intro j hj hj2
     have h5 := hmod j
     have hj3 : es[j]? = some (es.toList[j]) := by
       have h8 : es.toList[j]? = some (es.toList[j]) := List.getElem?_eq_getElem hj2
       rw [Array.getElem?_toList] at h8
       exact h8
     rw [hj3] at h5
     simp only [Option.map_some] at h5
     have h6 : (es.modify i fun e => { e with key := u, val := a.eval y }).toList[j]? = some ((es.modify i fun e => { e with key := u, val := a.eval y }).toList[j]) := List.getElem?_eq_getElem hj
     have h7 : (es.modify i fun e => { e with key := u, val := a.eval y }).toList[j]? = some (if j = i then ({ es.toList[j] with key := u, val := a.eval y } : MapEntry) else es.toList[j]) := by
       rw [Array.getElem?_toList]; exact h5
     rw [h6] at h7
     rw [Option.some.inj h7]
     exact hkey j _ hj3
   rw [ka a1 ha (by omega), ka b1 hb (by omega)]
   exact q5 a1 b1 (by omega) (by omega) hab
 · obtain ⟨e, r1, r2, r3⟩ := q6 j hj
   refine ⟨if j = i then ({ e with key := u, val := a.eval y } : MapEntry) else e, by rw [hmod j, r1]; rfl, ?_, ?_⟩
   · rw [hkey j e r1]; exact hv r2
   · by_cases hji : j = i
     · subst hji
       simp only [if_true]
       have : (vs.set j v).getD j .any = v := by simp [List.getD, show j < vs.length by omega]
       rw [this]; exact hv e3
     · simp only [hji, if_false]
       have : (vs.set i v).getD j .any = vs.getD j .any := by simp [List.getD, List.getElem?_set_ne (Ne.symm hji)]
       rw [this]; exact hv r3
/-- .. where it is not. -/
theorem zCq {all : Array Oper} {t kt et t' : TypeId} {x ix y : Operand} {rest : List Oper} {h : Nat} {kk v : AV} {ks vs : List AV} {s : KSort} (ht : P.underlying t = some (.map kt et)) (hf : KFit P kt s) (hx : ev fr x = some (.mp h)) (hh : H[h]? = some (some ⟨t', .mp ks vs⟩)) (hi : ev fr ix = some kk) (hy : ev fr y = some v) (hk : zDP s kk = true) (hks : ∀ x ∈ ks, zDP s x = true)
   (h1 : kk ∉ ks) (hk' : Ax P fn c (.ops false all rest k) fr (H.set h (some ⟨t', .mp (ks ++ [kk]) (vs ++ [v])⟩))) : Ax P fn c (.ops false all (⟨none, .mapUpdate t x ix y, ty, pos, after, none⟩ :: rest) k) fr H := by
 refine ax_w0 (fun w a σ S hr => ?_) hk'
 have e1 := hr.evAt hx
 have e2 := hr.evAt hi
 have e3 := hr.evAt hy
 obtain ⟨b, es, clock, q1, hσ, q2, q3, q4, q5, q6⟩ := hr.own_map e1 hh
 obtain ⟨u, u1, u2, u3⟩ := zGb hk
 have q7 := u2 _ _ _ _ e2
 have hkeys := zHr hks q3 (fun i hi => let ⟨e, a, b, _⟩ := q6 i hi; ⟨e, a, b⟩)
 have hno : ∀ e ∈ es.toList, e.key ≠ u := by
   intro e hm' he
   obtain ⟨i, hi', rfl⟩ := List.getElem_of_mem hm'
   have hil : i < ks.length := by simpa [q3] using hi'
   obtain ⟨e', p1, p2, _⟩ := q6 i hil
   have : es.toList[i] = e' := by
     have h3 : es.toList[i]? = some e' := by simpa using p1
     rw [List.getElem?_eq_getElem hi'] at h3
     exact Option.some.inj h3
   rw [this] at he
   rw [he] at p2
   have hmem : ks.getD i .any ∈ ks := by simp [List.getD, hil]
   have := u3 _ (hks _ hmem) _ _ _ p2
   rw [this] at hmem
   exact h1 hmem
 have hrun : (Instr.mapUpdate t (a.eval x) (a.eval ix) (a.eval y)).run P w = .ok () { w with heap := w.heap.setIfInBounds b (.map (es.push { key := u, val := a.eval y, born := clock }) (clock + 1)) } := by
   rw [q1, q7]
   rcases zEO hf u1 w es.toList hkeys with ⟨r1, r2⟩ | ⟨j, e', r1, r2, r3⟩
   · simp only [Instr.mapUpdate, Sem.run_bind, run_underlying ht, Result.andThen_ok, MapKept.run_getObj_map q2, zDu hf u1, r1, MapKept.run_setObj_map _ q2]
   · exact absurd r3 (hno e' (List.mem_of_getElem? r2))
 have hset := MapKept.heap_set (o' := .map (es.push { key := u, val := a.eval y, born := clock }) (clock + 1)) q2
 generalize hw' : ({ w with heap := w.heap.setIfInBounds b (.map (es.push { key := u, val := a.eval y, born := clock }) (clock + 1)) } : World) = w' at hrun
 have hwh : w'.heap = w.heap.setIfInBounds b (.map (es.push { key := u, val := a.eval y, born := clock }) (clock + 1)) := by rw [← hw']
 have hnS : ¬ S b := (hr.obj hh hσ).2.choose_spec.2.2.2.2.1
 have hoth : ∀ b', b' ≠ b → w'.heap[b']? = w.heap[b']? := fun b' hb => by rw [hwh]; exact hset.2 b' hb
 have hv : ∀ {x v}, VR w S σ x v → VR w' S σ x v := fun hv => hv.mono (fun _ h => h) (fun b' hb => hoth b' (fun e => hnS (e ▸ hb))) _ (fun _ _ h => h)
 refine ⟨w', σ, S, by simp only [execOp, Sem.run_bind, hrun]; rfl, hr.reobj (o := ⟨t', .mp ks vs⟩) hh hσ (c' := .mp (ks ++ [kk]) (vs ++ [v])) (cur' := #[]) w' (by rw [← hw']) (by rw [← hw']) (by rw [← hw']) (by rw [hwh]; simp) hoth Y (Nat.zero_le _) Y (fun i j hi => absurd hi (Nat.not_lt_zero _))
   (.map _ _ _ (clock + 1) rfl rfl (by rw [hwh]; exact hset.1) (by simp [q3]) (by simp [q4]) ?_ (fun j hj => ?_))⟩
 · rw [Array.toList_push, List.pairwise_append]
   exact ⟨q5, by simp, fun x hx y hy => by simp at hy; subst hy; exact hno x hx⟩
 · simp only [List.length_append, List.length_cons, List.length_nil] at hj
   by_cases hl : j < ks.length
   · obtain ⟨e, r1, r2, r3⟩ := q6 j hl
     refine ⟨e, by rw [Array.getElem?_push, if_neg (by omega)]; exact r1, ?_, ?_⟩
     · have : (ks ++ [kk]).getD j .any = ks.getD j .any := by simp [List.getD, List.getElem?_append_left hl]
       rw [this]; exact hv r2
     · have : (vs ++ [v]).getD j .any = vs.getD j .any := by simp [List.getD, List.getElem?_append_left (show j < vs.length by omega)]
       rw [this]; exact hv r3
   · have hje : j = es.size := by omega
     refine ⟨{ key := u, val := a.eval y, born := clock }, by rw [Array.getElem?_push, if_pos hje], ?_, ?_⟩
     · have : (ks ++ [kk]).getD j .any = kk := by simp [List.getD, hje, q3]
       rw [this]
       have := hv e2
       rw [q7] at this
       exact this
     · have : (vs ++ [v]).getD j .any = v := by simp [List.getD, hje, q3, ← q4]
       rw [this]; exact hv e3
end
end Go.Ax
namespace Go.Ax
variable [Pins]
open Go.RowKit
section
variable {ind : Bool} {P : Program} {fn : Func} {c : Ctx} {fr : Fr} {H : zZ} {k : List It}
variable {d : Option Nat} {ty : TypeId} {pos : String} {after : Array Edge} {g : Option (Nat × Bool)}
end
end Go.Ax
namespace Go.Ax
open Go.RowKit
structure Hold (p : Prop) : Prop where
 out : p
theorem rn0 {G G' : Prop} (k : G') (h : Hold G' → G := by intro k; (repeat (first | refine zD (zH rfl) ?_ | refine zD (zL rfl) ?_ | refine zC ?_ | refine zA ?_ | refine zX ?_ | refine zK rfl ?_ | refine zAS ?_)); exact k.out) : G := h ⟨k⟩
theorem rn1 {G G' : Prop} (k : G') (h : Hold G' → G := by intro k; (repeat (first | refine zD (zH rfl) ?_ | refine zD (zL rfl) ?_ | refine zC ?_ | refine zA ?_ | refine zX ?_ | refine zK rfl ?_ | refine zo ?_ | refine zx ?_ | refine zl ?_ | refine zAS ?_)); exact k.out) : G := h ⟨k⟩
theorem rn2 {G G' : Prop} (k : G') (h : Hold G' → G := by intro k; (repeat (first | refine zD (zH rfl) ?_ | refine zD (zL rfl) ?_ | refine zC ?_ | refine zA ?_ | refine zX ?_ | refine zK rfl ?_ | refine zAL rfl rfl ?_ | refine zo ?_ | refine zx ?_ | refine zl ?_ | refine zAS ?_ | refine zCN ?_ | refine zD (zAg rfl rfl) ?_ | refine zD (zBN rfl rfl) ?_)); exact k.out) : G := h ⟨k⟩
theorem rn3 {G G' : Prop} (k : G') (h : Hold G' → G := by intro k; (repeat (first | refine zD (zH rfl) ?_ | refine zD (zL rfl) ?_ | refine zC ?_ | refine zA ?_ | refine zX ?_ | refine zK rfl ?_ | refine zAL rfl rfl ?_ | refine zo ?_ | refine zx ?_ | refine zl ?_ | refine zAS ?_ | refine zCN ?_ | refine zD (zD6 rfl rfl) ?_ | refine zD (zAg rfl rfl) ?_ | refine zD (zBN rfl rfl) ?_ | refine zD (zA9 rfl rfl rfl) ?_ | refine zD (zDZ rfl rfl (by omega)) ?_ | refine zj rfl rfl rfl rfl rfl rfl rfl rfl rfl rfl rfl ?_)); exact k.out) : G := h ⟨k⟩
theorem rn4 {G G' : Prop} (k : G') (h : Hold G' → G := by intro k; (repeat (first | refine zD (zH rfl) ?_ | refine zD (zL rfl) ?_ | refine zC ?_ | refine zA ?_ | refine zX ?_ | refine zK rfl ?_ | refine zAL rfl rfl ?_ | refine z6 rfl ?_ | refine zo ?_ | refine zx ?_ | refine zl ?_ | refine zAS ?_ | refine zCN ?_ | refine zD (zT rfl rfl rfl rfl rfl) ?_ | refine zD (zLy rfl rfl) ?_ | refine zD (zEf rfl rfl) ?_ | refine zD (zD6 rfl rfl) ?_ | refine zD (zAg rfl rfl) ?_ | refine zD (zBN rfl rfl) ?_ | refine zD (zA9 rfl rfl rfl) ?_ | refine zD (zDZ rfl rfl (by omega)) ?_ | refine zD (ze rfl rfl rfl rfl (by first | (simp only [Nat.zero_add, Int.toNat_natCast, Int.toNat_zero]; exact rfl) | exact rfl) (by omega)) ?_ | refine zj rfl rfl rfl rfl rfl rfl rfl rfl rfl rfl rfl ?_ | refine zBD rfl rfl rfl ?_)); exact k.out) : G := h ⟨k⟩
theorem rn5 {G G' : Prop} (k : G') (h : Hold G' → G := by intro k; (repeat (first | refine zD (zH rfl) ?_ | refine zD (zL rfl) ?_ | refine zC ?_ | refine zA ?_ | refine zX ?_ | refine zK rfl ?_ | refine zAL rfl rfl ?_ | refine zAX rfl ?_ | refine z6 rfl ?_ | refine zf ?_ | refine zo ?_ | refine zx ?_ | refine zl ?_ | refine zAm ?_ | refine zr ?_ | refine zq ?_ | refine zAD ?_ | refine zAS ?_ | refine zCN ?_ | refine zD (zT rfl rfl rfl rfl rfl) ?_ | refine zD (zLy rfl rfl) ?_ | refine zD (zEf rfl rfl) ?_ | refine zD (zD6 rfl rfl) ?_ | refine zD (zDy rfl) ?_ | refine zD (zAg rfl rfl) ?_ | refine zD (zBN rfl rfl) ?_ | refine zD (zA9 rfl rfl rfl) ?_ | refine zD (zDZ rfl rfl (by omega)) ?_ | refine zD (ze rfl rfl rfl rfl (by first | (simp only [Nat.zero_add, Int.toNat_natCast, Int.toNat_zero]; exact rfl) | exact rfl) (by omega)) ?_ | refine zD (zP rfl rfl rfl rfl rfl rfl) ?_ | refine zj rfl rfl rfl rfl rfl rfl rfl rfl rfl rfl rfl ?_ | refine zBD rfl rfl rfl ?_)); exact k.out) : G := h ⟨k⟩
theorem rn6 {G G' : Prop} (k : G') (h : Hold G' → G := by intro k; (repeat (first | refine zD (zH rfl) ?_ | refine zD (zL rfl) ?_ | refine zD (zAi rfl rfl rfl) ?_ | refine zC ?_ | refine zA ?_ | refine zX ?_ | refine zK rfl ?_ | refine zAL rfl rfl ?_ | refine zAn rfl rfl rfl ?_ | refine zAX rfl ?_ | refine z6 rfl ?_ | refine zf ?_ | refine zo ?_ | refine zx ?_ | refine zl ?_ | refine zAm ?_ | refine zr ?_ | refine zq ?_ | refine zAD ?_ | refine zAS ?_ | refine zCN ?_ | refine zPN ?_ | refine zPO ?_ | refine zD (zBj rfl rfl rfl rfl) ?_ | refine zD (zT rfl rfl rfl rfl rfl) ?_ | refine zD (zLy rfl rfl) ?_ | refine zD (zEf rfl rfl) ?_ | refine zD (zD6 rfl rfl) ?_ | refine zD (zJO rfl rfl) ?_ | refine zD (zDy rfl) ?_ | refine zD (zAg rfl rfl) ?_ | refine zD (zBN rfl rfl) ?_ | refine zD (zA9 rfl rfl rfl) ?_ | refine zD (zCY rfl rfl) ?_ | refine zD (zDZ rfl rfl (by omega)) ?_ | refine zD (ze rfl rfl rfl rfl (by first | (simp only [Nat.zero_add, Int.toNat_natCast, Int.toNat_zero]; exact rfl) | exact rfl) (by omega)) ?_ | refine zD (zd rfl rfl rfl rfl rfl (by first | (simp only [Nat.zero_add, Int.toNat_natCast, Int.toNat_zero]; exact rfl) | exact rfl) (by omega)) ?_ | refine zD (zFW rfl rfl) ?_ | refine zD (zP rfl rfl rfl rfl rfl rfl) ?_ | refine zD (zBS rfl rfl rfl rfl rfl rfl) ?_ | refine zD (zn rfl rfl rfl rfl rfl rfl rfl (by first | exact Nat.zero_lt_one | assumption | omega)) ?_ | refine zj rfl rfl rfl rfl rfl rfl rfl rfl rfl rfl rfl ?_ | refine zFP rfl rfl ?_ | refine zBD rfl rfl rfl ?_)); exact k.out) : G := h ⟨k⟩
end Go.Ax
namespace Go.Proofs.YtnkealfaldjipaaGreatDoor
open Go.Ax
/-- What the walks of this seat know of the listed variables. -/
def pinG (w : World) : Prop := True
 ∧ Lib.TabIs Tryz.prog w "internal/strconv.uint64pow10" .u64 Lib.pow10Tab
 ∧ True
instance : Pins := ⟨fun w _ => pinG w⟩
theorem zQV {n : String} {w w' : World} (h : ∀ b, b < w.heap.size → w'.heap[b]? = w.heap[b]?) {cs : Array Value} (hv : w.var? Tryz.prog n = some cs) : w'.var? Tryz.prog n = some cs := by
 unfold World.var? at hv ⊢
 cases hg : Tryz.prog.globalNamed n with
 | none => simp [hg] at hv
 | some g =>
   simp only [hg, Option.bind_some] at hv ⊢
   have hlt : g < w.heap.size := by
     rcases Nat.lt_or_ge g w.heap.size with q | q
     · exact q
     · have : w.heap[g]? = none := by simp [q]
       simp [this] at hv
   rw [h g hlt]; exact hv
theorem pin_up {W : World} {S : Nat → Prop} (h : pinG W) : zFr W S (fun _ => none) [] := by
 intro w' S' _ _ hb
 have hb' : ∀ b, b < W.heap.size → w'.heap[b]? = W.heap[b]? := fun b hl => hb b hl (by rintro ⟨h, o, s, C, h1, _⟩; simp at h1)
 show pinG w'
 unfold pinG at h ⊢
 obtain ⟨_, h⟩ := h
 obtain ⟨h1, h⟩ := h
 refine ⟨trivial, ?_⟩
 refine ⟨zQV hb' h1, ?_⟩
 trivial
end Go.Proofs.YtnkealfaldjipaaGreatDoor
namespace Go.Ax.Bg
abbrev B : Nat := 4294967296
/-- The value of limbs, the least significant one first; the limbs of a number. -/
def zg : List Int → Nat
 | [] => 0
 | x :: r => x.toNat + B * zg r
def za (n : Nat) : List Int := if h : n = 0 then [] else ((n % B : Nat) : Int) :: za (n / B)
termination_by n
decreasing_by exact Nat.div_lt_self (Nat.pos_of_ne_zero h) (by decide)
def Lim (l : List Int) : Prop := ∀ x ∈ l, 0 ≤ x ∧ x < 4294967296
theorem zBq : za 0 = [] := by rw [za, dif_pos rfl]
theorem zGf {n : Nat} (h : n ≠ 0) : za n = ((n % B : Nat) : Int) :: za (n / B) := by rw [za, dif_neg h]
theorem zAE (n : Nat) : zg (za n) = n := by
 induction n using Nat.strongRecOn with
 | _ n ih =>
   by_cases h : n = 0
   · subst h; rw [zBq]; rfl
   · rw [zGf h, zg, ih _ (Nat.div_lt_self (Nat.pos_of_ne_zero h) (by decide)), Int.toNat_natCast]
     exact Nat.mod_add_div n B
theorem Lim.cons {x : Int} {r : List Int} : Lim (x :: r) ↔ (0 ≤ x ∧ x < 4294967296) ∧ Lim r := by simp [Lim]
theorem Lim.append {l m : List Int} : Lim (l ++ m) ↔ Lim l ∧ Lim m := by
 constructor
 · exact fun h => ⟨fun x hx => h x (List.mem_append_left _ hx), fun x hx => h x (List.mem_append_right _ hx)⟩
 · rintro ⟨h1, h2⟩ x hx
   rcases List.mem_append.1 hx with h | h
   · exact h1 x h
   · exact h2 x h
theorem Lim.nil : Lim [] := fun x hx => by simp at hx
theorem Lim.one {x : Int} (h : 0 ≤ x ∧ x < 4294967296) : Lim [x] := by rw [Lim.cons]; exact ⟨h, Lim.nil⟩
theorem zAc (n : Nat) : Lim (za n) := by
 induction n using Nat.strongRecOn with
 | _ n ih =>
   by_cases h : n = 0
   · subst h; rw [zBq]; exact Lim.nil
   · rw [zGf h, Lim.cons]
     refine ⟨?_, ih _ (Nat.div_lt_self (Nat.pos_of_ne_zero h) (by decide))⟩
     have := Nat.mod_lt n (show 0 < B by decide)
     unfold B at this ⊢; omega
theorem Lim.get {l : List Int} (h : Lim l) {i : Nat} (hi : i < l.length) : 0 ≤ l.getD i 0 ∧ l.getD i 0 < 4294967296 := h _ (zBM 0 hi)
theorem Lim.take {l : List Int} (h : Lim l) (k : Nat) : Lim (l.take k) := fun x hx => h x (List.mem_of_mem_take hx)
theorem zCn (l m : List Int) : zg (l ++ m) = zg l + B ^ l.length * zg m := by
 induction l with
 | nil => simp [zg]
 | cons x r ih =>
   rw [List.cons_append, zg, zg, ih, List.length_cons, Nat.pow_succ]
   rw [Nat.mul_add, Nat.add_assoc, Nat.mul_comm (B ^ r.length) B, Nat.mul_assoc]
theorem zA3 {l : List Int} (h : Lim l) : zg l < B ^ l.length := by
 induction l with
 | nil => simp [zg]
 | cons x r ih =>
   rw [Lim.cons] at h
   have i := ih h.2
   rw [zg, List.length_cons, Nat.pow_succ]
   have hx : x.toNat < B := by unfold B; omega
   have : zg r + 1 ≤ B ^ r.length := i
   calc x.toNat + B * zg r < B + B * zg r := by omega
     _ = B * (zg r + 1) := by rw [Nat.mul_add, Nat.mul_one]; omega
     _ ≤ B * B ^ r.length := Nat.mul_le_mul_left _ this
     _ = B ^ r.length * B := Nat.mul_comm _ _
theorem zHo (k : Nat) : zg (List.replicate k 0) = 0 := by
 induction k with
 | zero => rfl
 | succ k ih => rw [List.replicate_succ, zg, ih]; rfl
/-- Without superfluous zeros, limbs are those of their value. -/
theorem zNb {l : List Int} (h : Lim l) (hz : l = [] ∨ l.getD (l.length - 1) 0 ≠ 0) : za (zg l) = l := by
 induction l with
 | nil => exact zBq
 | cons x r ih =>
   rw [Lim.cons] at h
   have hx : x.toNat < B := by unfold B; omega
   have hxe : ((x.toNat : Nat) : Int) = x := by omega
   have hr : r = [] ∨ r.getD (r.length - 1) 0 ≠ 0 := by
     cases r with
     | nil => exact .inl rfl
     | cons y q =>
       right
       rcases hz with hz | hz
       · cases hz
       · simpa using hz
   have i := ih h.2 hr
   have hne : zg (x :: r) ≠ 0 := by
     rw [zg]
     cases r with
     | nil =>
       rcases hz with hz | hz
       · cases hz
       · simp at hz; simp [zg]; omega
     | cons y q =>
       intro h0
       have h1 : zg (y :: q) = 0 := by
         have : B * zg (y :: q) = 0 := by omega
         rcases Nat.mul_eq_zero.1 this with h | h
         · exact absurd h (by decide)
         · exact h
       rw [h1, zBq] at i
       cases i
   rw [zGf hne]
   have e1 : zg (x :: r) % B = x.toNat := by rw [zg, Nat.add_mul_mod_self_left, Nat.mod_eq_of_lt hx]
   have e2 : zg (x :: r) / B = zg r := by
     rw [zg, Nat.add_mul_div_left _ _ (by decide), Nat.div_eq_of_lt hx, Nat.zero_add]
   rw [e1, e2, i, hxe]
theorem zLx {n : Nat} : za n = [] ∨ (za n).getD ((za n).length - 1) 0 ≠ 0 := by
 induction n using Nat.strongRecOn with
 | _ n ih =>
   by_cases h : n = 0
   · subst h; exact .inl zBq
   · right
     rw [zGf h]
     have hlt := Nat.div_lt_self (Nat.pos_of_ne_zero h) (show 1 < B by decide)
     rcases ih (n / B) hlt with h1 | h1
     · rw [h1]
       have : n / B = 0 := by
         have := zAE (n / B)
         rw [h1] at this; exact this.symm
       have hn : n < B := by
         rcases Nat.lt_or_ge n B with q | q
         · exact q
         · have := Nat.div_pos q (show 0 < B by decide); omega
       simp only [List.length_cons, List.length_nil, Nat.zero_add, Nat.sub_self, List.getD_cons_zero]
       rw [Nat.mod_eq_of_lt hn]; omega
     · cases hq : za (n / B) with
       | nil => rw [hq] at h1; simp at h1
       | cons y q =>
         rw [hq] at h1
         simpa using h1
/-- Zeros at the end cut away. -/
theorem zRI {l : List Int} (h : Lim l) {k : Nat} (hk : k ≤ l.length) (h0 : ∀ i, k ≤ i → i < l.length → l.getD i 0 = 0) (hz : k = 0 ∨ l.getD (k - 1) 0 ≠ 0) : l.take k = za (zg l) := by
 have e : l.drop k = List.replicate (l.length - k) 0 := by
   apply List.ext_getElem
   · simp
   · intro i h1 h2
     simp only [List.length_drop] at h1
     have := h0 (k + i) (by omega) (by omega)
     rw [zDw 0 (by omega)] at this
     simpa using this
 have hv : zg l = zg (l.take k) := by
   conv => lhs; rw [← List.take_append_drop k l]
   rw [zCn, e, zHo, Nat.mul_zero, Nat.add_zero]
 rw [hv, zNb (h.take k)]
 rcases hz with hz | hz
 · subst hz; exact .inl (by simp)
 · right
   rw [List.length_take, Nat.min_eq_left hk]
   have hk0 : k ≠ 0 := fun e => by
     subst e
     cases l with
     | nil => simp at hz
     | cons x r => exact hz (h0 0 (Nat.le_refl _) (by simp))
   simp only [List.getD, List.getElem?_take, show k - 1 < k by omega, if_true]
   exact hz
theorem zAr {n k : Nat} (h : n < B ^ k) : (za n).length ≤ k := by
 rcases zLx (n := n) with h1 | h1
 · rw [h1]; exact Nat.zero_le _
 · rcases Nat.lt_or_ge k (za n).length with hl | hl
   · exfalso
     have hv := zAE n
     have hsplit := zCn ((za n).take ((za n).length - 1)) ((za n).drop ((za n).length - 1))
     rw [List.take_append_drop, hv] at hsplit
     have hd : (za n).drop ((za n).length - 1) = [(za n).getD ((za n).length - 1) 0] := by
       rw [zBy (za n) 0 _ (by omega), List.drop_of_length_le (by omega)]
     have hg := (zAc n).get (i := (za n).length - 1) (by omega)
     rw [hd] at hsplit
     simp only [zg, Nat.mul_zero, Nat.add_zero, List.length_take] at hsplit
     rw [Nat.min_eq_left (by omega)] at hsplit
     have hx : 1 ≤ ((za n).getD ((za n).length - 1) 0).toNat := by omega
     have hp : B ^ k ≤ B ^ ((za n).length - 1) := Nat.pow_le_pow_right (by decide) (by omega)
     have : B ^ ((za n).length - 1) * 1 ≤ B ^ ((za n).length - 1) * ((za n).getD ((za n).length - 1) 0).toNat := Nat.mul_le_mul_left _ hx
     omega
   · exact hl
theorem zM0 {n k : Nat} (h : B ^ k ≤ n) : k < (za n).length := by
 have h1 := zA3 (zAc n)
 rw [zAE] at h1
 exact (Nat.pow_lt_pow_iff_right (show 1 < B by decide)).1 (Nat.lt_of_le_of_lt h h1)
theorem natL_inj {a b : Nat} (h : za a = za b) : a = b := by rw [← zAE a, ← zAE b, h]
theorem natL_nil {n : Nat} : za n = [] ↔ n = 0 := by
 constructor
 · intro h; rw [← zAE n, h]; rfl
 · rintro rfl; exact zBq
theorem zEs {l : List Int} (i : Nat) (hi : i < l.length) : zg (l.take (i + 1)) = zg (l.take i) + B ^ i * (l.getD i 0).toNat := by
 rw [zAk l 0 i hi, zCn]
 simp only [zg, Nat.mul_zero, Nat.add_zero, List.length_take]
 rw [Nat.min_eq_left (by omega)]
theorem zDc {l : List Int} (x : Int) : zg (l ++ [x]) = zg l + B ^ l.length * x.toNat := by
 rw [zCn]; simp only [zg, Nat.mul_zero, Nat.add_zero]
/-- The comparison from the top. -/
theorem zLz {a b : List Int} (i : Nat) (ha : Lim a) (hb : Lim b) (hl : a.length = b.length) (hi : i < a.length) (he : ∀ j, i < j → j < a.length → a.getD j 0 = b.getD j 0) (hlt : a.getD i 0 < b.getD i 0) : zg a < zg b := by
 have hd : a.drop (i + 1) = b.drop (i + 1) := by
   apply List.ext_getElem
   · simp [hl]
   · intro j h1 h2
     simp only [List.length_drop] at h1 h2
     have := he (i + 1 + j) (by omega) (by omega)
     rw [zDw 0 (by omega), zDw 0 (by omega)] at this
     simpa using this
 have ea : zg a = zg (a.take (i + 1)) + B ^ (i + 1) * zg (a.drop (i + 1)) := by
   conv => lhs; rw [← List.take_append_drop (i + 1) a]
   rw [zCn, List.length_take, Nat.min_eq_left (by omega)]
 have eb : zg b = zg (b.take (i + 1)) + B ^ (i + 1) * zg (b.drop (i + 1)) := by
   conv => lhs; rw [← List.take_append_drop (i + 1) b]
   rw [zCn, List.length_take, Nat.min_eq_left (by omega)]
 rw [ea, eb, hd, zEs i hi, zEs i (by omega)]
 have h1 := zA3 (ha.take i)
 rw [List.length_take, Nat.min_eq_left (by omega)] at h1
 have hga := ha.get hi
 have hgb := hb.get (i := i) (by omega)
 have h2 : B ^ i * ((a.getD i 0).toNat + 1) ≤ B ^ i * (b.getD i 0).toNat := Nat.mul_le_mul_left _ (by omega)
 rw [Nat.mul_add, Nat.mul_one] at h2
 omega
theorem zKZ {l : List Int} {i : Nat} {x : Int} (hi : i < l.length) : zg (l.set i x) + B ^ i * (l.getD i 0).toNat = zg l + B ^ i * x.toNat := by
 induction l generalizing i with
 | nil => simp at hi
 | cons y r ih =>
   cases i with
   | zero => simp only [List.set_cons_zero, zg, Nat.pow_zero, Nat.one_mul, List.getD_cons_zero]; omega
   | succ i =>
     have h := ih (i := i) (by simpa using hi)
     simp only [List.set_cons_succ, zg, List.getD_cons_succ, Nat.pow_succ]
     have e1 : B ^ i * B * (r.getD i 0).toNat = B * (B ^ i * (r.getD i 0).toNat) := by rw [Nat.mul_comm (B ^ i) B, Nat.mul_assoc]
     have e2 : B ^ i * B * x.toNat = B * (B ^ i * x.toNat) := by rw [Nat.mul_comm (B ^ i) B, Nat.mul_assoc]
     rw [e1, e2]
     have e3 : B * (zg (r.set i x) + B ^ i * (r.getD i 0).toNat) = B * (zg r + B ^ i * x.toNat) := by rw [h]
     rw [Nat.mul_add, Nat.mul_add] at e3
     omega
theorem Lim.set {l : List Int} (h : Lim l) {i : Nat} {x : Int} (hx : 0 ≤ x ∧ x < 4294967296) : Lim (l.set i x) := fun y hy => by
 rcases List.mem_or_eq_of_mem_set hy with h1 | h1
 · exact h y h1
 · subst h1; exact hx
theorem Lim.zeros (k : Nat) : Lim (List.replicate k 0) := fun x hx => by rw [(List.mem_replicate.1 hx).2]; omega
/-- A carry is parted. -/
theorem zHZ (c : Nat) (p : Nat) : p * (c % B) + p * B * (c / B) = p * c := by
 rw [Nat.mul_assoc, ← Nat.mul_add, Nat.mod_add_div]
/-- One more limb, with a carry. -/
theorem zHc {out : List Int} {i c t u : Nat} (hl : out.length = i) (h : zg out + B ^ i * t = u) {d : Nat} (hc : c = t + d) : zg (out ++ [((c % B : Nat) : Int)]) + B ^ (i + 1) * (c / B) = u + B ^ i * d := by
 rw [zDc, hl, Int.toNat_natCast, Nat.pow_succ]
 have := zHZ c (B ^ i)
 have e : B ^ i * c = B ^ i * t + B ^ i * d := by rw [hc, Nat.mul_add]
 omega
theorem zDp (c : Nat) : 0 ≤ ((c % B : Nat) : Int) ∧ ((c % B : Nat) : Int) < 4294967296 := by
 have := Nat.mod_lt c (show 0 < B by decide)
 unfold B at this ⊢; omega
/-- Knuth's estimate: the quotient by the first three and the first two limbs. -/
theorem est_ge {u v U V P q : Nat} (hP : 0 < P) (hu : u < (U + 1) * P) (hv : V * P ≤ v) (hq : q * v ≤ u) : q * V ≤ U := by
 have h1 : q * V * P ≤ q * v := by rw [Nat.mul_assoc]; exact Nat.mul_le_mul_left _ hv
 have h2 : q * V * P < (U + 1) * P := Nat.lt_of_le_of_lt (Nat.le_trans h1 hq) hu
 have := Nat.lt_of_mul_lt_mul_right h2
 omega
theorem est_le {u v U V P g : Nat} (hP : 0 < P) (hu : U * P ≤ u) (hv : v ≤ (V + 1) * P) (hg : g * V ≤ U) (hgV : g ≤ V + 1) (h1 : 1 ≤ g) : (g - 1) * v ≤ u := by
 have a : (g - 1) * v ≤ (g - 1) * ((V + 1) * P) := Nat.mul_le_mul_left _ hv
 have b : (g - 1) * ((V + 1) * P) = (g - 1) * (V + 1) * P := by rw [Nat.mul_assoc]
 have c : (g - 1) * (V + 1) ≤ g * V := by
   obtain ⟨k, rfl⟩ : ∃ k, g = k + 1 := ⟨g - 1, by omega⟩
   simp only [Nat.add_sub_cancel]
   rw [Nat.mul_add, Nat.add_mul]
   omega
 have d : (g - 1) * (V + 1) * P ≤ U * P := Nat.mul_le_mul_right _ (Nat.le_trans c hg)
 omega
theorem zAA (l : List Int) (i : Nat) : zg (l.take (i + 1)) = zg (l.take i) + B ^ i * (l.getD i 0).toNat := by
 rcases Nat.lt_or_ge i l.length with h | h
 · exact zEs i h
 · rw [List.take_of_length_le h, List.take_of_length_le (by omega)]
   have : l.getD i 0 = 0 := by simp [List.getD, List.getElem?_eq_none h]
   rw [this]; simp
theorem Lim.get' {l : List Int} (h : Lim l) (i : Nat) : 0 ≤ l.getD i 0 ∧ l.getD i 0 < 4294967296 := by
 rcases Nat.lt_or_ge i l.length with hi | hi
 · exact h.get hi
 · have : l.getD i 0 = 0 := by simp [List.getD, List.getElem?_eq_none hi]
   omega
theorem Lim.nat {l : List Int} (h : Lim l) (i : Nat) : ∃ d : Nat, l.getD i 0 = (d : Int) ∧ d < 4294967296 := by
 have := h.get' i
 exact ⟨(l.getD i 0).toNat, by omega, by omega⟩
theorem zQ1 (l : List Int) (i : Nat) : zg l = zg (l.take i) + B ^ (min i l.length) * zg (l.drop i) := by
 conv => lhs; rw [← List.take_append_drop i l]
 rw [zCn, List.length_take]
theorem zKq (l : List Int) (i : Nat) : zg (l.drop i) = (l.getD i 0).toNat + B * zg (l.drop (i + 1)) := by
 rcases Nat.lt_or_ge i l.length with h | h
 · rw [zBy l 0 i h, zg]
 · rw [List.drop_of_length_le h, List.drop_of_length_le (by omega)]
   have : l.getD i 0 = 0 := by simp [List.getD, List.getElem?_eq_none h]
   rw [this]; simp [zg]
theorem zHe {l : List Int} (h : Lim l) {k : Nat} (hv : zg l < B ^ k) : zg (l.take k) = zg l := by
 rcases Nat.lt_or_ge k l.length with hl | hl
 · have e := zQ1 l k
   rw [Nat.min_eq_left (by omega)] at e
   have : zg (l.drop k) = 0 := by
     rcases Nat.eq_zero_or_pos (zg (l.drop k)) with h0 | h0
     · exact h0
     · exfalso
       have : B ^ k * 1 ≤ B ^ k * zg (l.drop k) := Nat.mul_le_mul_left _ h0
       omega
   rw [this] at e
   omega
 · rw [List.take_of_length_le hl]
theorem zRZ {l : List Int} {k i : Nat} (h : i < k) : (l.take k).getD i 0 = l.getD i 0 := by
 simp only [List.getD, List.getElem?_take, h, if_true]
/-- Limbs, cut to their true length. -/
theorem zQp {l : List Int} (hl : Lim l) : l.take (za (zg l)).length = za (zg l) := by
 have h := zAr (zA3 hl)
 have hsm := zA3 (zAc (zg l))
 rw [zAE] at hsm
 have hv := zHe hl hsm
 obtain ⟨n, hn⟩ : ∃ n, (za (zg l)).length = n := ⟨_, rfl⟩
 rw [hn] at h hsm hv ⊢
 rcases Nat.eq_zero_or_pos n with q | q
 · subst q
   rw [List.take_zero, List.length_eq_zero_iff.1 hn]
 · have e := zNb (hl.take n) (.inr (fun h9 => ?_))
   · rw [hv] at e; exact e.symm
   · rw [List.length_take, Nat.min_eq_left h, zRZ (by omega)] at h9
     have hlast := zAA l (n - 1)
     rw [show n - 1 + 1 = n by omega, hv, h9] at hlast
     have h5 := zA3 (hl.take (n - 1))
     rw [List.length_take, Nat.min_eq_left (by omega)] at h5
     have h6 : zg l < B ^ (n - 1) := by rw [hlast]; simpa using h5
     have := zAr h6
     omega
theorem zOA (n i : Nat) : (List.replicate n (0 : Int)).getD i 0 = 0 := by
 simp only [List.getD, List.getElem?_replicate]
 split <;> rfl
theorem bpos (i : Nat) : 0 < B ^ i := Nat.pow_pos (by decide)
/-- One limb of a sum, of a difference. -/
theorem zN3 {out x y : List Int} {i cr d e : Nat} (hl : out.length = i) (h : zg out + B ^ i * cr = zg (x.take i) + zg (y.take i)) (hd : x.getD i 0 = (d : Int)) (he : y.getD i 0 = (e : Int)) :
   zg (out ++ [(((cr + d + e) % 4294967296 : Nat) : Int)]) + B ^ (i + 1) * ((cr + d + e) / 4294967296) = zg (x.take (i + 1)) + zg (y.take (i + 1)) := by
 have := zHc hl h (c := cr + d + e) (d := d + e) (by omega)
 rw [zAA, zAA, hd, he, Int.toNat_natCast, Int.toNat_natCast]
 rw [Nat.mul_add] at this
 unfold B at *
 omega
theorem zRC {out x y : List Int} {i br d e yv br' : Nat} (hl : out.length = i) (h : zg out + zg (y.take i) = zg (x.take i) + B ^ i * br) (hd : x.getD i 0 = (d : Int)) (he : y.getD i 0 = (e : Int)) (hy : yv + br + e = d + 4294967296 * br') :
   zg (out ++ [(yv : Int)]) + zg (y.take (i + 1)) = zg (x.take (i + 1)) + B ^ (i + 1) * br' := by
 rw [zAA, zAA, hd, he, Int.toNat_natCast, Int.toNat_natCast, zDc, hl, Int.toNat_natCast, Nat.pow_succ, Nat.mul_assoc]
 have h3 : B ^ i * yv + B ^ i * br + B ^ i * e = B ^ i * d + B ^ i * (B * br') := by rw [← Nat.mul_add, ← Nat.mul_add, ← Nat.mul_add]; exact congrArg _ hy
 omega
/-- One limb of a product. -/
theorem mul_step {out : List Int} {p cr a b o u : Nat} (hp : p < out.length) (h : zg out + B ^ p * cr = u) (ho : out.getD p 0 = (o : Int)) :
   zg (out.set p (((cr + (a * b + o)) % 4294967296 : Nat) : Int)) + B ^ (p + 1) * ((cr + (a * b + o)) / 4294967296) = u + B ^ p * (a * b) := by
 have h1 := zKZ (x := (((cr + (a * b + o)) % 4294967296 : Nat) : Int)) hp
 rw [ho, Int.toNat_natCast, Int.toNat_natCast] at h1
 have h2 := zHZ (cr + (a * b + o)) (B ^ p)
 rw [Nat.pow_succ]
 have e : B ^ p * (cr + (a * b + o)) = B ^ p * cr + (B ^ p * (a * b) + B ^ p * o) := by rw [Nat.mul_add, Nat.mul_add]
 rw [e] at h2
 unfold B at *
 omega
theorem zDV {l : List Int} {i j : Nat} {x : Int} (h : i ≠ j) : (l.set i x).getD j 0 = l.getD j 0 := by
 simp only [List.getD, List.getElem?_set_ne h]
theorem zMZ {l : List Int} {i : Nat} {x : Int} (h : i < l.length) : (l.set i x).drop i = x :: l.drop (i + 1) := by
 have h2 : i < (l.set i x).length := by simpa using h
 rw [zBy (l.set i x) 0 i h2]
 congr 1
 · simp [List.getD, h]
 · rw [List.drop_set_of_lt (by omega)]
theorem p32 : (2 : Nat) ^ 32 = 4294967296 := by decide
theorem zIc {a : Nat} (h : a < 4294967296) : a * 2 ^ 32 < 18446744073709551616 := by
 have e : a * 2 ^ 32 = a * 4294967296 := congrArg (a * ·) p32
 rw [e]; omega
theorem zOq {a b : Nat} (h : b < 4294967296) : a * 2 ^ 32 ||| b = a * 4294967296 + b := by
 have := Nat.two_pow_add_eq_or_of_lt (i := 32) (b := b) (by simpa using h) a
 rw [Nat.mul_comm (2 ^ 32) a] at this
 rw [← this]
/-- Comparing. -/
def zD0 (x y : Int) : Int := if x < y then -1 else if y < x then 1 else 0
theorem zHv {x y : Int} (h : x < y) : zD0 x y = -1 := if_pos h
theorem zID {x y : Int} (h : y < x) : zD0 x y = 1 := by unfold zD0; rw [if_neg (by omega), if_pos h]
theorem zQL {x y : Int} (h : x = y) : zD0 x y = 0 := by unfold zD0; rw [if_neg (by omega), if_neg (by omega)]
theorem cmp_len (a b : Nat) (h : (za a).length ≠ (za b).length) : zD0 a b = zD0 (za a).length (za b).length := by
 have key : ∀ u v : Nat, (za u).length < (za v).length → u < v := by
   intro u v huv
   rcases Nat.lt_or_ge u v with q | q
   · exact q
   · exfalso
     have h1 := zA3 (zAc u)
     rw [zAE] at h1
     have h2 : v < B ^ (za u).length := Nat.lt_of_le_of_lt q h1
     have := zAr h2
     omega
 rcases Nat.lt_or_ge (za a).length (za b).length with q | q
 · rw [zHv (Int.ofNat_lt.2 q), zHv (Int.ofNat_lt.2 (key a b q))]
 · have q' : (za b).length < (za a).length := by omega
   rw [zID (Int.ofNat_lt.2 q'), zID (Int.ofNat_lt.2 (key b a q'))]
theorem cmp_limb {a b : Nat} (ha : Lim (za a)) (hb : Lim (za b)) (hl : (za a).length = (za b).length) {i : Nat} (hi : i < (za a).length) (he : ∀ j, i < j → j < (za a).length → (za a).getD j 0 = (za b).getD j 0) (hne : (za a).getD i 0 ≠ (za b).getD i 0) :
   zD0 a b = zD0 ((za a).getD i 0) ((za b).getD i 0) := by
 rcases Int.lt_trichotomy ((za a).getD i 0) ((za b).getD i 0) with q | q | q
 · have := zLz i ha hb hl hi he q
   rw [zAE, zAE] at this
   rw [zHv q, zHv (Int.ofNat_lt.2 this)]
 · exact absurd q hne
 · have := zLz i hb ha hl.symm (by omega) (fun j h1 h2 => (he j h1 (by omega)).symm) q
   rw [zAE, zAE] at this
   rw [zID q, zID (Int.ofNat_lt.2 this)]
theorem cmp_same {a b : Nat} (hl : (za a).length = (za b).length) (he : ∀ j, j < (za a).length → (za a).getD j 0 = (za b).getD j 0) : zD0 a b = 0 := by
 have : za a = za b := by
   apply List.ext_getElem hl
   intro i h1 h2
   have := he i h1
   rw [zDw 0 h1, zDw 0 h2] at this
   exact this
 rw [zQL (by rw [natL_inj this])]
/-- What the estimate begins with: at least the quotient. -/
theorem guess_ge {B top v1 v2 u2 g : Nat} (hv1 : 0 < v1) (h2 : u2 < B) (hg : g * (v1 * B + v2) ≤ top * B + u2) : g ≤ top / v1 := by
 rw [Nat.le_div_iff_mul_le hv1]
 have : g * v1 * B ≤ top * B + u2 := by
   refine Nat.le_trans ?_ hg
   rw [Nat.mul_add, Nat.mul_assoc]
   exact Nat.le_add_right _ _
 have : g * v1 * B < (top + 1) * B := by rw [Nat.add_mul]; omega
 have := Nat.lt_of_mul_lt_mul_right this
 omega
/-- The two conditions of the loop, together. -/
theorem zO7 {B top v1 v2 u2 g rest : Nat} (hr : rest + g * v1 = top) (hg : g < B) (h2 : v2 < B) : (rest < B ∧ rest * B + u2 < g * v2) ↔ top * B + u2 < g * (v1 * B + v2) := by
 have e : g * (v1 * B + v2) = g * v1 * B + g * v2 := by rw [Nat.mul_add, Nat.mul_assoc]
 have e2 : top * B = rest * B + g * v1 * B := by rw [← hr, Nat.add_mul]
 rw [e, e2]
 constructor
 · rintro ⟨_, h⟩; omega
 · intro h
   refine ⟨?_, by omega⟩
   rcases Nat.lt_or_ge rest B with q | q
   · exact q
   · exfalso
     have h3 : B * B ≤ rest * B := Nat.mul_le_mul_right _ q
     have h4 : g * v2 ≤ B * B := Nat.mul_le_mul (by omega) (by omega)
     omega
/-- One limb of a subtraction of a product. -/
theorem sub_step {P w g va u0 c b t y : Nat} (h : w + g * va = u0 + P * (c + b)) {ui : Nat} (b' : Nat) (hx : (y : Int) = (ui : Int) - ((c + t) % B : Nat) - b + B * b') :
   w + P * y + (g * va + P * t) = u0 + P * ui + P * B * ((c + t) / B + b') := by
 have e : P * ((c + t) % B) + P * B * ((c + t) / B) = P * (c + t) := zHZ (c + t) P
 have h1 : (y : Int) + ((c + t) % B : Nat) + b = ui + B * b' := by omega
 have h2 : y + (c + t) % B + b = ui + B * b' := by omega
 have h3 : P * y + P * ((c + t) % B) + P * b = P * ui + P * (B * b') := by rw [← Nat.mul_add, ← Nat.mul_add, h2, Nat.mul_add]
 rw [Nat.mul_add (P * B), Nat.mul_assoc P B b']
 rw [Nat.mul_add] at e h
 omega
/-- What the zBm is: its number and what remains. -/
theorem zPD {u v g w : Nat} {n b : Nat} (hw : w < B ^ n) (hv : v < B ^ n) (hu : u < B ^ n) (hb : b ≤ 1) (h : w + g * v = u + B ^ n * b) (h1 : u / v ≤ g) (h2 : g ≤ u / v + 1) (hv0 : 0 < v) :
   (b = 0 → g = u / v ∧ w = u % v) ∧ (b = 1 → g = u / v + 1 ∧ (w + v) = u % v + B ^ n) := by
 have hd := Nat.div_add_mod u v
 have hm := Nat.mod_lt u hv0
 have hc : v * (u / v) = (u / v) * v := Nat.mul_comm _ _
 constructor
 · intro h0
   subst h0
   rw [Nat.mul_zero, Nat.add_zero] at h
   have hge : g ≤ u / v := by rw [Nat.le_div_iff_mul_le hv0]; omega
   have : g = u / v := by omega
   subst this
   exact ⟨Y, by omega⟩
 · intro h0
   subst h0
   rw [Nat.mul_one] at h
   have hg : g = u / v + 1 := by
     rcases Nat.lt_or_ge g (u / v + 1) with q | q
     · exfalso
       have : g = u / v := by omega
       subst this
       omega
     · omega
   subst hg
   rw [Nat.add_mul, Nat.one_mul] at h
   exact ⟨Y, by omega⟩
end Go.Ax.Bg
namespace Go.Ax.Tb
/-- strings.Cut at one byte. -/
def zC6 (b : UInt8) : List UInt8 → List UInt8 × List UInt8 × Bool
 | [] => ([], [], false)
 | c :: r => if c = b then ([], r, true) else (c :: (zC6 b r).1, (zC6 b r).2.1, (zC6 b r).2.2)
theorem zQE {b : UInt8} {s : List UInt8} (h : b ∉ s) : zC6 b s = (s, [], false) := by
 induction s with
 | nil => rfl
 | cons c r ih =>
   simp only [List.mem_cons, not_or] at h
   rw [zC6, if_neg (fun e => h.1 e.symm), ih h.2]
theorem zPd {b : UInt8} {l r : List UInt8} (h : b ∉ l) : zC6 b (l ++ b :: r) = (l, r, true) := by
 induction l with
 | nil => rw [List.nil_append, zC6, if_pos rfl]
 | cons c q ih =>
   simp only [List.mem_cons, not_or] at h
   rw [List.cons_append, zC6, if_neg (fun e => h.1 e.symm), ih h.2]
theorem zM3 (b : UInt8) (s : List UInt8) : (zC6 b s).1.length + (zC6 b s).2.1.length + (if (zC6 b s).2.2 then 1 else 0) = s.length := by
 induction s with
 | nil => rfl
 | cons c r ih =>
   rw [zC6]
   split
   · simp
   · simp only [List.length_cons]; omega
/-- .. and by the index of the byte. -/
theorem zKz (b : UInt8) (s : List UInt8) : zC6 b s = if 0 ≤ Lib.indexByte s b then (s.take (Lib.indexByte s b).toNat, s.drop ((Lib.indexByte s b).toNat + 1), true) else (s, [], false) := by
 induction s with
 | nil => rfl
 | cons c r ih =>
   rw [zC6, Lib.indexByte]
   by_cases hc : c = b
   · subst hc; simp
   · have hb : (c == b) = false := by simpa using hc
     simp only [hb, Bool.false_eq_true, if_false, hc]
     rw [ih]
     have hge := Lib.indexByte_ge r b
     by_cases h1 : Lib.indexByte r b = -1
     · simp [h1]
     · have h2 : (Lib.indexByte r b == -1) = false := by simpa using h1
       simp only [h2, Bool.false_eq_true, if_false]
       rw [if_pos (by omega), if_pos (by omega)]
       have e : (Lib.indexByte r b + 1).toNat = (Lib.indexByte r b).toNat + 1 := by omega
       rw [e]; rfl
def zBm (c : UInt8) : Prop := 48 ≤ c.toNat ∧ c.toNat ≤ 57
theorem zD7 {d : Nat} (h : d < 10) : zBm (UInt8.ofNat (48 + d)) ∧ (UInt8.ofNat (48 + d)).toNat = 48 + d := by
 have e : (UInt8.ofNat (48 + d)).toNat = 48 + d := by simp; omega
 exact ⟨⟨by omega, by omega⟩, e⟩
theorem zB1 (u : Nat) : ∀ c ∈ Lib.decDigits u, zBm c := by
 induction u using Nat.strongRecOn with
 | _ u ih =>
   intro c hc
   rw [Lib.decDigits] at hc
   split at hc
   · rename_i h
     simp only [List.mem_singleton] at hc
     subst hc; exact (zD7 h).1
   · rw [List.mem_append] at hc
     rcases hc with hc | hc
     · exact ih _ (by omega) c hc
     · simp only [List.mem_singleton] at hc
       subst hc; exact (zD7 (Nat.mod_lt _ (by decide))).1
theorem zCf (u : Nat) : Lib.decDigits u ≠ [] := by
 rw [Lib.decDigits]
 split <;> simp
theorem itoa_nat (u : Nat) : Lib.itoa (u : Int) = Lib.decDigits u := by
 unfold Lib.itoa
 rw [if_neg (by omega)]; simp
def same (v : Int) : List Int → Nat
 | [] => 0
 | x :: r => if x = v then same v r + 1 else 0
theorem digit_ne {c : UInt8} (h : zBm c) (b : UInt8) (hb : b.toNat < 48 ∨ 57 < b.toNat) : b ≠ c := fun e => by
 subst e; unfold zBm at h; omega
theorem zEQ (u : Nat) (b : UInt8) (hb : b.toNat < 48 ∨ 57 < b.toNat) : b ∉ Lib.decDigits u := fun h => digit_ne (zB1 u b h) b hb rfl
end Go.Ax.Tb
namespace Go.Ax.Bg
open Go.Ax.Tb (zBm zD7 zB1 zCf)
/-- What digits spell. -/
def decS (a : Nat) (c : UInt8) : Nat := a * 10 + (c.toNat - 48)
def zA8 (acc : Nat) (l : List UInt8) : Nat := l.foldl decS acc
theorem zFm (acc : Nat) : zA8 acc [] = acc := rfl
theorem zDI (acc : Nat) (c : UInt8) (r : List UInt8) : zA8 acc (c :: r) = zA8 (acc * 10 + (c.toNat - 48)) r := by
 unfold zA8; rw [List.foldl_cons, decS]
theorem zGz (l m : List UInt8) (acc : Nat) : zA8 acc (l ++ m) = zA8 (zA8 acc l) m := by
 unfold zA8; rw [List.foldl_append]
theorem zGh (l : List UInt8) (acc : Nat) : zA8 acc l = acc * 10 ^ l.length + zA8 0 l := by
 induction l generalizing acc with
 | nil => rw [zFm, zFm]; simp
 | cons c r ih =>
   rw [zDI, zDI, ih, ih (0 * 10 + _), List.length_cons, Nat.pow_succ]
   generalize c.toNat - 48 = d
   generalize 10 ^ r.length = e
   generalize zA8 0 r = v
   rw [Nat.add_mul, Nat.zero_mul, Nat.zero_add, Nat.mul_assoc, Nat.mul_comm 10 e]
   omega
theorem zLL (l : List UInt8) (c : UInt8) (acc : Nat) : zA8 acc (l ++ [c]) = zA8 acc l * 10 + (c.toNat - 48) := by rw [zGz, zDI, zFm]
theorem zBT (u : Nat) : zA8 0 (Lib.decDigits u) = u := by
 induction u using Nat.strongRecOn with
 | _ u ih =>
   rw [Lib.decDigits]
   split
   · rename_i h
     have := (zD7 h).2
     rw [zDI, zFm, this]; omega
   · have := (zD7 (Nat.mod_lt u (show 0 < 10 by decide))).2
     rw [zLL, ih _ (by omega), this]
     omega
theorem zJc {l : List UInt8} (h : ∀ c ∈ l, zBm c) : zA8 0 l < 10 ^ l.length := by
 induction l with
 | nil => rw [zFm]; simp
 | cons c r ih =>
   have hc := h c (by simp)
   have i := ih (fun x hx => h x (by simp [hx]))
   unfold zBm at hc
   rw [zDI, zGh, List.length_cons, Nat.pow_succ]
   have : (c.toNat - 48) * 10 ^ r.length ≤ 9 * 10 ^ r.length := Nat.mul_le_mul_right _ (by omega)
   rw [Nat.zero_mul, Nat.zero_add]
   generalize 10 ^ r.length = e at *
   generalize (c.toNat - 48) * e = q at *
   omega
theorem zQF {c : UInt8} {r : List UInt8} (h : zBm c) (h0 : c ≠ 48) : 10 ^ r.length ≤ zA8 0 (c :: r) := by
 unfold zBm at h
 have hc : c.toNat ≠ 48 := fun e => h0 (UInt8.toNat_inj.1 e)
 rw [zDI, zGh]
 have : 1 * 10 ^ r.length ≤ (0 * 10 + (c.toNat - 48)) * 10 ^ r.length := Nat.mul_le_mul_right _ (by omega)
 generalize (0 * 10 + (c.toNat - 48)) * 10 ^ r.length = q at *
 omega
theorem snocInd {α : Type} {p : List α → Prop} (h0 : p []) (h1 : ∀ l x, p l → p (l ++ [x])) : ∀ l, p l := by
 intro l
 have key : ∀ (n : Nat) (l : List α), l.length = n → p l := by
   intro n
   induction n with
   | zero => intro l hl; rw [List.length_eq_zero_iff.1 hl]; exact h0
   | succ n ih =>
     intro l hl
     have hne : l ≠ [] := by intro e; subst e; simp at hl
     rw [← List.dropLast_concat_getLast hne]
     exact h1 _ _ (ih _ (by simp [hl]))
 exact key _ l Y
/-- A number's text: digits, not empty, and no 0 ahead of others. -/
def zHP (s : List UInt8) : Prop := s ≠ [] ∧ (∀ c ∈ s, zBm c) ∧ (s.getD 0 0 ≠ 48 ∨ s.length = 1)
theorem zEK (u : Nat) : zHP (Lib.decDigits u) := by
 refine ⟨zCf u, zB1 u, ?_⟩
 induction u using Nat.strongRecOn with
 | _ u ih =>
   rw [Lib.decDigits]
   split
   · exact .inr Y
   · left
     rename_i h
     have hne := zCf (u / 10)
     rcases ih (u / 10) (by omega) with h1 | h1
     · cases hq : Lib.decDigits (u / 10) with
       | nil => exact absurd hq hne
       | cons c r => rw [hq] at h1; simpa using h1
     · have hlt : u / 10 < 10 := by
         have hl := Lib.decDigits_length (u / 10)
         rw [h1] at hl
         have := Lib.lt_pow_nDigits (u / 10)
         rw [← hl] at this
         simpa using this
       rw [Lib.decDigits_one hlt]
       simp only [List.cons_append, List.getD_cons_zero]
       intro e
       have := congrArg UInt8.toNat e
       rw [(zD7 hlt).2] at this
       have : (48 : UInt8).toNat = 48 := rfl
       omega
theorem zFY {s : List UInt8} (h : zHP s) : Lib.decDigits (zA8 0 s) = s := by
 obtain ⟨h1, h2, h3⟩ := h
 revert h1 h2 h3
 refine snocInd (p := fun s => s ≠ [] → (∀ c ∈ s, zBm c) → (s.getD 0 0 ≠ 48 ∨ s.length = 1) → Lib.decDigits (zA8 0 s) = s) ?_ ?_ s
 · intro h; exact absurd rfl h
 · intro l c ih _ hd h3
   have hc := hd c (by simp)
   have hcv : UInt8.ofNat (48 + (c.toNat - 48)) = c := by
     unfold zBm at hc
     rw [show 48 + (c.toNat - 48) = c.toNat by omega]
     simp
   rw [zLL]
   cases l with
   | nil =>
     rw [zFm, List.nil_append, Nat.zero_mul, Nat.zero_add]
     rw [Lib.decDigits, dif_pos (by unfold zBm at hc; omega), hcv]
   | cons x r =>
     have hx : x ≠ 48 := by
       rcases h3 with h3 | h3
       · simpa using h3
       · simp at h3
     have hxd := hd x (by simp)
     have hge := zQF (r := r) hxd hx
     have hpos : 1 ≤ 10 ^ r.length := Nat.one_le_pow _ _ (by decide)
     have i := ih (by simp) (fun c hc => hd c (by simp at hc ⊢; rcases hc with rfl | hc; exact .inl rfl; exact .inr (.inl hc))) (.inl (by simpa using hx))
     generalize zA8 0 (x :: r) = v at *
     unfold zBm at hc
     rw [Lib.decDigits, dif_neg (by omega)]
     rw [show (v * 10 + (c.toNat - 48)) / 10 = v by omega, show (v * 10 + (c.toNat - 48)) % 10 = c.toNat - 48 by omega, i, hcv]
theorem zFT {a b : Nat} (h : Lib.decDigits a = Lib.decDigits b) : a = b := by rw [← zBT a, ← zBT b, h]
/-- How long a text is. -/
theorem zDr {n k : Nat} (hk : 1 ≤ k) (h : n < 10 ^ k) : (Lib.decDigits n).length ≤ k := by
 have hl := Lib.decDigits_length n
 rcases Nat.lt_or_ge k (Lib.decDigits n).length with hlt | hge
 · exfalso
   have hc := zEK n
   have hv := zBT n
   cases hq : Lib.decDigits n with
   | nil => exact zCf n hq
   | cons c r =>
     rw [hq] at hc hv hlt
     simp only [List.length_cons] at hlt
     have hne : c ≠ 48 := by
       rcases hc.2.2 with h | h
       · simpa using h
       · simp at h; subst h; simp at hlt; omega
     have := zQF (r := r) (hc.2.1 c (by simp)) hne
     rw [hv] at this
     have : 10 ^ k ≤ 10 ^ r.length := Nat.pow_le_pow_right (by decide) (by omega)
     omega
 · exact hge
theorem zES (n : Nat) : n < 10 ^ (Lib.decDigits n).length := by
 have := zJc (zB1 n)
 rwa [zBT] at this
/-- Nine digits behind the others. -/
def pad (k m : Nat) : List UInt8 := List.replicate (k - (Lib.decDigits m).length) 48 ++ Lib.decDigits m
theorem zOd (k : Nat) (l : List UInt8) : zA8 0 (List.replicate k 48 ++ l) = zA8 0 l := by
 induction k with
 | zero => rfl
 | succ k ih => rw [List.replicate_succ, List.cons_append, zDI]; exact ih
theorem pad_len {k m : Nat} (hk : 1 ≤ k) (h : m < 10 ^ k) : (pad k m).length = k := by
 have := zDr hk h
 unfold pad; simp; omega
theorem zRX (k m : Nat) : ∀ c ∈ pad k m, zBm c := by
 intro c hc
 unfold pad at hc
 rcases List.mem_append.1 hc with h | h
 · rw [(List.mem_replicate.1 h).2]; exact ⟨by decide, by decide⟩
 · exact zB1 m c h
theorem zMb {n k : Nat} (hk : 1 ≤ k) (h : 10 ^ k ≤ n) : Lib.decDigits n = Lib.decDigits (n / 10 ^ k) ++ pad k (n % 10 ^ k) := by
 have hp : 0 < 10 ^ k := Nat.pow_pos (by decide)
 have hm := Nat.mod_lt n hp
 have hd : n / 10 ^ k ≠ 0 := by have := Nat.div_pos h hp; omega
 have hc := zEK (n / 10 ^ k)
 have hcan : zHP (Lib.decDigits (n / 10 ^ k) ++ pad k (n % 10 ^ k)) := by
   refine ⟨by simp [hc.1], fun c hcm => ?_, .inl ?_⟩
   · rcases List.mem_append.1 hcm with h | h
     · exact hc.2.1 c h
     · exact zRX _ _ c h
   · cases hq : Lib.decDigits (n / 10 ^ k) with
     | nil => exact absurd hq hc.1
     | cons c r =>
       rw [hq] at hc
       simp only [List.cons_append, List.getD_cons_zero]
       rcases hc.2.2 with h | h
       · simpa using h
       · simp only [List.length_cons, Nat.add_eq_right, List.length_eq_zero_iff] at h
         subst h
         intro e
         subst e
         have := zBT (n / 10 ^ k)
         rw [hq] at this
         exact hd (this.symm.trans (by decide))
 have hv : zA8 0 (Lib.decDigits (n / 10 ^ k) ++ pad k (n % 10 ^ k)) = n := by
   rw [zGz, zBT, zGh, pad_len hk hm]
   have : zA8 0 (pad k (n % 10 ^ k)) = n % 10 ^ k := by unfold pad; rw [zOd, zBT]
   rw [this, Nat.mul_comm]
   exact Nat.div_add_mod n _
 have := zFY hcan
 rw [hv] at this
 exact this
end Go.Ax.Bg
namespace Go.Ax
open Go.Ax.Bg
variable [Pins]
def zF7 (l : List Int) : AV := .ro (.ints .u32 l) 0 l.length
def zAO (n : Nat) : AV := .ro (.ints .u32 (za n)) 0 (za n).length
/-- Limbs cut at their true length are the number's. -/
theorem AEq.lim {l : List Int} {k n : Nat} (h : l.take k = za n) (hk : k ≤ l.length) : AEq (.ro (.ints .u32 l) 0 k) (zAO n) := by
 have hl : (za n).length = k := by rw [← h, List.length_take, Nat.min_eq_left hk]
 refine AEq.trans AEq.take ?_
 rw [h]
 unfold zAO
 rw [hl]
 exact AEq.rfl'
theorem AEq.natNil : AEq .nil (zAO 0) := by
 have : zAO 0 = .ro (.ints .u32 []) 0 0 := by unfold zAO; rw [zBq]; rfl
 rw [this]
 exact AEq.nil
theorem zCQ {n : Nat} : 0 < (za n).length ↔ n ≠ 0 := by
 have _pin := (inferInstance : Pins)
 constructor
 · rintro h rfl; rw [zBq] at h; simp at h
 · intro h; rcases Nat.eq_zero_or_pos (za n).length with q | q
   · exact absurd (natL_nil.1 (List.length_eq_zero_iff.1 q)) h
   · exact q
end Go.Ax
namespace Go.Proofs.YtnkealfaldjipaaGreatDoor
open Go.Ax Go.Ax.Bg Go.RowKit
attribute [local irreducible] Ax zBG QOp zV
set_option maxRecDepth 100000
set_option maxHeartbeats 4000000
theorem norm_raw (l : List Int) (hl : Lim l) (hlen : l.length ≤ 1000000000) : zW Tryz.prog 193 [.ro (.ints .u32 l) 0 l.length] (.ro (.ints .u32 l) 0 (za (zg l)).length) := by
 refine zV.value0 (zG (P := Tryz.prog) (fn := Tryz.f193) Y Y (by kernel_rfl) Y (fun c hR hfix => ?_)) (fix := fun _ => False) (fun _ h => h) Y Y
 refine rn1 ?_
 refine zi (ι := Nat) (fun k => [(0, .ro (.ints .u32 l) 0 k)]) (fun _ => []) (fun k => k ≤ l.length ∧ ∀ i, k ≤ i → i < l.length → l.getD i 0 = 0) (fun k => k) l.length ⟨⟨Y, trivial⟩, Y, Nat.le_refl _, fun i h1 h2 => by omega⟩ ?_
 rintro k ⟨hk, hz⟩
 have fin : (k = 0 ∨ l.getD (k - 1) 0 ≠ 0) → (za (zg l)).length = k := fun h => by
   rw [← zRI hl hk hz h, List.length_take, Nat.min_eq_left hk]
 refine rn6 ?_
 refine zAF Y Y (fun h0 => ?_) (fun h0 => ?_)
 · have hk1 : 0 < k := by omega
   have e1 : ((k : Int) - 1).toNat = k - 1 := by omega
   repeat (first | refine zD (zH rfl) ?_ | refine zD (zAi rfl rfl rfl) ?_ | refine zC ?_ | refine zA ?_ | refine zAL rfl rfl ?_ | refine zD (zEf rfl rfl) ?_ | refine zD (zAg rfl rfl) ?_ | refine zD (zA9 rfl rfl rfl) ?_ | refine zD (zBo rfl rfl (by omega)) ?_ | refine zD (ze rfl rfl rfl rfl (by first | (simp only [Nat.zero_add, Int.toNat_natCast, Int.toNat_zero]; exact rfl) | exact rfl) (by omega)) ?_)
   refine zE Y (fun h1 => ?_) (fun h1 => ?_)
   · rw [e1] at h1
     repeat (first | refine zD (zH rfl) ?_ | refine zD (zL rfl) ?_ | refine zC ?_ | refine zA ?_ | refine zK rfl ?_ | refine zf ?_ | refine zx ?_ | refine zl ?_ | refine zD (zA9 rfl rfl rfl) ?_ | refine zD (zBo rfl rfl (by omega)) ?_ | refine zD (zKm rfl rfl rfl rfl rfl rfl rfl (by omega)) ?_)
     refine zM ⟨k - 1, ⟨by omega, fun i h2 h3 => ?_⟩, by omega, ⟨?_, trivial⟩, Y⟩
     · by_cases h4 : i = k - 1
       · subst h4; exact h1
       · exact hz i (by omega) h3
     · show some (AV.ro (.ints .u32 l) (0 + 0) _) = _
       congr 2
       omega
   · rw [e1] at h1
     refine rn5 ?_
     exact zI hR Y (by rw [fin (.inr h1)]; rfl)
 · refine rn6 ?_
   exact zI hR Y (by rw [fin (.inl (by omega))]; rfl)
theorem zDx (l : List Int) (hl : Lim l) (hlen : l.length ≤ 1000000000) : zW Tryz.prog 193 [zF7 l] (zAO (zg l)) := by
 refine zW.res (norm_raw l hl hlen) ?_
 exact AEq.lim (zQp hl) (zAr (zA3 hl))
theorem zKH (m : Nat) (hm : m < 18446744073709551616) : zW Tryz.prog 189 [.int .u64 (m : Nat)] (zAO m) := by
 have hc := zDx [((m % 4294967296 : Nat) : Int), ((m / 2 ^ 32 % 4294967296 : Nat) : Int)] (by
   rw [Lim.cons]; exact ⟨zDp m, Lim.one (zDp _)⟩) (by simp)
 have hv : zg [((m % 4294967296 : Nat) : Int), ((m / 2 ^ 32 % 4294967296 : Nat) : Int)] = m := by
   simp only [zg, Int.toNat_natCast]
   unfold B
   omega
 rw [hv] at hc
 refine zV.value0 (zG (P := Tryz.prog) (fn := Tryz.f189) Y Y (by kernel_rfl) Y (fun c hR hfix => ?_)) (fix := fun _ => False) (fun _ h => h) Y Y
 refine rn0 ?_
 refine zD (zF4 (m := m) Y Y Y zEr) ?_
 repeat (refine zD (zH rfl) ?_)
 refine zD (zF3 (m := m) (s := 32) Y Y Y) ?_
 refine zD (zF4 Y Y Y zEr) ?_
 repeat (refine zj rfl rfl rfl rfl rfl rfl rfl rfl rfl rfl rfl ?_)
 refine zB Y Y Y hc ?_
 refine rn0 ?_
 exact zI hR Y Y
theorem zMT {a b c : Nat} (ha : a < 4294967296) (hb : b < 4294967296) (hc : c < 4294967296) : a * b < 18446744073709551616 ∧ c + a * b < 18446744073709551616 := by
 have : a * b ≤ 4294967295 * 4294967295 := Nat.mul_le_mul (by omega) (by omega)
 omega
theorem zQq (n : List Int) (x y : Nat) (hn : Lim n) (hlen : n.length ≤ 100000000) (hx : x < 4294967296) (hy : y < 4294967296) :
   zW Tryz.prog 157 [zF7 n, .int .u32 (x : Nat), .int .u32 (y : Nat)] (zAO (zg n * x + y)) := by
 refine zV.value0 (zG (P := Tryz.prog) (fn := Tryz.f157) Y Y (by kernel_rfl) Y (fun c hR hfix => ?_)) (fix := fun _ => False) (fun _ h => h) Y Y
 refine rn3 ?_
 refine zCB Y Y Y Y Y Y Y Y (by show (0 : Int) ≤ 0 ∧ _ ≤ _ ∧ (4 : Int) * _ ≤ _ ∧ _; omega) ?_
 refine rn0 ?_
 refine zD (zAb (m := y) Y Y Y zBO (by omega)) ?_
 refine zHs 0 (.ints .u32 []) Y ⟨Nat.zero_le _, Y, fun i j hi _ => absurd hi (Nat.not_lt_zero _)⟩ ?_
 refine rn3 ?_
 refine zi (ι := Nat × List Int × Nat) (fun p => [(0, zF7 n), (1, .int .u32 (x : Nat)), (7, .sl 0 0 p.1), (8, .int .u64 (p.2.2 : Nat)), (17, zF7 n), (18, .int .i64 (n.length : Nat)), (19, .int .i64 (p.1 : Nat))]) (fun p => [some ⟨224, .ints .u32 p.2.1⟩])
   (fun p => p.1 ≤ n.length ∧ p.2.1.length = p.1 ∧ Lim p.2.1 ∧ p.2.2 < 4294967296 ∧ zg p.2.1 + B ^ p.1 * p.2.2 = zg (n.take p.1) * x + y) (fun p => n.length - p.1) (0, [], y) ⟨⟨rfl, rfl, rfl, rfl, rfl, rfl, rfl, trivial⟩, rfl, Nat.zero_le _, rfl, Lim.nil, hy, by simp [zg]⟩ ?_
 rintro ⟨i, out, cr⟩ ⟨h1, h2, h3, h4, h5⟩
 simp only at *
 refine rn4 ?_
 refine zE Y (fun h6 => ?_) (fun h6 => ?_)
 · have hil : i < n.length := by omega
   obtain ⟨d, hd, hdB⟩ := hn.nat i
   have hb := zMT (a := d) (b := x) (c := cr) hdB hx h4
   have hq : (cr + d * x) / 4294967296 < 4294967296 := by omega
   refine rn6 ?_
   refine zN 24 (.int .u32 (d : Nat)) Y (AEq.of_eq (by rw [hd])) ?_
   refine zD (zAb (m := d) Y Y Y zBO (by omega)) ?_
   repeat (refine zD (zH rfl) ?_)
   refine zD (zAb (m := x) Y Y Y zBO (by omega)) ?_
   refine zD (zIk Y Y zBO hb.1) ?_
   refine zD (zFK Y Y zBO hb.2) ?_
   refine rn0 ?_
   refine zD (zF4 Y Y Y zEr) ?_
   repeat (refine zj rfl rfl rfl rfl rfl rfl rfl rfl rfl rfl rfl ?_)
   refine zp Y Y Y Y Y Y Y Y Y h2 Y Y (Nat.le_refl 1) Y (by show (i + 1) * 4 ≤ _ ∧ _; omega) (fun i j _ _ => rfl) (by rw [hfix]; exact fun h => h) ?_
   refine rn0 ?_
   refine zD (zF3 (s := 32) Y Y Y) ?_
   refine rn5 ?_
   refine zM ⟨(i + 1, out ++ [(((cr + d * x) % 4294967296 : Nat) : Int)], (cr + d * x) / 4294967296), ⟨by simp only; omega, by simp [h2], Lim.append.2 ⟨h3, Lim.one (zDp _)⟩, hq, ?_⟩, by simp only; omega, ⟨Y, Y, Y, Y, Y, Y, Y, trivial⟩, Y⟩
   have := zHc h2 h5 (c := cr + d * x) (d := d * x) rfl
   rw [zAA n i, hd, Int.toNat_natCast, Nat.add_mul, Nat.mul_assoc]
   simp only at this ⊢
   rw [this]
   omega
 · have hie : i = n.length := by omega
   subst hie
   rw [List.take_length] at h5
   refine rn5 ?_
   refine zD (zF4 (m := cr) Y Y Y zEr) ?_
   repeat (refine zj rfl rfl rfl rfl rfl rfl rfl rfl rfl rfl rfl ?_)
   refine zp Y Y Y Y Y Y Y Y Y h2 Y Y (Nat.le_refl 1) Y (by show (n.length + 1) * 4 ≤ _ ∧ _; omega) (fun i j _ _ => rfl) (by rw [hfix]; exact fun h => h) ?_
   have hl : Lim (out ++ [((cr % 4294967296 : Nat) : Int)]) := Lim.append.2 ⟨h3, Lim.one (zDp _)⟩
   have hc := zDx _ hl (by simp; omega)
   have hv : zg (out ++ [((cr % 4294967296 : Nat) : Int)]) = zg n * x + y := by
     rw [zDc, h2, Int.toNat_natCast, Nat.mod_eq_of_lt h4]; exact h5
   rw [hv] at hc
   refine zC7 0 42 (n.length + 1) [] Y zAW Y (by show _ ≤ (out ++ [((cr % 4294967296 : Nat) : Int)]).length; simp; omega) trivial ?_
   refine zB Y Y (by show [AV.ro _ 0 (n.length + 1)] ++ [] = [zF7 (out ++ [((cr % 4294967296 : Nat) : Int)])]; simp only [zF7, List.length_append, h2]; rfl) hc ?_
   refine rn0 ?_
   exact zI hR Y Y
theorem isNaNi (n : Int) : zW Tryz.prog 208 [.int .i64 n] (.bool false) := by
 refine zV.value0 (zG (P := Tryz.prog) (fn := Tryz.f208) Y Y (by kernel_rfl) Y (fun c hR hfix => ?_)) (fix := fun _ => False) (fun _ h => h) Y Y
 refine rn3 ?_
 refine zI hR Y ?_
 simp [zBL]
theorem isNaNu (n : Int) : zW Tryz.prog 242 [.int .u32 n] (.bool false) := by
 refine zV.value0 (zG (P := Tryz.prog) (fn := Tryz.f242) Y Y (by kernel_rfl) Y (fun c hR hfix => ?_)) (fix := fun _ => False) (fun _ h => h) Y Y
 refine rn3 ?_
 refine zI hR Y ?_
 simp [zBL]
theorem cmpi (x y : Int) : zW Tryz.prog 162 [.int .i64 x, .int .i64 y] (.int .i64 (zD0 x y)) := by
 refine zV.value0 (zG (P := Tryz.prog) (fn := Tryz.f162) Y Y (by kernel_rfl) Y (fun c hR hfix => ?_)) (fix := fun _ => False) (fun _ h => h) Y Y
 refine rn0 ?_
 refine zB Y Y Y (isNaNi x) ?_
 refine rn0 ?_
 refine zB Y Y Y (isNaNi y) ?_
 refine rn4 ?_
 refine zE Y (fun h => ?_) (fun h => ?_)
 · refine rn2 ?_
   refine zI hR Y ?_
   unfold zD0; rw [if_pos h]; rfl
 · refine rn6 ?_
   refine zE Y (fun h2 => ?_) (fun h2 => ?_)
   · refine rn2 ?_
     refine zI hR Y ?_
     unfold zD0; rw [if_neg h, if_pos h2]; rfl
   · refine rn1 ?_
     refine zI hR Y ?_
     unfold zD0; rw [if_neg h, if_neg h2]; rfl
theorem cmpu (x y : Int) : zW Tryz.prog 220 [.int .u32 x, .int .u32 y] (.int .i64 (zD0 x y)) := by
 refine zV.value0 (zG (P := Tryz.prog) (fn := Tryz.f220) Y Y (by kernel_rfl) Y (fun c hR hfix => ?_)) (fix := fun _ => False) (fun _ h => h) Y Y
 refine rn0 ?_
 refine zB Y Y Y (isNaNu x) ?_
 refine rn0 ?_
 refine zB Y Y Y (isNaNu y) ?_
 refine rn4 ?_
 refine zE Y (fun h => ?_) (fun h => ?_)
 · refine rn2 ?_
   refine zI hR Y ?_
   unfold zD0; rw [if_pos h]; rfl
 · refine rn6 ?_
   refine zE Y (fun h2 => ?_) (fun h2 => ?_)
   · refine rn2 ?_
     refine zI hR Y ?_
     unfold zD0; rw [if_neg h, if_pos h2]; rfl
   · refine rn1 ?_
     refine zI hR Y ?_
     unfold zD0; rw [if_neg h, if_neg h2]; rfl
theorem zMI (a b : Nat) (ha : (za a).length ≤ 1000000000) (hb : (za b).length ≤ 1000000000) : zW Tryz.prog 191 [zAO a, zAO b] (.int .i64 (zD0 a b)) := by
 have c1 := cmpi (za a).length (za b).length
 refine zV.value0 (zG (P := Tryz.prog) (fn := Tryz.f191) Y Y (by kernel_rfl) Y (fun c hR hfix => ?_)) (fix := fun _ => False) (fun _ h => h) Y Y
 have la := zAc a
 have lb := zAc b
 have e1 := cmp_len a b
 have e2 : ∀ i, i < (za a).length → (za a).length = (za b).length → (∀ j, i < j → j < (za a).length → (za a).getD j 0 = (za b).getD j 0) → (za a).getD i 0 ≠ (za b).getD i 0 → zD0 a b = zD0 ((za a).getD i 0) ((za b).getD i 0) := fun i hi hl hj hne => cmp_limb la lb hl hi hj hne
 have e3 : (za a).length = (za b).length → (∀ j, j < (za a).length → (za a).getD j 0 = (za b).getD j 0) → zD0 a b = 0 := cmp_same
 unfold zAO
 generalize za a = x at *
 generalize za b = y at *
 generalize zD0 (a : Int) (b : Int) = r at *
 refine rn3 ?_
 refine zE Y (fun h0 => ?_) (fun h0 => ?_)
 · refine rn3 ?_
   refine zB Y Y Y c1 ?_
   refine rn2 ?_
   refine zI hR Y ?_
   rw [e1 (by omega)]; rfl
 · have hl : x.length = y.length := by omega
   repeat (first | refine zD (zH rfl) ?_ | refine zD (zL rfl) ?_ | refine zC ?_ | refine zA ?_ | refine zX ?_ | refine zK rfl ?_ | refine zx ?_ | refine zl ?_ | refine zD (zA9 rfl rfl rfl) ?_ | refine zD (zBo rfl rfl (by omega)) ?_)
   refine zi (ι := Nat) (fun k => [(0, .ro (.ints .u32 x) 0 x.length), (1, .ro (.ints .u32 y) 0 y.length), (5, .int .i64 ((k : Int) - 1))]) (fun _ => []) (fun k => k ≤ x.length ∧ ∀ j, k ≤ j → j < x.length → x.getD j 0 = y.getD j 0) (fun k => k) x.length ⟨⟨Y, Y, Y, trivial⟩, Y, Nat.le_refl _, fun j h1 h2 => by omega⟩ ?_
   rintro k ⟨hk, hz⟩
   repeat (first | refine zD (zH rfl) ?_ | refine zC ?_ | refine zA ?_ | refine zX ?_ | refine zK rfl ?_ | refine zD (zCk rfl rfl) ?_)
   refine zE Y (fun h1 => ?_) (fun h1 => ?_)
   · have ek : ((k : Int) - 1).toNat = k - 1 := by omega
     refine rn1 ?_
     refine zDf (by kernel_rfl) (by kernel_rfl) Y ?_
     refine rn6 ?_
     refine zE Y (fun h2 => ?_) (fun h2 => ?_)
     · rw [ek] at h2
       have c2 := cmpu (x.getD (k - 1) 0) (y.getD (k - 1) 0)
       repeat (refine zX ?_)
       refine zk (by kernel_rfl) ?_
       refine zS 0 Y (by kernel_rfl) (by kernel_rfl) (by kernel_rfl) Y (zH Y) Y ?_
       refine zS 1 Y (by kernel_rfl) (by kernel_rfl) (by kernel_rfl) Y (zH Y) Y ?_
       refine zS 2 Y (by kernel_rfl) (by kernel_rfl) (by kernel_rfl) Y (ze Y Y Y Y (by first | (simp only [Nat.zero_add, Int.toNat_natCast, Int.toNat_zero]; exact Y) | exact Y) (by omega)) Y ?_
       refine zS 4 Y (by kernel_rfl) (by kernel_rfl) (by kernel_rfl) Y (zH Y) Y ?_
       refine zS 5 Y (by kernel_rfl) (by kernel_rfl) (by kernel_rfl) Y (zH Y) Y ?_
       refine zS 6 Y (by kernel_rfl) (by kernel_rfl) (by kernel_rfl) Y (ze Y Y Y Y (by first | (simp only [Nat.zero_add, Int.toNat_natCast, Int.toNat_zero]; exact Y) | exact Y) (by omega)) Y ?_
       apply zCo [(35, .int .u32 (x.getD ((k : Int) - 1).toNat 0)), (39, .int .u32 (y.getD ((k : Int) - 1).toNat 0))]
       · intro fin
         refine zF (is := [3, 7]) (by kernel_rfl) (by simp) Y ⟨fun o ho => ?_, fun o ho => ?_, trivial⟩
         all_goals (cases ho)
         · refine rn6 ?_
           refine zF (is := [7]) (by kernel_rfl) (by simp) Y ⟨fun o ho => ?_, trivial⟩
           all_goals (cases ho)
           refine rn6 ?_
           exact fin _ ⟨Y, Y, trivial⟩
         · refine rn6 ?_
           refine zF (is := [3]) (by kernel_rfl) (by simp) Y ⟨fun o ho => ?_, trivial⟩
           all_goals (cases ho)
           refine rn6 ?_
           exact fin _ ⟨Y, Y, trivial⟩
       refine zF (is := [8]) (by kernel_rfl) (by simp) Y ⟨fun o ho => ?_, trivial⟩
       all_goals (cases ho)
       skip
       refine zB Y Y Y (by rw [ek]; exact c2) ?_
       refine rn1 ?_
       refine zS 9 Y (by kernel_rfl) (by kernel_rfl) (by kernel_rfl) Y (zL Y) Y ?_
       refine zh (by kernel_rfl) ?_
       refine rn6 ?_
       refine zI hR Y ?_
       rw [e2 (k - 1) (by omega) hl (fun j h3 h4 => hz j (by omega) h4) h2]; rfl
     · rw [ek] at h2
       repeat (first | refine zD (zH rfl) ?_ | refine zD (zL rfl) ?_ | refine zC ?_ | refine zA ?_ | refine zK rfl ?_ | refine zf ?_ | refine zl ?_ | refine zD (zBo rfl rfl (by omega)) ?_)
       refine zM ⟨k - 1, ⟨by omega, fun j h3 h4 => ?_⟩, by omega, ⟨Y, Y, ?_, trivial⟩, Y⟩
       · by_cases h5 : j = k - 1
         · subst h5; exact Classical.not_not.1 h2
         · exact hz j (by omega) h4
       · show some (AV.int .i64 _) = _
         congr 2
         omega
   · refine rn5 ?_
     refine zI hR Y ?_
     rw [e3 hl (fun j h3 => hz j (by omega) h3)]; rfl
theorem zDK {out : List Int} {m : Nat} (h : out.length = m) : [AV.ro (.ints .u32 out) 0 m] ++ [] = [zF7 out] := by
 subst h; rfl
theorem add_ok (a b : Nat) (ha : (za a).length ≤ 100000000) (hb : (za b).length ≤ 100000000) : zW Tryz.prog 190 [zAO a, zAO b] (zAO (a + b)) := by
 refine zV.value0 (zG (P := Tryz.prog) (fn := Tryz.f190) Y Y (by kernel_rfl) Y (fun c hR hfix => ?_)) (fix := fun _ => False) (fun _ h => h) Y Y
 obtain ⟨p, q, hpq, hlen, hL⟩ : ∃ p q : Nat, p + q = a + b ∧ (za q).length ≤ (za p).length ∧ (((za a).length < (za b).length ∧ p = b ∧ q = a) ∨ (¬ (za a).length < (za b).length ∧ p = a ∧ q = b)) := by
   rcases Nat.lt_or_ge (za a).length (za b).length with h | h
   · exact ⟨b, a, by omega, by omega, .inl ⟨h, Y, Y⟩⟩
   · exact ⟨a, b, Y, h, .inr ⟨by omega, Y, Y⟩⟩
 have hpl : (za p).length ≤ 100000000 := by rcases hL with ⟨_, rfl, rfl⟩ | ⟨_, rfl, rfl⟩ <;> assumption
 apply zAu (H := []) [(0, zAO p), (1, zAO q)]
 · intro fin
   unfold zAO at fin ⊢
   refine rn4 ?_
   refine zE Y (fun h0 => ?_) (fun h0 => ?_)
   · have : p = b ∧ q = a := by
       rcases hL with h | h
       · exact h.2
       · exact absurd (by omega) h.1
     obtain ⟨rfl, rfl⟩ := this
     skip
     refine zK Y ?_
     repeat (first | refine zD (zH rfl) ?_ | refine zD (zL rfl) ?_ | refine zC ?_ | refine zA ?_)
     exact fin _ ⟨Y, Y, trivial⟩
   · have : p = a ∧ q = b := by
       rcases hL with h | h
       · exact absurd (by omega) h0
       · exact h.2
     obtain ⟨rfl, rfl⟩ := this
     repeat (first | refine zA ?_ | refine zl ?_)
     exact fin _ ⟨Y, Y, trivial⟩
 have hx := zAc p
 have hy := zAc q
 have hv : zg (za p) + zg (za q) = a + b := by rw [zAE, zAE, hpq]
 unfold zAO
 rw [← hv] at hR
 generalize za p = x at *
 generalize za q = y at *
 refine rn3 ?_
 refine zCB Y Y Y Y Y Y Y Y (by show (0 : Int) ≤ 0 ∧ _ ≤ _ ∧ (4 : Int) * _ ≤ _ ∧ _; omega) ?_
 refine rn3 ?_
 refine zKX 0 (.ints .u32 []) Y ⟨Nat.zero_le _, Y, fun i j hi _ => absurd hi (Nat.not_lt_zero _)⟩ ?_
 refine zi (ι := Nat × List Int × Nat) (fun p => [(1, .ro (.ints .u32 y) 0 y.length), (5, .sl 0 0 p.1), (6, .int .u64 (p.2.2 : Nat)), (20, .ro (.ints .u32 x) 0 x.length), (21, .int .i64 (x.length : Nat)), (22, .int .i64 (p.1 : Nat))]) (fun p => [some ⟨224, .ints .u32 p.2.1⟩])
   (fun p => p.1 ≤ x.length ∧ p.2.1.length = p.1 ∧ Lim p.2.1 ∧ p.2.2 < 4294967296 ∧ zg p.2.1 + B ^ p.1 * p.2.2 = zg (x.take p.1) + zg (y.take p.1)) (fun p => x.length - p.1) (0, [], 0) ⟨⟨rfl, rfl, rfl, rfl, rfl, rfl, trivial⟩, rfl, Nat.zero_le _, rfl, Lim.nil, by decide, by simp [zg]⟩ ?_
 rintro ⟨i, out, cr⟩ ⟨h1, h2, h3, h4, h5⟩
 simp only at *
 refine rn4 ?_
 refine zE Y (fun h6 => ?_) (fun h6 => ?_)
 · have hil : i < x.length := by omega
   obtain ⟨d, hd, hdB⟩ := hx.nat i
   obtain ⟨e, he, heB⟩ := hy.nat i
   refine rn6 ?_
   refine zN 28 (.int .u32 (d : Nat)) Y (AEq.of_eq (by rw [hd])) ?_
   refine zD (zAb (m := d) Y Y Y zBO (by omega)) ?_
   refine zD (zFK Y Y zBO (by omega)) ?_
   refine rn4 ?_
   apply zAu (H := [some ⟨224, .ints .u32 out⟩]) [(1, .ro (.ints .u32 y) 0 y.length), (5, .sl 0 0 i), (6, .int .u64 (cr + d + e : Nat)), (20, .ro (.ints .u32 x) 0 x.length), (21, .int .i64 (x.length : Nat)), (22, .int .i64 (i : Nat))]
   · intro fin
     refine zE Y (fun h7 => ?_) (fun h7 => ?_)
     · refine rn6 ?_
       refine zN 39 (.int .u32 (e : Nat)) Y (AEq.of_eq (by rw [he])) ?_
       refine zD (zAb (m := e) Y Y Y zBO (by omega)) ?_
       refine zD (zFK Y Y zBO (by omega)) ?_
       repeat (first | refine zD (zL rfl) ?_ | refine zC ?_ | refine zA ?_)
       exact fin _ ⟨Y, Y, Y, Y, Y, Y, trivial⟩
     · have he0 : e = 0 := by
         have : y.getD i 0 = 0 := by simp [List.getD, List.getElem?_eq_none (show y.length ≤ i by omega)]
         omega
       subst he0
       repeat (first | refine zA ?_ | refine zl ?_)
       exact fin _ ⟨Y, Y, Y, Y, Y, Y, trivial⟩
   refine rn0 ?_
   refine zD (zF4 Y Y Y zEr) ?_
   repeat (refine zj rfl rfl rfl rfl rfl rfl rfl rfl rfl rfl rfl ?_)
   refine zp Y Y Y Y Y Y Y Y Y h2 Y Y (Nat.le_refl 1) Y (by show (i + 1) * 4 ≤ _ ∧ _; omega) (fun i j _ _ => rfl) (by rw [hfix]; exact fun h => h) ?_
   refine rn0 ?_
   refine zD (zF3 (s := 32) Y Y Y) ?_
   refine rn5 ?_
   exact zM ⟨(i + 1, out ++ [(((cr + d + e) % 4294967296 : Nat) : Int)], (cr + d + e) / 4294967296), ⟨by simp only; omega, by simp [h2], Lim.append.2 ⟨h3, Lim.one (zDp _)⟩, by simp only; omega, zN3 h2 h5 hd he⟩, by simp only; omega, ⟨Y, Y, Y, Y, Y, Y, trivial⟩, Y⟩
 · have hie : i = x.length := by omega
   subst hie
   rw [List.take_length, List.take_of_length_le hlen] at h5
   refine rn5 ?_
   refine zD (zF4 (m := cr) Y Y Y zEr) ?_
   repeat (refine zj rfl rfl rfl rfl rfl rfl rfl rfl rfl rfl rfl ?_)
   refine zp Y Y Y Y Y Y Y Y Y h2 Y Y (Nat.le_refl 1) Y (by show (x.length + 1) * 4 ≤ _ ∧ _; omega) (fun i j _ _ => rfl) (by rw [hfix]; exact fun h => h) ?_
   have hl : Lim (out ++ [((cr % 4294967296 : Nat) : Int)]) := Lim.append.2 ⟨h3, Lim.one (zDp _)⟩
   have hc := zDx _ hl (by simp; omega)
   have hv : zg (out ++ [((cr % 4294967296 : Nat) : Int)]) = zg x + zg y := by
     rw [zDc, h2, Int.toNat_natCast, Nat.mod_eq_of_lt h4]; exact h5
   rw [hv] at hc
   refine zC7 0 54 (x.length + 1) [] Y zAW Y (by show _ ≤ (out ++ [((cr % 4294967296 : Nat) : Int)]).length; simp; omega) trivial ?_
   refine zB Y Y (zDK (by simp [h2])) hc ?_
   refine rn0 ?_
   exact zI hR Y Y
theorem sub_ok (a b : Nat) (hab : b ≤ a) (ha : (za a).length ≤ 100000000) : zW Tryz.prog 192 [zAO a, zAO b] (zAO (a - b)) := by
 refine zV.value0 (zG (P := Tryz.prog) (fn := Tryz.f192) Y Y (by kernel_rfl) Y (fun c hR hfix => ?_)) (fix := fun _ => False) (fun _ h => h) Y Y
 have hx := zAc a
 have hy := zAc b
 have hlen : (za b).length ≤ (za a).length := zAr (by have := zA3 hx; rw [zAE] at this; omega)
 have hva : zg (za a) = a := zAE a
 have hvb : zg (za b) = b := zAE b
 have haB : a < B ^ (za a).length := by have := zA3 hx; rwa [zAE] at this
 unfold zAO
 generalize za a = x at *
 generalize za b = y at *
 refine rn3 ?_
 refine zCB Y Y Y Y Y Y Y Y (by show (0 : Int) ≤ 0 ∧ _ ≤ _ ∧ (4 : Int) * _ ≤ _ ∧ _; omega) ?_
 refine rn3 ?_
 refine zKX 0 (.ints .u32 []) Y ⟨Nat.zero_le _, Y, fun i j hi _ => absurd hi (Nat.not_lt_zero _)⟩ ?_
 refine zi (ι := Nat × List Int × Nat) (fun p => [(1, .ro (.ints .u32 y) 0 y.length), (5, .sl 0 0 p.1), (6, .int .i64 (p.2.2 : Nat)), (13, .ro (.ints .u32 x) 0 x.length), (14, .int .i64 (x.length : Nat)), (15, .int .i64 (p.1 : Nat))]) (fun p => [some ⟨224, .ints .u32 p.2.1⟩])
   (fun p => p.1 ≤ x.length ∧ p.2.1.length = p.1 ∧ Lim p.2.1 ∧ p.2.2 ≤ 1 ∧ zg p.2.1 + zg (y.take p.1) = zg (x.take p.1) + B ^ p.1 * p.2.2) (fun p => x.length - p.1) (0, [], 0) ⟨⟨rfl, rfl, rfl, rfl, rfl, rfl, trivial⟩, rfl, Nat.zero_le _, rfl, Lim.nil, by decide, by simp [zg]⟩ ?_
 rintro ⟨i, out, br⟩ ⟨h1, h2, h3, h4, h5⟩
 simp only at *
 refine rn4 ?_
 refine zE Y (fun h6 => ?_) (fun h6 => ?_)
 · have hil : i < x.length := by omega
   obtain ⟨d, hd, hdB⟩ := hx.nat i
   obtain ⟨e, he, heB⟩ := hy.nat i
   refine rn6 ?_
   refine zN 20 (.int .u32 (d : Nat)) Y (AEq.of_eq (by rw [hd])) ?_
   refine zD (zEn (m := d) Y Y Y (by omega)) ?_
   repeat (first | refine zD (zH rfl) ?_ | refine zD (zL rfl) ?_ | refine zC ?_ | refine zA ?_ | refine zX ?_ | refine zK rfl ?_ | refine zD (zLy rfl rfl) ?_ | refine zD (zA9 rfl rfl rfl) ?_ | refine zD (zBo rfl rfl (by omega)) ?_)
   apply zAu (H := [some ⟨224, .ints .u32 out⟩]) [(1, .ro (.ints .u32 y) 0 y.length), (5, .sl 0 0 i), (9, .int .i64 ((d : Int) - (br : Int) - (e : Int))), (13, .ro (.ints .u32 x) 0 x.length), (14, .int .i64 (x.length : Nat)), (15, .int .i64 (i : Nat))]
   · intro fin
     refine zE Y (fun h7 => ?_) (fun h7 => ?_)
     · refine rn6 ?_
       refine zN 32 (.int .u32 (e : Nat)) Y (AEq.of_eq (by rw [he])) ?_
       refine zD (zEn (m := e) Y Y Y (by omega)) ?_
       repeat (first | refine zD (zL rfl) ?_ | refine zC ?_ | refine zA ?_ | refine zD (zBo rfl rfl (by omega)) ?_)
       exact fin _ ⟨Y, Y, Y, Y, Y, Y, trivial⟩
     · have he0 : e = 0 := by
         have : y.getD i 0 = 0 := by simp [List.getD, List.getElem?_eq_none (show y.length ≤ i by omega)]
         omega
       subst he0
       repeat (first | refine zA ?_ | refine zl ?_)
       exact fin _ ⟨Y, Y, by show some (AV.int .i64 ((d : Int) - (br : Int))) = _; simp, Y, Y, Y, trivial⟩
   obtain ⟨yv, br', hyv, hbr, hyB⟩ : ∃ yv br' : Nat, yv + br + e = d + 4294967296 * br' ∧ br' ≤ 1 ∧ yv < 4294967296 := by
     rcases Nat.lt_or_ge d (br + e) with q | q
     · exact ⟨d + 4294967296 - br - e, 1, by omega, by omega, by omega⟩
     · exact ⟨d - br - e, 0, by omega, by omega, by omega⟩
   refine rn4 ?_
   apply zAu (H := [some ⟨224, .ints .u32 out⟩]) [(1, .ro (.ints .u32 y) 0 y.length), (5, .sl 0 0 i), (6, .int .i64 (br' : Nat)), (9, .int .i64 (yv : Nat)), (13, .ro (.ints .u32 x) 0 x.length), (14, .int .i64 (x.length : Nat)), (15, .int .i64 (i : Nat))]
   · intro fin
     refine zE Y (fun h7 => ?_) (fun h7 => ?_)
     · have : br' = 1 := by omega
       skip
       refine zK Y ?_
       repeat (first | refine zD (zH rfl) ?_ | refine zD (zL rfl) ?_ | refine zC ?_ | refine zA ?_ | refine zD (zDZ rfl rfl (by omega)) ?_)
       subst this
       exact fin _ ⟨Y, Y, Y, by show some (AV.int .i64 ((d : Int) - (br : Int) - (e : Int) + 4294967296)) = _; congr 2; omega, Y, Y, Y, trivial⟩
     · have : br' = 0 := by omega
       subst this
       repeat (first | refine zA ?_ | refine zl ?_)
       exact fin _ ⟨Y, Y, Y, by show some (AV.int .i64 ((d : Int) - (br : Int) - (e : Int))) = _; congr 2; omega, Y, Y, Y, trivial⟩
   refine rn0 ?_
   refine zD (zAb (m := yv) Y Y Y zEr hyB) ?_
   repeat (refine zj rfl rfl rfl rfl rfl rfl rfl rfl rfl rfl rfl ?_)
   refine zp Y Y Y Y Y Y Y Y Y h2 Y Y (Nat.le_refl 1) Y (by show (i + 1) * 4 ≤ _ ∧ _; omega) (fun i j _ _ => rfl) (by rw [hfix]; exact fun h => h) ?_
   refine rn5 ?_
   exact zM ⟨(i + 1, out ++ [(yv : Int)], br'), ⟨by simp only; omega, by simp [h2], Lim.append.2 ⟨h3, Lim.one (by omega)⟩, hbr, zRC h2 h5 hd he hyv⟩, by simp only; omega, ⟨Y, Y, Y, Y, Y, Y, trivial⟩, Y⟩
 · have hie : i = x.length := by omega
   subst hie
   rw [List.take_length, List.take_of_length_le hlen, hva, hvb] at h5
   have hc := zDx _ h3 (by omega)
   have hv : zg out = a - b := by
     have hob := zA3 h3
     rw [h2] at hob
     have : br = 0 ∨ br = 1 := by omega
     rcases this with rfl | rfl
     · rw [Nat.mul_zero] at h5; omega
     · rw [Nat.mul_one] at h5; omega
   rw [hv] at hc
   refine rn5 ?_
   refine zC7 0 45 x.length [] Y zAW Y (by show _ ≤ out.length; omega) trivial ?_
   refine zB Y Y (zDK h2) hc ?_
   refine rn0 ?_
   exact zI hR Y Y
theorem zJM (n : List Int) (x : Nat) (hn : Lim n) (hlen : n.length ≤ 100000000) (hx : 0 < x ∧ x < 4294967296) :
   zW Tryz.prog 205 [zF7 n, .int .u32 (x : Nat)] (.tup [zAO (zg n / x), .int .u32 (zg n % x : Nat)]) := by
 refine zV.value0 (zG (P := Tryz.prog) (fn := Tryz.f205) Y Y (by kernel_rfl) Y (fun c hR hfix => ?_)) (fix := fun _ => False) (fun _ h => h) Y Y
 unfold zF7
 refine rn3 ?_
 refine zCB Y Y Y Y Y Y Y Y (by show (0 : Int) ≤ _ ∧ _ ≤ _ ∧ (4 : Int) * _ ≤ _ ∧ _; omega) ?_
 repeat (first | refine zD (zH rfl) ?_ | refine zD (zL rfl) ?_ | refine zC ?_ | refine zA ?_ | refine zX ?_ | refine zK rfl ?_ | refine zx ?_ | refine zD (zA9 rfl rfl rfl) ?_ | refine zD (zBo rfl rfl (by omega)) ?_)
 refine zi (ι := Nat × List Int × Nat) (fun p => [(0, .ro (.ints .u32 n) 0 n.length), (1, .int .u32 (x : Nat)), (6, .sl 0 0 n.length), (7, .int .u64 (p.2.2 : Nat)), (8, .int .i64 ((p.1 : Int) - 1))]) (fun p => [some ⟨224, .ints .u32 p.2.1⟩])
   (fun p => p.1 ≤ n.length ∧ p.2.1.length = n.length ∧ Lim p.2.1 ∧ p.2.2 < x ∧ zg (n.drop p.1) = x * zg (p.2.1.drop p.1) + p.2.2) (fun p => p.1) (n.length, List.replicate n.length 0, 0) ⟨⟨rfl, rfl, rfl, rfl, rfl, trivial⟩, rfl, Nat.le_refl _, by simp, Lim.zeros _, hx.1, by simp [zg]⟩ ?_
 rintro ⟨i, out, rs⟩ ⟨h1, h2, h3, h4, h5⟩
 simp only at *
 repeat (first | refine zD (zH rfl) ?_ | refine zC ?_ | refine zA ?_ | refine zX ?_ | refine zK rfl ?_ | refine zD (zCk rfl rfl) ?_)
 refine zE Y (fun h6 => ?_) (fun h6 => ?_)
 · obtain ⟨j, rfl⟩ : ∃ j, i = j + 1 := ⟨i - 1, by omega⟩
   obtain ⟨d, hd, hdB⟩ := hn.nat j
   have ej : (((j + 1 : Nat) : Int) - 1) = (j : Nat) := by omega
   have ejt : (((j + 1 : Nat) : Int) - 1).toNat = j := by omega
   have htop : rs * 4294967296 + d < x * 4294967296 := by
     have : (rs + 1) * 4294967296 ≤ x * 4294967296 := Nat.mul_le_mul_right _ h4
     omega
   have hq : (rs * 4294967296 + d) / x < 4294967296 := Nat.div_lt_of_lt_mul htop
   have hm : (rs * 4294967296 + d) % x < x := Nat.mod_lt _ hx.1
   have hdm := Nat.div_add_mod (rs * 4294967296 + d) x
   generalize hqe : (rs * 4294967296 + d) / x = q at *
   generalize hme : (rs * 4294967296 + d) % x = r at *
   refine rn1 ?_
   refine zD (zKA (m := rs) (s := 32) Y Y (by decide) zBO (zIc (by omega))) ?_
   refine rn6 ?_
   refine zN 24 (.int .u32 (d : Nat)) Y (AEq.of_eq (by rw [ejt, hd])) ?_
   refine zD (zAb (m := d) Y Y Y zBO (by omega)) ?_
   refine zD (QOp.res (zNl Y Y zBO Y (zIc (by omega)) (by omega)) (by rw [zOq hdB])) ?_
   refine rn0 ?_
   refine zD (zAb (m := x) Y Y Y zBO (by omega)) ?_
   refine zD (QOp.res (q_uquo Y Y zBO (by omega) hx.1) (by rw [hqe])) ?_
   refine zD (zAb (m := q) Y Y Y zEr hq) ?_
   refine zN 28 (.int .i64 (j : Nat)) Y (AEq.of_eq (by rw [ej])) ?_
   repeat (first | refine zD (zH rfl) ?_ | refine zC ?_ | refine zA ?_ | refine zK rfl ?_ | refine zD (zd rfl rfl rfl rfl rfl (by first | (simp only [Nat.zero_add, Int.toNat_natCast, Int.toNat_zero]; exact rfl) | exact rfl) (by omega)) ?_ | refine zAp rfl rfl rfl rfl rfl rfl rfl (by first | assumption | (show _ < List.length _; first | assumption | omega)) ?_)
   refine zD (zAb (m := x) Y Y Y zBO (by omega)) ?_
   refine zD (QOp.res (q_urem Y Y hx.1) (by rw [hme])) ?_
   repeat (first | refine zD (zH rfl) ?_ | refine zD (zL rfl) ?_ | refine zC ?_ | refine zA ?_ | refine zK rfl ?_ | refine zf ?_ | refine zD (zBo rfl rfl (by omega)) ?_)
   refine zM ⟨(j, out.set j (q : Int), r), ⟨by simp only; omega, by simp [h2], h3.set (by omega), hm, ?_⟩, by simp only; omega, ⟨Y, Y, Y, Y, ?_, trivial⟩, Y⟩
   rotate_left
   · show some (AV.int .i64 _) = _
     congr 2
     omega
   simp only
   rw [zMZ (by omega), zKq, hd, Int.toNat_natCast, h5]
   simp only [zg, Int.toNat_natCast]
   have e1 : x * (q + B * zg (out.drop (j + 1))) = x * q + B * (x * zg (out.drop (j + 1))) := by rw [Nat.mul_add, Nat.mul_left_comm]
   rw [e1, Nat.mul_add]
   generalize x * zg (out.drop (j + 1)) = w at *
   generalize x * q = w2 at *
   show d + (4294967296 * w + 4294967296 * rs) = w2 + 4294967296 * w + r
   omega
 · have hie : i = 0 := by omega
   subst hie
   rw [List.drop_zero, List.drop_zero] at h5
   have hv : zg out = zg n / x ∧ rs = zg n % x := by
     rw [h5, Nat.mul_comm]
     constructor
     · rw [Nat.add_comm, Nat.add_mul_div_right _ _ hx.1, Nat.div_eq_of_lt h4, Nat.zero_add]
     · rw [Nat.add_comm, Nat.add_mul_mod_self_right, Nat.mod_eq_of_lt h4]
   have hc := zDx _ h3 (by omega)
   rw [hv.1] at hc
   obtain ⟨_, hv2⟩ := hv
   refine rn5 ?_
   refine zC7 0 39 n.length [(7, .int .u64 (rs : Nat))] Y zAW Y (by show _ ≤ out.length; omega) ⟨Y, trivial⟩ ?_
   refine zB Y Y (zDK h2) hc ?_
   repeat (refine zD (zH rfl) ?_)
   refine zD (zAb (m := rs) Y Y Y zEr (by omega)) ?_
   refine rn0 ?_
   refine zI hR Y ?_
   rw [hv2]; rfl
end Go.Proofs.YtnkealfaldjipaaGreatDoor
namespace Go.Ax.Bg
/-- So many limbs of a number. -/
def zB0 : Nat → Nat → List Int
 | 0, _ => []
 | k + 1, v => ((v % 4294967296 : Nat) : Int) :: zB0 k (v / 4294967296)
theorem zB2 : ∀ (k v : Nat), (zB0 k v).length = k
 | 0, _ => rfl
 | k + 1, v => by rw [zB0, List.length_cons, zB2]
theorem zFZ : ∀ (k v : Nat), Lim (zB0 k v)
 | 0, _ => Lim.nil
 | k + 1, v => by rw [zB0, Lim.cons]; exact ⟨zDp v, zFZ k _⟩
theorem zIT : ∀ (k v : Nat), v < B ^ k → zg (zB0 k v) = v
 | 0, v, h => by simp at h; subst h; rfl
 | k + 1, v, h => by
   rw [zB0, zg, Int.toNat_natCast, zIT k]
   · unfold B; omega
   · rw [Nat.pow_succ, Nat.mul_comm] at h
     exact Nat.div_lt_of_lt_mul h
theorem zHB : ∀ {l : List Int} {k v : Nat}, Lim l → l.length = k → zg l = v → l = zB0 k v
 | [], k, v, _, hk, _ => by simp at hk; subst hk; rfl
 | x :: r, k, v, h, hk, hv => by
   rw [Lim.cons] at h
   obtain ⟨m, rfl⟩ : ∃ m, k = m + 1 := ⟨r.length, by simpa using hk.symm⟩
   rw [zg] at hv
   subst hv
   have hx : x.toNat < 4294967296 := by omega
   rw [zB0, Nat.add_mul_mod_self_left, Nat.mod_eq_of_lt hx, Nat.add_mul_div_left _ _ (by decide), Nat.div_eq_of_lt hx, Nat.zero_add]
   rw [← zHB h.2 (by simpa using hk) rfl]
   congr 1
   omega
theorem zGT {A U C : List Int} {j i : Nat} (hj : A.length = j) (h : i < U.length) : (A ++ (U ++ C)).getD (j + i) 0 = U.getD i 0 := by
 subst hj
 simp only [List.getD]
 rw [List.getElem?_append_right (by omega), Nat.add_sub_cancel_left, List.getElem?_append_left h]
theorem zPw {A U C : List Int} {j i : Nat} {x : Int} (hj : A.length = j) (h : i < U.length) : (A ++ (U ++ C)).set (j + i) x = A ++ (U.set i x ++ C) := by
 subst hj
 rw [List.set_append_right _ _ (by omega), Nat.add_sub_cancel_left, List.set_append_left _ _ h]
theorem zFR {l : List Int} {i : Nat} {x : Int} (h : i < l.length) : (l.set i x).take (i + 1) = l.take i ++ [x] := by
 have h2 : i < (l.set i x).length := by simpa using h
 rw [zAk (l.set i x) 0 i h2]
 congr 1
 · rw [List.take_set_of_le (Nat.le_refl _)]
 · simp [List.getD, h]
/-- The three limbs on top. -/
theorem top3 {U : List Int} {s u0 u1 u2 : Nat} (hs : 2 ≤ s) (hl : U.length = s + 1) (h : Lim U) (h0 : U.getD s 0 = (u0 : Int)) (h1 : U.getD (s - 1) 0 = (u1 : Int)) (h2 : U.getD (s - 2) 0 = (u2 : Int)) :
   ∃ low, low < B ^ (s - 2) ∧ zg U = low + ((u0 * 4294967296 + u1) * 4294967296 + u2) * B ^ (s - 2) := by
 refine ⟨zg (U.take (s - 2)), ?_, ?_⟩
 · have := zA3 (h.take (s - 2))
   rwa [List.length_take, Nat.min_eq_left (by omega)] at this
 · have e : zg U = zg (U.take (s - 2 + 1 + 1 + 1)) := by rw [List.take_of_length_le (by omega)]
   rw [e, zAA, zAA, zAA, show s - 2 + 1 + 1 = s by omega, show s - 2 + 1 = s - 1 by omega, h0, h1, h2]
   simp only [Int.toNat_natCast]
   have p1 : B ^ (s - 1) = B ^ (s - 2) * 4294967296 := by rw [show s - 1 = s - 2 + 1 by omega, Nat.pow_succ]
   have p0 : B ^ s = B ^ (s - 2) * 4294967296 * 4294967296 := by rw [show s = s - 2 + 1 + 1 by omega, Nat.pow_succ, Nat.pow_succ]; rfl
   rw [p1, p0]
   generalize B ^ (s - 2) = p
   rw [Nat.add_mul, Nat.add_mul, Nat.add_mul]
   rw [show p * 4294967296 * 4294967296 * u0 = u0 * 4294967296 * 4294967296 * p by ac_rfl, show p * 4294967296 * u1 = u1 * 4294967296 * p by ac_rfl, Nat.mul_comm p u2]
   omega
theorem top2 {V : List Int} {s v1 v2 : Nat} (hs : 2 ≤ s) (hl : V.length = s) (h : Lim V) (h1 : V.getD (s - 1) 0 = (v1 : Int)) (h2 : V.getD (s - 2) 0 = (v2 : Int)) :
   ∃ low, low < B ^ (s - 2) ∧ zg V = low + (v1 * 4294967296 + v2) * B ^ (s - 2) := by
 refine ⟨zg (V.take (s - 2)), ?_, ?_⟩
 · have := zA3 (h.take (s - 2))
   rwa [List.length_take, Nat.min_eq_left (by omega)] at this
 · have e : zg V = zg (V.take (s - 2 + 1 + 1)) := by rw [List.take_of_length_le (by omega)]
   rw [e, zAA, zAA, show s - 2 + 1 = s - 1 by omega, h1, h2]
   simp only [Int.toNat_natCast]
   have p1 : B ^ (s - 1) = B ^ (s - 2) * 4294967296 := by rw [show s - 1 = s - 2 + 1 by omega, Nat.pow_succ]
   rw [p1]
   generalize B ^ (s - 2) = p
   rw [Nat.add_mul, show p * 4294967296 * v1 = v1 * 4294967296 * p by ac_rfl, Nat.mul_comm p v2]
   omega
theorem est0 {u v U3 V2 P g lu lv : Nat} (hP : 0 < P) (hlu : lu < P) (eu : u = lu + U3 * P) (hlv : lv < P) (ev : v = lv + V2 * P) (hV2 : 4294967296 ≤ V2) (hlt : u < 4294967296 * v) (hg : g ≤ 4294967295) (hgV : g * V2 ≤ U3)
   (hmax : ∀ g', g' ≤ 4294967295 → g' * V2 ≤ U3 → g' ≤ g) : u / v ≤ g ∧ g ≤ u / v + 1 := by
 have hv0 : 0 < v := by
   have : 1 * P ≤ V2 * P := Nat.mul_le_mul_right _ (by omega)
   omega
 have hq : u / v ≤ 4294967295 := by
   have := Nat.div_lt_of_lt_mul (n := v) (k := 4294967296) (m := u) (by rw [Nat.mul_comm]; exact hlt)
   omega
 constructor
 · refine hmax _ hq (est_ge (u := u) (v := v) hP ?_ ?_ (Nat.div_mul_le_self u v))
   · rw [Nat.add_mul]; omega
   · omega
 · rcases Nat.eq_zero_or_pos g with q | q
   · rw [q]; exact Nat.zero_le _
   · have := est_le (u := u) (v := v) (P := P) hP (by omega) (by rw [Nat.add_mul]; omega) hgV (by omega) q
     have h3 : g - 1 ≤ u / v := by rw [Nat.le_div_iff_mul_le hv0]; exact this
     omega
/-- The estimate is the zBm or one more. -/
theorem est {U V : List Int} {s u0 u1 u2 v1 v2 g : Nat} (hs : 2 ≤ s) (hl : U.length = s + 1) (hlv : V.length = s) (h : Lim U) (hv : Lim V) (h0 : U.getD s 0 = (u0 : Int)) (h1 : U.getD (s - 1) 0 = (u1 : Int)) (h2 : U.getD (s - 2) 0 = (u2 : Int))
   (k1 : V.getD (s - 1) 0 = (v1 : Int)) (k2 : V.getD (s - 2) 0 = (v2 : Int)) (htop : 2147483648 ≤ v1) (hlt : zg U < 4294967296 * zg V) (hg : g ≤ 4294967295) (hgV : g * (v1 * 4294967296 + v2) ≤ (u0 * 4294967296 + u1) * 4294967296 + u2)
   (hmax : ∀ g', g' ≤ 4294967295 → g' * (v1 * 4294967296 + v2) ≤ (u0 * 4294967296 + u1) * 4294967296 + u2 → g' ≤ g) : zg U / zg V ≤ g ∧ g ≤ zg U / zg V + 1 := by
 obtain ⟨lu, hlu, eu⟩ := top3 hs hl h h0 h1 h2
 obtain ⟨lv, hlv', ev⟩ := top2 hs hlv hv k1 k2
 exact est0 (bpos _) hlu eu hlv' ev (by omega) hlt hg hgV hmax
theorem and_low (m : Nat) : m &&& 4294967295 = m % 4294967296 := by
 have := Nat.and_two_pow_sub_one_eq_mod m 32
 have e : 2 ^ 32 - 1 = 4294967295 := by decide
 rw [e, p32] at this
 exact this
/-- One limb of the subtraction. -/
theorem zOY {Uc U V : List Int} {i g cr br ui vi yv b' : Nat} (hi : i < Uc.length) (h : zg (Uc.take i) + g * zg (V.take i) = zg (U.take i) + B ^ i * (cr + br)) (hu : U.getD i 0 = (ui : Int)) (hv : V.getD i 0 = (vi : Int))
   (hy : yv + ((cr + g * vi) % 4294967296 + br) = ui + 4294967296 * b') :
   zg ((Uc.set i (yv : Int)).take (i + 1)) + g * zg (V.take (i + 1)) = zg (U.take (i + 1)) + B ^ (i + 1) * ((cr + g * vi) / 4294967296 + b') := by
 rw [zFR hi, zDc, List.length_take, Nat.min_eq_left (by omega), zAA, zAA, hu, hv, Int.toNat_natCast, Int.toNat_natCast, Int.toNat_natCast, Nat.pow_succ]
 have := sub_step (P := B ^ i) h b' (t := g * vi) (y := yv) (ui := ui) (by unfold B; omega)
 rw [Nat.mul_add, Nat.mul_left_comm g (B ^ i) vi]
 exact this
theorem zRY {a br e : Nat} (ha : a < 4294967296) (he : e < 4294967296) (hb : br ≤ 1) : ∃ yv b' : Nat, yv + (e + br) = a + 4294967296 * b' ∧ b' ≤ 1 ∧ yv < 4294967296 ∧ ((a : Int) - e - br < 0 → b' = 1 ∧ (yv : Int) = a - e - br + 4294967296) ∧ (¬ (a : Int) - e - br < 0 → b' = 0 ∧ (yv : Int) = a - e - br) := by
 rcases Nat.lt_or_ge a (e + br) with q | q
 · exact ⟨a + 4294967296 - (e + br), 1, by omega, by omega, by omega, fun h => ⟨Y, by omega⟩, fun h => by omega⟩
 · exact ⟨a - (e + br), 0, by omega, by omega, by omega, fun h => by omega, fun h => ⟨Y, by omega⟩⟩
/-- One limb of the sum in place. -/
theorem zRK {Uc U V : List Int} {i sm ui vi : Nat} (hi : i < Uc.length) (h : zg (Uc.take i) + B ^ i * sm = zg (U.take i) + zg (V.take i)) (hu : U.getD i 0 = (ui : Int)) (hv : V.getD i 0 = (vi : Int)) :
   zg ((Uc.set i (((sm + ui + vi) % 4294967296 : Nat) : Int)).take (i + 1)) + B ^ (i + 1) * ((sm + ui + vi) / 4294967296) = zg (U.take (i + 1)) + zg (V.take (i + 1)) := by
 rw [zFR hi]
 exact zN3 (by simp; omega) h hu hv
end Go.Ax.Bg
namespace Go.Proofs.YtnkealfaldjipaaGreatDoor
open Go.Ax Go.Ax.Bg Go.RowKit
attribute [local irreducible] Ax zBG QOp zV
set_option maxRecDepth 100000
set_option maxHeartbeats 4000000
theorem zOV (a b : Nat) (ha : (za a).length ≤ 100000000) (hb : (za b).length ≤ 100000000) : zW Tryz.prog 152 [zAO a, zAO b] (zAO (a * b)) := by
 refine zV.value0 (zG (P := Tryz.prog) (fn := Tryz.f152) Y Y (by kernel_rfl) Y (fun c hR hfix => ?_)) (fix := fun _ => False) (fun _ h => h) Y Y
 have hx := zAc a
 have hy := zAc b
 have hv : zg (za a) * zg (za b) = a * b := by rw [zAE, zAE]
 unfold zAO
 rw [← hv] at hR
 generalize za a = x at *
 generalize za b = y at *
 refine rn3 ?_
 refine zCB Y Y Y Y Y Y Y Y (by show (0 : Int) ≤ _ ∧ _ ≤ _ ∧ (4 : Int) * _ ≤ _ ∧ _; omega) ?_
 rw [show ((x.length : Int) + (y.length : Int)).toNat = x.length + y.length by omega]
 refine rn3 ?_
 refine zi (ι := Nat × List Int) (fun p => [(1, .ro (.ints .u32 y) 0 y.length), (5, .sl 0 0 (x.length + y.length)), (17, .ro (.ints .u32 x) 0 x.length), (18, .int .i64 (x.length : Nat)), (19, .int .i64 (p.1 : Nat))]) (fun p => [some ⟨224, .ints .u32 p.2⟩])
   (fun p => p.1 ≤ x.length ∧ p.2.length = x.length + y.length ∧ Lim p.2 ∧ zg p.2 = zg (x.take p.1) * zg y ∧ ∀ q, p.1 + y.length ≤ q → p.2.getD q 0 = 0) (fun p => x.length - p.1) (0, List.replicate (x.length + y.length) 0) ⟨⟨rfl, rfl, rfl, rfl, rfl, trivial⟩, rfl, Nat.zero_le _, by simp, Lim.zeros _, by simp [zg, zHo], fun q _ => zOA _ _⟩ ?_
 rintro ⟨i, out⟩ ⟨h1, h2, h3, h4, h5⟩
 simp only at *
 refine rn4 ?_
 refine zE Y (fun h6 => ?_) (fun h6 => ?_)
 · have hil : i < x.length := by omega
   obtain ⟨d, hd, hdB⟩ := hx.nat i
   refine rn6 ?_
   refine z7 7 (.int .u32 (d : Nat)) Y (AEq.of_eq (by rw [hd])) ?_
   refine zi (ι := Nat × List Int × Nat) (fun p => [(1, .ro (.ints .u32 y) 0 y.length), (5, .sl 0 0 (x.length + y.length)), (6, .int .i64 (i : Nat)), (7, .int .u32 (d : Nat)), (8, .int .u64 (p.2.2 : Nat)), (17, .ro (.ints .u32 x) 0 x.length), (18, .int .i64 (x.length : Nat)), (19, .int .i64 (i : Nat)), (24, .ro (.ints .u32 y) 0 y.length), (25, .int .i64 (y.length : Nat)), (26, .int .i64 (p.1 : Nat))]) (fun p => [some ⟨224, .ints .u32 p.2.1⟩])
     (fun p => p.1 ≤ y.length ∧ p.2.1.length = x.length + y.length ∧ Lim p.2.1 ∧ p.2.2 < 4294967296 ∧ zg p.2.1 + B ^ (i + p.1) * p.2.2 = zg (x.take i) * zg y + B ^ i * (d * zg (y.take p.1)) ∧ ∀ q, i + y.length ≤ q → p.2.1.getD q 0 = 0) (fun p => y.length - p.1) (0, out, 0) ⟨⟨rfl, rfl, rfl, rfl, rfl, rfl, rfl, rfl, rfl, rfl, rfl, trivial⟩, rfl, Nat.zero_le _, h2, h3, Nat.zero_lt_succ _, by simp [zg, h4], h5⟩ ?_
   rintro ⟨j, o2, cr⟩ ⟨k1, k2, k3, k4, k5, k6⟩
   simp only at *
   refine rn4 ?_
   refine zE Y (fun k7 => ?_) (fun k7 => ?_)
   · have hjl : j < y.length := by omega
     obtain ⟨e, he, heB⟩ := hy.nat j
     obtain ⟨f, hf, hfB⟩ := k3.nat (i + j)
     have hb1 : d * e ≤ 4294967295 * 4294967295 := Nat.mul_le_mul (by omega) (by omega)
     refine rn6 ?_
     refine zD (zAb (m := d) Y Y Y zBO (by omega)) ?_
     repeat (refine zD (zH rfl) ?_)
     refine zN 34 (.int .u32 (e : Nat)) Y (AEq.of_eq (by rw [he])) ?_
     refine zD (zAb (m := e) Y Y Y zBO (by omega)) ?_
     refine zD (zIk Y Y zBO (by omega)) ?_
     refine rn3 ?_
     refine zN 40 (.int .i64 (i + j : Nat)) Y (AEq.of_eq (by rw [Int.natCast_add])) ?_
     repeat (first | refine zD (zd rfl rfl rfl rfl rfl (by first | (simp only [Nat.zero_add, Int.toNat_natCast, Int.toNat_zero]; exact rfl) | exact rfl) (by omega)) ?_ | refine zD (zAT rfl rfl rfl rfl (by first | assumption | omega)) ?_)
     refine zN 42 (.int .u32 (f : Nat)) Y (AEq.of_eq (by rw [hf])) ?_
     refine zD (zAb (m := f) Y Y Y zBO (by omega)) ?_
     refine zD (zFK Y Y zBO (by omega)) ?_
     refine zD (zFK Y Y zBO (by omega)) ?_
     refine rn3 ?_
     refine zD (zF4 Y Y Y zEr) ?_
     refine zN 49 (.int .i64 (i + j : Nat)) Y (AEq.of_eq (by rw [Int.natCast_add])) ?_
     repeat (first | refine zD (zH rfl) ?_ | refine zC ?_ | refine zA ?_ | refine zK rfl ?_ | refine zD (zd rfl rfl rfl rfl rfl (by first | (simp only [Nat.zero_add, Int.toNat_natCast, Int.toNat_zero]; exact rfl) | exact rfl) (by omega)) ?_ | refine zAp rfl rfl rfl rfl rfl rfl rfl (by first | assumption | (show _ < List.length _; first | assumption | omega)) ?_)
     refine zD (zF3 (s := 32) Y Y Y) ?_
     refine rn5 ?_
     refine zM ⟨(j + 1, o2.set (i + j) (((cr + (d * e + f)) % 4294967296 : Nat) : Int), (cr + (d * e + f)) / 4294967296), ⟨by simp only; omega, by simp [k2], k3.set (zDp _), by simp only; omega, ?_, fun q hq => ?_⟩, by simp only; omega, ⟨Y, Y, Y, Y, Y, Y, Y, Y, Y, Y, Y, trivial⟩, Y⟩
     · have := mul_step (cr := cr) (a := d) (b := e) (p := i + j) (by omega) k5 hf
       simp only
       rw [show i + (j + 1) = i + j + 1 from rfl, this, zAA y j, he, Int.toNat_natCast, Nat.add_assoc]
       congr 1
       rw [Nat.mul_add, Nat.mul_add, Nat.pow_add]
       congr 1
       ac_rfl
     · simp only
       rw [zDV (by omega)]; exact k6 q hq
   · have hje : j = y.length := by omega
     subst hje
     rw [List.take_length] at k5
     have hz := k6 (i + y.length) (Nat.le_refl _)
     have hset := zKZ (x := (cr : Int)) (show i + y.length < o2.length by omega)
     rw [hz, Int.toNat_natCast] at hset
     refine rn5 ?_
     refine zD (zAb (m := cr) Y Y Y zEr k4) ?_
     refine zN 60 (.int .i64 (i + y.length : Nat)) Y (AEq.of_eq (by rw [Int.natCast_add])) ?_
     repeat (first | refine zD (zH rfl) ?_ | refine zC ?_ | refine zA ?_ | refine zK rfl ?_ | refine zf ?_ | refine zD (zDZ rfl rfl (by omega)) ?_ | refine zD (zd rfl rfl rfl rfl rfl (by first | (simp only [Nat.zero_add, Int.toNat_natCast, Int.toNat_zero]; exact rfl) | exact rfl) (by omega)) ?_ | refine zAp rfl rfl rfl rfl rfl rfl rfl (by first | assumption | (show _ < List.length _; first | assumption | omega)) ?_)
     refine zM ⟨(i + 1, o2.set (i + y.length) (cr : Int)), ⟨by simp only; omega, by simp [k2], k3.set (by omega), ?_, fun q hq => ?_⟩, by simp only; omega, ⟨Y, Y, Y, Y, Y, trivial⟩, Y⟩
     · simp only
       rw [zAA x i, hd, Int.toNat_natCast, Nat.add_mul, Nat.mul_assoc, ← k5]
       have : (0 : Int).toNat = 0 := rfl
       rw [this] at hset
       omega
     · simp only at hq ⊢
       rw [zDV (by omega)]; exact k6 q (by omega)
 · have hie : i = x.length := by omega
   subst hie
   rw [List.take_length] at h4
   have hc := zDx _ h3 (by omega)
   rw [h4] at hc
   refine rn5 ?_
   refine zC7 0 65 (x.length + y.length) [] Y zAW Y (by show _ ≤ out.length; omega) trivial ?_
   refine zB Y Y (zDK h2) hc ?_
   refine rn0 ?_
   exact zI hR Y Y
/-- shift: limbs of one's own. -/
theorem zOB (n : List Int) (s : Nat) (hn : Lim n) (hlen : n.length ≤ 100000000) (hs : s < 32) :
   zJI Tryz.prog 206 [zF7 n, .int .i64 (s : Nat)] (fun h => .sl h 0 (n.length + 1)) ⟨224, .ints .u32 (zB0 (n.length + 1) (zg n * 2 ^ s))⟩ := by
 refine zV.fresh (K := fun r H => r = .sl 0 0 (n.length + 1) ∧ H = [some ⟨224, .ints .u32 (zB0 (n.length + 1) (zg n * 2 ^ s))⟩]) (zG (P := Tryz.prog) (fn := Tryz.f206) Y Y (by kernel_rfl) Y (fun c hR hfix => ?_)) (fix := fun _ => False) (fun _ h => h) Y (fun H => ⟨Y, trivial, trivial, trivial⟩) ?_
 · have hp : 2 ^ s ≤ 2147483648 := by
     have := Nat.pow_le_pow_right (show 0 < 2 by decide) (show s ≤ 31 by omega)
     exact Nat.le_trans this (by decide)
   have hp1 : 0 < 2 ^ s := Nat.pow_pos (by decide)
   unfold zF7
   refine rn3 ?_
   refine zCB Y Y Y Y Y Y Y Y (by show (0 : Int) ≤ 0 ∧ _ ≤ _ ∧ (4 : Int) * _ ≤ _ ∧ _; omega) ?_
   refine rn3 ?_
   refine zKX 0 (.ints .u32 []) Y ⟨Nat.zero_le _, Y, fun i j hi _ => absurd hi (Nat.not_lt_zero _)⟩ ?_
   refine zi (ι := Nat × List Int × Nat) (fun p => [(1, .int .i64 (s : Nat)), (5, .sl 0 0 p.1), (6, .int .u64 (p.2.2 : Nat)), (13, .ro (.ints .u32 n) 0 n.length), (14, .int .i64 (n.length : Nat)), (15, .int .i64 (p.1 : Nat))]) (fun p => [some ⟨224, .ints .u32 p.2.1⟩])
     (fun p => p.1 ≤ n.length ∧ p.2.1.length = p.1 ∧ Lim p.2.1 ∧ p.2.2 < 2 ^ s ∧ zg p.2.1 + B ^ p.1 * p.2.2 = zg (n.take p.1) * 2 ^ s) (fun p => n.length - p.1) (0, [], 0) ⟨⟨rfl, rfl, rfl, rfl, rfl, rfl, trivial⟩, rfl, Nat.zero_le _, rfl, Lim.nil, hp1, by simp [zg]⟩ ?_
   rintro ⟨i, out, cr⟩ ⟨h1, h2, h3, h4, h5⟩
   simp only at *
   refine rn4 ?_
   refine zE Y (fun h6 => ?_) (fun h6 => ?_)
   · have hil : i < n.length := by omega
     obtain ⟨d, hd, hdB⟩ := hn.nat i
     have hor : cr ||| d * 2 ^ s = cr + d * 2 ^ s := by
       have := Nat.two_pow_add_eq_or_of_lt h4 d
       rw [Nat.or_comm, Nat.mul_comm d, ← this, Nat.add_comm]
     have hdm : d * 2 ^ s ≤ 4294967295 * 2147483648 := Nat.mul_le_mul (by omega) hp
     have hq : (cr + d * 2 ^ s) / 4294967296 < 2 ^ s := by
       refine Nat.div_lt_of_lt_mul ?_
       have : (d + 1) * 2 ^ s ≤ 4294967296 * 2 ^ s := Nat.mul_le_mul_right _ (by omega)
       rw [Nat.add_mul] at this
       omega
     refine rn6 ?_
     refine zN 20 (.int .u32 (d : Nat)) Y (AEq.of_eq (by rw [hd])) ?_
     refine zD (zAb (m := d) Y Y Y zBO (by omega)) ?_
     repeat (refine zD (zH rfl) ?_)
     refine zD (zKA (m := d) (s := s) Y Y (by show s ≤ 64; omega) zBO (by omega)) ?_
     refine zD (QOp.res (zNl Y Y zBO Y (by omega) (by omega)) (by rw [hor])) ?_
     refine rn0 ?_
     refine zD (zF4 Y Y Y zEr) ?_
     repeat (refine zj rfl rfl rfl rfl rfl rfl rfl rfl rfl rfl rfl ?_)
     refine zp Y Y Y Y Y Y Y Y Y h2 Y Y (Nat.le_refl 1) Y (by show (i + 1) * 4 ≤ _ ∧ _; omega) (fun i j _ _ => rfl) (by rw [hfix]; exact fun h => h) ?_
     refine rn0 ?_
     refine zD (zF3 (s := 32) Y Y Y) ?_
     refine rn5 ?_
     refine zM ⟨(i + 1, out ++ [(((cr + d * 2 ^ s) % 4294967296 : Nat) : Int)], (cr + d * 2 ^ s) / 4294967296), ⟨by simp only; omega, by simp [h2], Lim.append.2 ⟨h3, Lim.one (zDp _)⟩, hq, ?_⟩, by simp only; omega, ⟨Y, Y, Y, Y, Y, Y, trivial⟩, Y⟩
     have := zHc h2 h5 (c := cr + d * 2 ^ s) (d := d * 2 ^ s) rfl
     simp only at this ⊢
     rw [this, zAA n i, hd, Int.toNat_natCast, Nat.add_mul, Nat.mul_assoc]
   · have hie : i = n.length := by omega
     subst hie
     rw [List.take_length] at h5
     refine rn5 ?_
     refine zD (zAb (m := cr) Y Y Y zEr (by omega)) ?_
     repeat (refine zj rfl rfl rfl rfl rfl rfl rfl rfl rfl rfl rfl ?_)
     refine zp Y Y Y Y Y Y Y Y Y h2 Y Y (Nat.le_refl 1) Y (by show (n.length + 1) * 4 ≤ _ ∧ _; omega) (fun i j _ _ => rfl) (by rw [hfix]; exact fun h => h) ?_
     have hl : Lim (out ++ [(cr : Int)]) := Lim.append.2 ⟨h3, Lim.one (by omega)⟩
     have hv : zg (out ++ [(cr : Int)]) = zg n * 2 ^ s := by
       rw [zDc, h2, Int.toNat_natCast]; exact h5
     have hfx := zHB hl (k := n.length + 1) (by simp [h2]) hv
     refine rn0 ?_
     refine zI hR Y ⟨Y, ?_⟩
     show ([some ⟨224, .ints .u32 (out ++ [(cr : Int)])⟩] : zZ) = _
     rw [hfx]
 · rintro r H ⟨rfl, rfl⟩
   refine ⟨fun o ho => by simp at ho; subst ho; show 0 + (n.length + 1) ≤ (zB0 _ _).length; rw [zB2]; omega, zGX zAW, 0, rfl, fun k => rfl⟩
end Go.Proofs.YtnkealfaldjipaaGreatDoor
