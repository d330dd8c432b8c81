import Derived.Lib.Bytealg
import Derived.Laws.Externs
import Derived.Laws.CopyRow
import Derived.Test.YtmfhdfofmdggaaaDoorProg
import Derived.Lib.Join
import Derived.Shelf.Strings.OnBuilder
import Derived.Laws.Bits64
import Derived.Test.YtmfhdfofmdggaaaDoorG1
set_option linter.unusedVariables false
set_option linter.unusedSimpArgs false
/-
  Rules: functions of the library that the model gives itself.
-/
namespace Go.Ax
open Go.RowKit

section
variable {ind : Bool} {P : Program} {fn : Func} {c : Ctx} {fr : Fr} {H : AHeap} {k : List It}
variable {d : Option Nat} {ty : TypeId} {pos : String} {after : Array Edge} {gu : Option (Nat × Bool)}

theorem q_extern {g : Operand} {args : List Operand} {ats : Array TypeId} {f : FuncId} {fx : Func} {e : Array Value → Sem Value} {ags : List AV} {r : AV} (hg : ev fr g = some (.fn f [])) (ha : evs fr args = some ags)
    (hf : P.funcs[f]? = some fx) (hname : (fx.name == "runtime.NumGoroutine") = false) (hb : fx.body.isNone = true) (hn : Extern.findNext fx = none) (he : Extern.find fx = some e)
    (hrun : ∀ w S σ vals, VRs w S σ ags vals → ∃ x, VR w S σ r x ∧ ∀ w', (e vals).run P w' = .ok x w') :
    QOp ind P fn c fr H ⟨d, .call { callee := .value g, args := args.toArray, argTypes := ats }, ty, pos, after, gu⟩ r := by
  intro w a σ S hr
  have h1 := hr.evAt hg
  obtain ⟨e1, e2⟩ := evs_spec hr args ags ha
  generalize hz : a.eval g = z at h1
  cases h1 with
  | fn _ _ _ vs hl hv =>
    have hvs : vs = #[] := by
      have : vs.size = 0 := by simpa using hl
      exact Array.eq_empty_of_size_eq_zero this
    subst hvs
    have hv0 : VRs w S σ ags (args.map a.eval).toArray := by
      refine ⟨by simp [e1], fun i hi => ?_⟩
      have := e2 i hi
      have hlt : i < args.length := by omega
      have eb : (args.map a.eval).toArray.getD i undef = (args.map a.eval).getD i undef := by simp [List.getD, hlt]
      rw [eb]; exact this
    obtain ⟨x, hx2, hall⟩ := hrun w S σ _ hv0
    refine ⟨x, hx2, fun w' _ => ?_⟩
    have hc := run_callFunc_extern (P := P) hf hname hb hn he (args.map a.eval).toArray w'
    rw [hall w'] at hc
    simp only [execOp, resolve, hz, Deferred.ofValue, Sem.run_bind, Sem.run_pure, Result.andThen_ok, invoke, List.map_toArray, Array.empty_append, Array.append_empty] at hc ⊢
    exact hc

theorem VRs.strByte {w : World} {S : Nat → Prop} {σ : Nat → Option Blk} {s : List UInt8} {b : Int} {vals : Array Value} (h : VRs w S σ [.str s, .int .u8 b] vals) : vals = #[strV s, .int .u8 b] := by
  obtain ⟨h1, h2⟩ := h
  have a := h2 0 (by simp)
  have b' := h2 1 (by simp)
  apply Array.ext
  · simpa using h1
  · intro i hi1 hi2
    have hlt : i < 2 := by simpa using hi2
    match i, hlt with
    | 0, _ =>
      simp only [List.getD_cons_zero, Array.getD, hi1, dite_true] at a
      generalize hv : vals[0] = v at *
      have hv' : vals.getInternal 0 hi1 = v := hv
      rw [hv'] at a
      cases a; rfl
    | 1, _ =>
      simp only [List.getD_cons_succ, List.getD_cons_zero, Array.getD, hi1, dite_true] at b'
      generalize hv : vals[1] = v at *
      have hv' : vals.getInternal 1 hi1 = v := hv
      rw [hv'] at b'
      cases b'; rfl
/-- internal/bytealg.IndexByteString -/
theorem q_indexByte {g x y : Operand} {ats : Array TypeId} {f : FuncId} {fx : Func} {s : List UInt8} {b : Int} (hg : ev fr g = some (.fn f [])) (hx : ev fr x = some (.str s)) (hy : ev fr y = some (.int .u8 b))
    (hf : P.funcs[f]? = some fx) (hname : (fx.name == "runtime.NumGoroutine") = false) (hb : fx.body.isNone = true) (hn : Extern.findNext fx = none) (he : Extern.find fx = some Extern.BytealgIndexByte.indexByte) :
    QOp ind P fn c fr H ⟨d, .call { callee := .value g, args := #[x, y], argTypes := ats }, ty, pos, after, gu⟩ (.int .i64 (Lib.indexByte s b.toNat.toUInt8)) :=
  q_extern (args := [x, y]) (ags := [.str s, .int .u8 b]) hg (by simp [evs, hx, hy]) hf hname hb hn he (fun w S σ vals hv => ⟨_, .int _ _ _, fun w' => by rw [hv.strByte]; exact Lib.run_indexByteString _ _ _⟩)
/-- internal/bytealg.CountString -/
theorem q_countByte {g x y : Operand} {ats : Array TypeId} {f : FuncId} {fx : Func} {s : List UInt8} {b : Int} (hg : ev fr g = some (.fn f [])) (hx : ev fr x = some (.str s)) (hy : ev fr y = some (.int .u8 b))
    (hf : P.funcs[f]? = some fx) (hname : (fx.name == "runtime.NumGoroutine") = false) (hb : fx.body.isNone = true) (hn : Extern.findNext fx = none) (he : Extern.find fx = some Extern.BytealgCount.count) :
    QOp ind P fn c fr H ⟨d, .call { callee := .value g, args := #[x, y], argTypes := ats }, ty, pos, after, gu⟩ (.int .i64 (s.count b.toNat.toUInt8 : Nat)) :=
  q_extern (args := [x, y]) (ags := [.str s, .int .u8 b]) hg (by simp [evs, hx, hy]) hf hname hb hn he (fun w S σ vals hv => ⟨_, .int _ _ _, fun w' => by rw [hv.strByte]; exact Lib.run_countString _ _ _⟩)
end

theorem rowsI_app (ls : List (List Int)) (s : List Int) (cx : Cells) (h0 : cx.at 0 0 = .ro (.ints .i64 s) 0 s.length) (i j : Nat) (hi : i < ls.length + 1) (hj : j < 1) :
    (bif Nat.blt i ls.length then (rowsI ls).at i j else cx.at (0 + (i - ls.length)) j) = (rowsI (ls ++ [s])).at i j := by
  obtain rfl : j = 0 := by omega
  by_cases h : i < ls.length
  · have hb : Nat.blt i ls.length = true := Nat.ble_eq_true_of_le h
    simp only [hb, cond_true, rowsI, Cells.at, List.getD]
    rw [List.getElem?_append_left h]
  · have hb : Nat.blt i ls.length = false := by
      cases hq : Nat.blt i ls.length with
      | false => rfl
      | true => exact absurd (Nat.le_of_ble_eq_true hq) h
    have hi' : i = ls.length := by omega
    subst hi'
    have e : (rowsI (ls ++ [s])).at ls.length 0 = .ro (.ints .i64 s) 0 s.length := by
      simp only [rowsI, Cells.at, List.getD]
      rw [List.getElem?_append_right (Nat.le_refl _)]
      simp
    rw [hb, e, Nat.sub_self, Nat.add_zero, h0]; rfl
/-- The row, one longer. -/
theorem rowsI_snoc (ls : List (List Int)) (s : List Int) (cx : Cells) (h0 : cx.at 0 0 = .ro (.ints .i64 s) 0 s.length) :
    CEq (.fn (ls.length + 1) 1 (fun i j => bif Nat.blt i ls.length then (rowsI ls).at i j else cx.at (0 + (i - ls.length)) j)) (rowsI (ls ++ [s])) := by
  refine ⟨by simp [rowsI, Cells.len], rfl, fun i j hi hj => ?_⟩
  exact (rowsI_app ls s cx h0 i j hi hj).symm
theorem rowsI_noref (ls : List (List Int)) (s : List Int) (cx : Cells) (h0 : cx.at 0 0 = .ro (.ints .i64 s) 0 s.length) (h i j : Nat) (hi : i < ls.length + 1) (hj : j < 1) :
    (bif Nat.blt i ls.length then (rowsI ls).at i j else cx.at (0 + (i - ls.length)) j).forget h = (bif Nat.blt i ls.length then (rowsI ls).at i j else cx.at (0 + (i - ls.length)) j) := by
  rw [rowsI_app ls s cx h0 i j hi hj]; rfl
theorem AEq.tup2 {x x' y : AV} (h : AEq x x') : AEq (.tup [x, y]) (.tup [x', y]) := by
  intro w S σ v hv
  cases hv with
  | tup _ _ vs hl hv =>
    refine .tup _ _ _ hl (fun i hi => ?_)
    have := hv i hi
    match i, hi with
    | 0, _ => exact h _ _ _ _ this
    | 1, _ => exact this
theorem ACall.res {P : Program} {f : FuncId} {args : List AV} {H : AHeap} {fix : Nat → Prop} {K K' : AV → AHeap → Prop} (hc : ACall P f args H fix K) (hK : ∀ r H', K r H' → ∃ r', AEq r r' ∧ K' r' H') : ACall P f args H fix K' := by
  refine ⟨hc.1, fun w σ S vals h1 h2 h3 => Calls.mono (hc.2 w σ S vals h1 h2 h3) fun e w' he => ?_⟩
  obtain ⟨v, r, σ', S', H', g1, g2, g3, g4, g5⟩ := he
  obtain ⟨r', hr1, hr2⟩ := hK _ _ g5
  exact ⟨v, r', σ', S', H', g1, g2, hr1 _ _ _ _ g3, ⟨g4.os, g4.output, g4.tape, g4.size, g4.block, g4.S1, g4.S2, g4.fixed, g4.fixlt, g4.own⟩, hr2⟩
def AEqs : List AV → List AV → Prop
  | [], [] => True
  | x :: r, y :: q => AEq x y ∧ AEqs r q
  | _, _ => False
theorem AEqs.length : ∀ {a b : List AV}, AEqs a b → a.length = b.length
  | [], [], _ => rfl
  | _ :: r, _ :: q, h => by simp [AEqs.length h.2]
  | [], _ :: _, h => h.elim
  | _ :: _, [], h => h.elim
theorem AEqs.get : ∀ {a b : List AV}, AEqs a b → ∀ i, i < a.length → AEq (a.getD i .any) (b.getD i .any)
  | [], [], _, i, hi => by simp at hi
  | x :: r, y :: q, h, 0, _ => h.1
  | x :: r, y :: q, h, i + 1, hi => by simpa using AEqs.get h.2 i (by simpa using hi)
  | [], _ :: _, h, _, _ => h.elim
  | _ :: _, [], h, _, _ => h.elim
/-- A contract, at arguments told otherwise. -/
theorem VCall.args {P : Program} {f : FuncId} {ags ags' : List AV} {r : AV} (hc : VCall P f ags' r) (h : AEqs ags ags') : VCall P f ags r := by
  intro H
  have h1 := hc H
  unfold ACall at h1 ⊢
  refine ⟨h1.1, fun w σ S vals hr hf hv => h1.2 w σ S vals hr hf ⟨hv.1.trans h.length, fun j hj => ?_⟩⟩
  rw [← h.length] at hj
  exact h.get j hj _ _ _ _ (hv.2 j hj)
theorem VCall.res {P : Program} {f : FuncId} {args : List AV} {r r' : AV} (hc : VCall P f args r) (h : AEq r r') : VCall P f args r' :=
  fun H => (hc H).res fun _ _ ⟨h1, h2⟩ => ⟨r', h1 ▸ h, rfl, h2⟩
end Go.Ax

/-
  More rules: arrays and structs in memory and as values.
-/
namespace Go.Ax
open Go.RowKit

section
variable {ind : Bool} {P : Program} {fn : Func} {c : Ctx} {fr : Fr} {H : AHeap} {k : List It}
variable {d : Option Nat} {ty : TypeId} {pos : String} {after : Array Edge} {g : Option (Nat × Bool)}

/-- The address of an array's element (of one cell). -/
theorem q_idxarr_ptr {x ix : Operand} {t e : TypeId} {n h i j jx : Nat} {kk : IntKind} {m : Int} (ht : P.underlying t = some (.array n e)) (hs : (P.info? e).map (·.size) = some 1) (hx : ev fr x = some (.ptr h i j)) (hi : ev fr ix = some (.int kk m)) (hj : j + m.toNat = jx) (hb : 0 ≤ m ∧ m < n) :
    QOp ind P fn c fr H ⟨d, .indexAddr t x ix, ty, pos, after, g⟩ (.ptr h i jx) := by
  intro w a σ S hr
  have h1 := hr.evAt hx
  have h2 := hr.evInt hi
  subst hj
  generalize hz : a.eval x = z at h1
  cases h1 with
  | ptr _ _ _ _ b s C hσ =>
    refine ⟨_, .ptr _ h i (j + m.toNat) b s C hσ, fun w' _ => ?_⟩
    cases hq : P.info? e with
    | none => simp [hq] at hs
    | some inf =>
      have hsz : inf.size = 1 := by simpa [hq] using hs
      simp [execOp, hz, h2, Instr.indexAt, Instr.sureAddr, asIntOf, run_underlying ht, hb, sizeOf, typeInfo, hq, hsz, Addr.add_lit, Nat.add_assoc]
theorem q_idxarr_rp {x ix : Operand} {t e : TypeId} {n i j jx : Nat} {cl : Cells} {kk : IntKind} {m : Int} (ht : P.underlying t = some (.array n e)) (hs : (P.info? e).map (·.size) = some 1) (hx : ev fr x = some (.rp cl i j)) (hi : ev fr ix = some (.int kk m)) (hj : j + m.toNat = jx) (hb : 0 ≤ m ∧ m < n) :
    QOp ind P fn c fr H ⟨d, .indexAddr t x ix, ty, pos, after, g⟩ (.rp cl i jx) := by
  intro w a σ S hr
  have h1 := hr.evAt hx
  have h2 := hr.evInt hi
  subst hj
  generalize hz : a.eval x = z at h1
  cases h1 with
  | rp _ _ _ _ b o val hS hc hvv h1' =>
    refine ⟨.pointer (some ⟨b, o + m.toNat, none⟩), .rp _ _ _ _ _ _ (fun e => val (m.toNat + e)) hS (fun e he => ?_) (fun e he => ?_) (fun e he => h1' _ (by omega)), fun w' _ => ?_⟩
    · have := hc (m.toNat + e) (by omega)
      rwa [← Nat.add_assoc] at this
    · have := hvv (m.toNat + e) (by omega)
      rwa [← Nat.add_assoc] at this
    · cases hq : P.info? e with
      | none => simp [hq] at hs
      | some inf =>
        have hsz : inf.size = 1 := by simpa [hq] using hs
        simp [execOp, hz, h2, Instr.indexAt, Instr.sureAddr, asIntOf, run_underlying ht, hb, sizeOf, typeInfo, hq, hsz, Addr.add_lit]

/-- Reading a whole struct or array. -/
theorem q_loadagg_ptr {x : Operand} {t : TypeId} {u : TypeDesc} {h i : Nat} {ob : AObj} {inf : TypeInfo} {L : List AV} (ht : P.underlying t = some u) (hu : isAggD u = true) (hinf : P.info? t = some inf) (hsz : inf.size = ob.c.sz) (hx : ev fr x = some (.ptr h i 0)) (hh : H[h]? = some (some ob))
    (hL : (List.range ob.c.sz).map (ob.c.at i) = L) (hi : i < ob.c.len) : QOp false P fn c fr H ⟨d, .load t x, ty, pos, after, g⟩ (.agg L) := by
  intro w a σ S hr
  have h1 := hr.evAt hx
  subst hL
  generalize hz : a.eval x = z at h1
  cases h1 with
  | ptr _ _ _ _ b s C hσ =>
    obtain ⟨hs', cur, g1, g2, g3, g4, g5, g6⟩ := hr.obj hh hσ
    subst hs'
    have hcell : ∀ w' : World, w'.heap = w.heap → ∀ j, j < ob.c.sz → ∃ y, w'.cell? ⟨b, i * ob.c.sz + j, none⟩ = some y ∧ VR w S σ (ob.c.at i j) y ∧ y.oneCell' = true := by
      intro w' hw j hj
      obtain ⟨y, e1, e2, e3⟩ := g6 i j hi hj
      exact ⟨y, by simp [World.cell?, hw, g1, e1], e2, e3⟩
    let cs : List Value := (List.range ob.c.sz).map (fun j => (w.cell? ⟨b, i * ob.c.sz + j, none⟩).getD undef)
    refine ⟨.agg cs.toArray, .agg _ _ _ (by simp [cs]) (fun j hj => ?_) (fun j hj => ?_), fun w' hw => ?_⟩
    · have hj' : j < ob.c.sz := by simpa using hj
      obtain ⟨y, e1, e2, _⟩ := hcell w rfl j hj'
      simpa [cs, Array.getD, hj', e1, List.getD] using e2
    · have hj' : j < ob.c.sz := by simpa using hj
      obtain ⟨y, e1, _, e3⟩ := hcell w rfl j hj'
      simpa [cs, Array.getD, hj', e1] using e3
    · have hw := hw.resolve_left (by decide)
      have hl := run_loadCells_list (P := P) w' ⟨b, i * ob.c.sz, none⟩ cs (fun j v hv => by
        have hj : j < ob.c.sz := by simpa [cs] using (List.getElem?_eq_some_iff.1 hv).1
        obtain ⟨y, e1, _, _⟩ := hcell w rfl j hj
        simp only [cs, List.getElem?_map, List.getElem?_range hj, Option.map_some, Option.some.injEq] at hv
        subst hv
        rw [e1, Addr.add_lit]
        have := World.cell?_of_block (w := w) (w' := w') (a := ⟨b, i * ob.c.sz + j, none⟩) (by rw [hw])
        rw [this, e1]; rfl)
      have hcl : cs.length = inf.size := by simp [cs, hsz]
      rw [hcl] at hl
      have hz' : a.eval x = .pointer (some ⟨b, i * ob.c.sz, none⟩) := by rw [hz]; simp
      simp [execOp, hz', Instr.loadAt, Instr.sureAddr, loadVar, run_isAgg ht, hu, sizeOf, typeInfo, hinf, hl]
theorem q_loadagg_rp {x : Operand} {t : TypeId} {u : TypeDesc} {i : Nat} {cl : Cells} {inf : TypeInfo} {L : List AV} (ht : P.underlying t = some u) (hu : isAggD u = true) (hinf : P.info? t = some inf) (hsz : inf.size = cl.sz) (hx : ev fr x = some (.rp cl i 0))
    (hL : (List.range cl.sz).map (cl.at i) = L) : QOp false P fn c fr H ⟨d, .load t x, ty, pos, after, g⟩ (.agg L) := by
  intro w a σ S hr
  have h1 := hr.evAt hx
  subst hL
  generalize hz : a.eval x = z at h1
  cases h1 with
  | rp _ _ _ _ b o val hS hc hvv h1' =>
    let cs : List Value := (List.range cl.sz).map val
    refine ⟨.agg cs.toArray, .agg _ _ _ (by simp [cs]) (fun j hj => ?_) (fun j hj => ?_), fun w' hw => ?_⟩
    · have hj' : j < cl.sz := by simpa using hj
      have := (hvv j (by omega)).mono (w' := w) (fun _ h => h) (fun _ _ => rfl) σ (fun _ _ h => by cases h)
      simpa [cs, Array.getD, hj', List.getD] using this
    · have hj' : j < cl.sz := by simpa using hj
      have := h1' j (by omega)
      simpa [cs, Array.getD, hj'] using this
    · have hw := hw.resolve_left (by decide)
      have hl := run_loadCells_list (P := P) w' ⟨b, o, none⟩ cs (fun j v hv => by
        have hj : j < cl.sz := by simpa [cs] using (List.getElem?_eq_some_iff.1 hv).1
        simp only [cs, List.getElem?_map, List.getElem?_range hj, Option.map_some, Option.some.injEq] at hv
        subst hv
        rw [Addr.add_lit]
        have := World.cell?_of_block (w := w) (w' := w') (a := ⟨b, o + j, none⟩) (by rw [hw])
        rw [this]; exact hc j (by omega))
      have hcl : cs.length = inf.size := by simp [cs, hsz]
      rw [hcl] at hl
      simp [execOp, hz, Instr.loadAt, Instr.sureAddr, loadVar, run_isAgg ht, hu, sizeOf, typeInfo, hinf, hl]

/-- An element of an array value. -/
theorem q_idxagg {x ix : Operand} {t e : TypeId} {u : TypeDesc} {n : Nat} {L : List AV} {v : AV} {kk : IntKind} {m : Int} (ht : P.underlying t = some (.array n e)) (hs : (P.info? e).map (·.size) = some 1) (hu : P.underlying e = some u) (hua : isAggD u = false) (hx : ev fr x = some (.agg L)) (hi : ev fr ix = some (.int kk m))
    (hv : L.getD m.toNat .any = v) (hb : 0 ≤ m ∧ m < n ∧ m < L.length) : QOp ind P fn c fr H ⟨d, .index t x ix, ty, pos, after, g⟩ v := by
  intro w a σ S hr
  have h1 := hr.evAt hx
  have h2 := hr.evInt hi
  subst hv
  generalize hz : a.eval x = z at h1
  cases h1 with
  | agg _ _ vs hl hv h1' =>
    have hlt : m.toNat < L.length := by omega
    have h3 := hv m.toNat hlt
    have h4 : vs[m.toNat]? = some (vs.getD m.toNat undef) := by simp [Array.getD, hl, hlt]
    generalize vs.getD m.toNat undef = y at h3 h4
    refine ⟨y, h3, fun w' _ => ?_⟩
    cases hq : P.info? e with
    | none => simp [hq] at hs
    | some inf =>
      have hsz : inf.size = 1 := by simpa [hq] using hs
      simp [execOp, hz, h2, Instr.index, asIntOf, run_underlying ht, hb.1, hb.2.1, sizeOf, typeInfo, hq, hsz, part, run_isAgg hu, hua, h4]
/-- A field of a struct value (of one cell). -/
theorem q_fieldv {x : Operand} {t : TypeId} {fs : Array Field} {f : Nat} {fd : Field} {u : TypeDesc} {L : List AV} {v : AV} (ht : P.underlying t = some (.struct fs)) (hf : fs[f]? = some fd) (hu : P.underlying fd.type = some u) (hua : isAggD u = false) (hx : ev fr x = some (.agg L)) (hv : L[fd.offset]? = some v) :
    QOp ind P fn c fr H ⟨d, .field t x f, ty, pos, after, g⟩ v := by
  intro w a σ S hr
  have h1 := hr.evAt hx
  generalize hz : a.eval x = z at h1
  cases h1 with
  | agg _ _ vs hl hvv h1' =>
    have hlt : fd.offset < L.length := (List.getElem?_eq_some_iff.1 hv).1
    have h3 := hvv fd.offset hlt
    have e : L.getD fd.offset .any = v := by simp [List.getD, hv]
    rw [e] at h3
    have h4 : vs[fd.offset]? = some (vs.getD fd.offset undef) := by simp [Array.getD, hl, hlt]
    generalize vs.getD fd.offset undef = y at h3 h4
    refine ⟨y, h3, fun w' _ => ?_⟩
    simp [execOp, hz, Instr.field, run_underlying ht, hf, asAgg, part, run_isAgg hu, hua, h4]
/-- The address of a field. -/
theorem q_field_ptr {x : Operand} {s : TypeId} {fs : Array Field} {f h i j jx : Nat} {fd : Field} {inf : TypeInfo} (ht : P.underlying s = some (.struct fs)) (hf : fs[f]? = some fd) (hi : P.info? fd.type = some inf) (hne : Nat.beq inf.size 0 = false) (hx : ev fr x = some (.ptr h i j)) (hj : j + fd.offset = jx) :
    QOp ind P fn c fr H ⟨d, .fieldAddr s x f, ty, pos, after, g⟩ (.ptr h i jx) := by
  intro w a σ S hr
  have h1 := hr.evAt hx
  subst hj
  have hne' : ¬ inf.size = 0 := fun e => by rw [e] at hne; cases hne
  generalize hz : a.eval x = z at h1
  cases h1 with
  | ptr _ _ _ _ b sz C hσ =>
    refine ⟨_, .ptr _ h i (j + fd.offset) b sz C hσ, fun w' _ => ?_⟩
    simp [execOp, hz, Instr.fieldAt, run_underlying ht, hf, Instr.sureAddr, fieldPlace, sizeOf, typeInfo, hi, hne', Addr.add_lit, Nat.add_assoc]
theorem q_field_rp {x : Operand} {s : TypeId} {fs : Array Field} {f i j jx : Nat} {cl : Cells} {fd : Field} {inf : TypeInfo} (ht : P.underlying s = some (.struct fs)) (hf : fs[f]? = some fd) (hi : P.info? fd.type = some inf) (hne : Nat.beq inf.size 0 = false) (hx : ev fr x = some (.rp cl i j)) (hj : j + fd.offset = jx) :
    QOp ind P fn c fr H ⟨d, .fieldAddr s x f, ty, pos, after, g⟩ (.rp cl i jx) := by
  intro w a σ S hr
  have h1 := hr.evAt hx
  subst hj
  have hne' : ¬ inf.size = 0 := fun e => by rw [e] at hne; cases hne
  generalize hz : a.eval x = z at h1
  cases h1 with
  | rp _ _ _ _ b o val hS hc hvv h1' =>
    refine ⟨.pointer (some ⟨b, o + fd.offset, none⟩), .rp _ _ _ _ _ _ (fun e => val (fd.offset + e)) hS (fun e he => ?_) (fun e he => ?_) (fun e he => h1' _ (by omega)), fun w' _ => ?_⟩
    · have := hc (fd.offset + e) (by omega)
      rwa [← Nat.add_assoc] at this
    · have := hvv (fd.offset + e) (by omega)
      rwa [← Nat.add_assoc] at this
    · simp [execOp, hz, Instr.fieldAt, run_underlying ht, hf, Instr.sureAddr, fieldPlace, sizeOf, typeInfo, hi, hne', Addr.add_lit]
/-- A pointer that is not nil. -/
theorem q_nilcheck_ptr {x : Operand} {h i j : Nat} (hx : ev fr x = some (.ptr h i j)) : QOp ind P fn c fr H ⟨d, .nilCheck x, ty, pos, after, g⟩ (.ptr h i j) := by
  intro w a σ S hr
  have h1 := hr.evAt hx
  generalize hz : a.eval x = z at h1
  cases h1 with
  | ptr _ _ _ _ b s C hσ => exact ⟨_, .ptr _ h i j b s C hσ, fun w' _ => by simp [execOp, hz]⟩
theorem q_nilcheck_rp {x : Operand} {cl : Cells} {i j : Nat} (hx : ev fr x = some (.rp cl i j)) : QOp ind P fn c fr H ⟨d, .nilCheck x, ty, pos, after, g⟩ (.rp cl i j) := by
  intro w a σ S hr
  have h1 := hr.evAt hx
  generalize hz : a.eval x = z at h1
  cases h1 with
  | rp _ _ _ _ b o val hS hc hvv h1' => exact ⟨_, .rp _ _ _ _ _ _ val hS hc hvv h1', fun w' _ => by simp [execOp, hz]⟩

/-- A store of a whole struct or array. -/
theorem ax_storeagg {all : Array Oper} {t : TypeId} {x y : Operand} {ty : TypeId} {pos : String} {after : Array Edge} {rest : List Oper} {h i : Nat} {ob : AObj} {L : List AV} {c' : Cells}
    (hx : ev fr x = some (.ptr h i 0)) (hy : ev fr y = some (.agg L)) (hs : (P.info? t).map (·.size) = some ob.c.sz) (hh : H[h]? = some (some ob)) (hl : L.length = ob.c.sz) (hi : i < ob.c.len)
    (h1 : c'.len = ob.c.len) (h2 : c'.sz = ob.c.sz) (h3 : ∀ i' j', i' < ob.c.len → j' < ob.c.sz → c'.at i' j' = if i' = i then L.getD j' .any else ob.c.at i' j')
    (hk : Ax P fn c (.ops false all rest k) fr (H.set h (some ⟨ob.ty, c'⟩))) : Ax P fn c (.ops false all (⟨none, .store t x y, ty, pos, after, none⟩ :: rest) k) fr H := by
  refine ax_w0 (fun w a σ S hr => ?_) hk
  have e1 := hr.evAt hx
  have e2 := hr.evAt hy
  generalize hz : a.eval x = z at e1
  generalize hzy : a.eval y = u at e2
  cases e2 with
  | agg _ _ vs hvl hvv hv1 =>
    cases e1 with
    | ptr _ _ _ _ b s C hσ =>
      obtain ⟨hs', cur, g1, g2, g3, g4, g5, g6⟩ := hr.obj hh hσ
      subst hs'
      have hfit : i * ob.c.sz + ob.c.sz ≤ cur.size := by
        rw [g2]
        have : (i + 1) * ob.c.sz ≤ C * ob.c.sz := Nat.mul_le_mul_right _ (by omega)
        rw [Nat.add_mul] at this; omega
      have hvsz : vs.size = ob.c.sz := by rw [hvl, hl]
      have hst := run_storeCells_at (P := P) b (i * ob.c.sz) ob.ty vs.toList 0 cur w g1 (by simp [hvsz]; exact hfit) (fun v hv => by
        obtain ⟨j, hj, rfl⟩ := List.getElem_of_mem hv
        have hj' : j < vs.size := by simpa using hj
        have := hv1 j (by rw [← hvl]; exact hj')
        simpa [Array.getD, hj'] using this)
      simp only [Nat.add_zero] at hst
      generalize hcur : (cur.toList.take (i * ob.c.sz) ++ vs.toList ++ cur.toList.drop (i * ob.c.sz + vs.toList.length)).toArray = cur' at hst
      have hlen' : cur'.size = cur.size := by rw [← hcur]; simp [hvsz]; omega
      have hat : ∀ p, p < cur.size → cur'[p]? = if i * ob.c.sz ≤ p ∧ p < i * ob.c.sz + ob.c.sz then vs[p - i * ob.c.sz]? else cur[p]? := by
        intro p hp
        rw [← hcur]
        simp only [List.getElem?_toArray, List.append_assoc]
        by_cases c1 : p < i * ob.c.sz
        · rw [List.getElem?_append_left (by simp; omega), List.getElem?_take, if_pos c1, if_neg (by omega)]; simp
        · rw [List.getElem?_append_right (by simp; omega)]
          have ht : (cur.toList.take (i * ob.c.sz)).length = i * ob.c.sz := by simp; omega
          rw [ht]
          by_cases c2 : p < i * ob.c.sz + ob.c.sz
          · rw [List.getElem?_append_left (by simp [hvsz]; omega), if_pos ⟨by omega, c2⟩]; simp
          · rw [List.getElem?_append_right (by simp [hvsz]; omega), if_neg (by omega)]
            simp only [Array.length_toList, hvsz, List.getElem?_drop, Array.getElem?_toList]
            congr 1; omega
      refine ⟨w.setRow b cur', σ, S, ?_, hr.setRow hh hσ h2 (by omega) (by rw [hlen', g2]) (fun i' j' hi' hj' => ?_)⟩
      · simp only [Nat.add_zero] at hz
        simp only [execOp, hz, hzy, Instr.storeAt, Instr.sureAddr, storeVar, Sem.run_bind, Sem.run_pure, Result.andThen_ok, size_of hs, Value.cells, hvsz]
        simp [hst]
      · rw [h1] at hi'
        rw [h2] at hj' ⊢
        rw [h3 i' j' hi' hj']
        have hp : i' * ob.c.sz + j' < cur.size := by
          rw [g2]
          have : (i' + 1) * ob.c.sz ≤ C * ob.c.sz := Nat.mul_le_mul_right _ (by omega)
          rw [Nat.add_mul] at this; omega
        rw [hat _ hp]
        by_cases he : i' = i
        · subst he
          rw [if_pos rfl, if_pos ⟨by omega, by omega⟩]
          have hjv : j' < vs.size := by omega
          refine ⟨vs.getD j' undef, by simp [Array.getD, hjv], hvv j' (by omega), hv1 j' (by omega)⟩
        · rw [if_neg he]
          have hne : ¬ (i * ob.c.sz ≤ i' * ob.c.sz + j' ∧ i' * ob.c.sz + j' < i * ob.c.sz + ob.c.sz) := by
            rintro ⟨q1, q2⟩
            rcases Nat.lt_or_gt_of_ne he with hlt | hlt
            · have : (i' + 1) * ob.c.sz ≤ i * ob.c.sz := Nat.mul_le_mul_right _ hlt
              rw [Nat.add_mul] at this; omega
            · have : (i + 1) * ob.c.sz ≤ i' * ob.c.sz := Nat.mul_le_mul_right _ hlt
              rw [Nat.add_mul] at this; omega
          rw [if_neg hne]
          exact g6 i' j' hi' hj'
end
end Go.Ax

/-
  Rules: guards on operations that were themselves passed over.
-/
namespace Go.Ax
open Go.RowKit

section
variable {P : Program} {fn : Func} {c : Ctx} {fr : Fr} {H : AHeap} {k : List It}

theorem wanted_undef {w : World} {a : Act} {σ : Nat → Option Blk} {S : Nat → Prop} {n : Nat} (hr : Rep c w a σ S n fr H) {all : Array Oper} {d : Option Nat} {op : Op} {ty : TypeId} {pos : String} {after : Array Edge} {j t : Nat} {p : Bool}
    (hy : yslot all j = some t) (hb : look t fr = some (.tup [])) : Region.wanted ⟨d, op, ty, pos, after, some (j, p)⟩ (yielded all a.tmps) = false := by
  obtain ⟨h1, h2⟩ := hr.slots t _ hb
  have h3 : t < a.tmps.size := by rw [hr.size]; exact h1
  generalize hz : a.tmps.getD t undef = z at h2
  cases h2
  rename_i vs hl hv
  have h4 : a.tmps[t]? = some (.tuple vs) := by
    simp only [Array.getD, h3, dite_true] at hz
    simp only [Array.getElem?_eq_getElem h3]
    exact congrArg some hz
  unfold yslot at hy
  simp only [Region.wanted, yielded, hy, Option.bind_some, h4]
  cases p <;> rfl

theorem vr_undef {w : World} {S : Nat → Prop} {σ : Nat → Option Blk} : VR w S σ (.tup []) undef := .tup _ _ _ rfl (fun i hi => absurd hi (Nat.not_lt_zero _))

/-- An operation that is passed over leaves nothing in its slot. -/
theorem ax_skip_not {q : Bool} {all : Array Oper} {d : Nat} {op : Op} {ty : TypeId} {pos : String} {after : Array Edge} {rest : List Oper} {j t : Nat} {p b : Bool}
    (hy : yslot all j = some t) (hb : look t fr = some (.bool b)) (hne : (b == p) = false) (h : Ax P fn c (.ops q all rest k) ((d, .tup []) :: fr) H) : Ax P fn c (.ops q all (⟨some d, op, ty, pos, after, some (j, p)⟩ :: rest) k) fr H := by
  cases q with
  | false =>
    intro hd w a σ S hr
    obtain ⟨hd1, hd2⟩ := dsts_cons hd
    simp only [wpList, wanted_of hr hy hb, hne, Bool.false_eq_true, if_false]
    exact h hd2 w _ σ S (hr.put vr_undef (hd1 d rfl))
  | true =>
    intro hd w a σ S hr
    obtain ⟨hd1, hd2⟩ := dsts_cons hd
    simp only [wpQuiet, wanted_of hr hy hb, hne, Bool.false_eq_true, if_false]
    exact h hd2 w _ σ S (hr.put vr_undef (hd1 d rfl))
theorem ax_skip_undef {q : Bool} {all : Array Oper} {d : Nat} {op : Op} {ty : TypeId} {pos : String} {after : Array Edge} {rest : List Oper} {j t : Nat} {p : Bool}
    (hy : yslot all j = some t) (hb : look t fr = some (.tup [])) (h : Ax P fn c (.ops q all rest k) ((d, .tup []) :: fr) H) : Ax P fn c (.ops q all (⟨some d, op, ty, pos, after, some (j, p)⟩ :: rest) k) fr H := by
  cases q with
  | false =>
    intro hd w a σ S hr
    obtain ⟨hd1, hd2⟩ := dsts_cons hd
    simp only [wpList, wanted_undef hr hy hb, Bool.false_eq_true, if_false]
    exact h hd2 w _ σ S (hr.put vr_undef (hd1 d rfl))
  | true =>
    intro hd w a σ S hr
    obtain ⟨hd1, hd2⟩ := dsts_cons hd
    simp only [wpQuiet, wanted_undef hr hy hb, Bool.false_eq_true, if_false]
    exact h hd2 w _ σ S (hr.put vr_undef (hd1 d rfl))
end
end Go.Ax

/-
  Rules: guarded operations in a region whose order is open.
-/
namespace Go.Ax
open Go.RowKit

section
variable {P : Program} {fn : Func} {c : Ctx} {fr : Fr} {H : AHeap} {k : List It}

/-- An operation whose guard lets it run, and that does not look at memory, may be taken first. -/
theorem ax_any_qg {all : Array Oper} {fuel : Nat} {listed listed' : Array Bool} (i : Nat) {d j t : Nat} {p : Bool} {op : Op} {ty : TypeId} {pos : String} {after : Array Edge} {v : AV}
    (hi : all[i]? = some ⟨some d, op, ty, pos, after, some (j, p)⟩) (hsel : Region.noSelect all = true) (hready : (Region.ready .any all listed).contains i = true) (hfree : Region.free .any all listed i = true) (hd : Nat.blt d fn.ntmps = true)
    (hy : yslot all j = some t) (hb : look t fr = some (.bool p))
    (hop : QOp true P fn c fr H ⟨some d, op, ty, pos, after, some (j, p)⟩ v) (hl : listed.setIfInBounds i true = listed') (h : Ax P fn c (.any all fuel listed' k) ((d, v) :: fr) H) : Ax P fn c (.any all (fuel + 1) listed k) fr H := by
  intro w a σ S hr
  subst hl
  obtain ⟨x, hx, hrun⟩ := hop w a σ S hr
  refine wpAny_first hi (Region.noSelect_spec hsel) ?_ fuel listed a w (Region.free_spec hi hfree) (by simpa using hready) (v := x) ?_ (h w _ σ S (hr.put hx (Nat.le_of_ble_eq_true hd)))
  · rintro ch a' w' ⟨_, _, _, _, _, hp⟩
    exact (post_panic _ hp).elim
  · exact .inl ⟨by rw [wanted_of hr hy hb]; simp, fun w' => hrun w' (.inl rfl)⟩
/-- An operation that its guard passes over. -/
theorem ax_any_qn {all : Array Oper} {fuel : Nat} {listed listed' : Array Bool} (i : Nat) {d j t : Nat} {p b : Bool} {op : Op} {ty : TypeId} {pos : String} {after : Array Edge}
    (hi : all[i]? = some ⟨some d, op, ty, pos, after, some (j, p)⟩) (hsel : Region.noSelect all = true) (hready : (Region.ready .any all listed).contains i = true) (hfree : Region.free .any all listed i = true) (hd : Nat.blt d fn.ntmps = true)
    (hy : yslot all j = some t) (hb : look t fr = some (.bool b)) (hne : (b == p) = false)
    (hl : listed.setIfInBounds i true = listed') (h : Ax P fn c (.any all fuel listed' k) ((d, .tup []) :: fr) H) : Ax P fn c (.any all (fuel + 1) listed k) fr H := by
  intro w a σ S hr
  subst hl
  refine wpAny_first hi (Region.noSelect_spec hsel) ?_ fuel listed a w (Region.free_spec hi hfree) (by simpa using hready) (v := undef) ?_ (h w _ σ S (hr.put vr_undef (Nat.le_of_ble_eq_true hd)))
  · rintro ch a' w' ⟨_, _, _, _, _, hp⟩
    exact (post_panic _ hp).elim
  · exact .inr ⟨by rw [wanted_of hr hy hb]; exact hne, rfl⟩
/-- .. whose guard was itself passed over. -/
theorem ax_any_qu {all : Array Oper} {fuel : Nat} {listed listed' : Array Bool} (i : Nat) {d j t : Nat} {p : Bool} {op : Op} {ty : TypeId} {pos : String} {after : Array Edge}
    (hi : all[i]? = some ⟨some d, op, ty, pos, after, some (j, p)⟩) (hsel : Region.noSelect all = true) (hready : (Region.ready .any all listed).contains i = true) (hfree : Region.free .any all listed i = true) (hd : Nat.blt d fn.ntmps = true)
    (hy : yslot all j = some t) (hb : look t fr = some (.tup []))
    (hl : listed.setIfInBounds i true = listed') (h : Ax P fn c (.any all fuel listed' k) ((d, .tup []) :: fr) H) : Ax P fn c (.any all (fuel + 1) listed k) fr H := by
  intro w a σ S hr
  subst hl
  refine wpAny_first hi (Region.noSelect_spec hsel) ?_ fuel listed a w (Region.free_spec hi hfree) (by simpa using hready) (v := undef) ?_ (h w _ σ S (hr.put vr_undef (Nat.le_of_ble_eq_true hd)))
  · rintro ch a' w' ⟨_, _, _, _, _, hp⟩
    exact (post_panic _ hp).elim
  · exact .inr ⟨wanted_undef hr hy hb, rfl⟩
theorem ax_split_any {all : Array Oper} {fuel : Nat} {listed : Array Bool} (t : Nat) {p : Prop} {_ : Decidable p} (hb : look t fr = some (.bool (decide p))) (ht : p → Ax P fn c (.any all fuel listed k) ((t, .bool true) :: fr) H) (hf : ¬ p → Ax P fn c (.any all fuel listed k) ((t, .bool false) :: fr) H) : Ax P fn c (.any all fuel listed k) fr H := by
  by_cases h : p
  · exact fun w a σ S hr => ht h w a σ S (hr.dup (by rw [decide_eq_true h] at hb; exact hb))
  · exact fun w a σ S hr => hf h w a σ S (hr.dup (by rw [decide_eq_false h] at hb; exact hb))
end
end Go.Ax

/-
  The last objects of a walk are left behind: nothing that is kept tells of them.
-/
namespace Go.Ax

mutual
def belowA (n : Nat) : AV → Bool
  | .sl h _ _ => Nat.blt h n
  | .ptr h _ _ => Nat.blt h n
  | .fn _ l => belows n l
  | .agg l => belows n l
  | .tup l => belows n l
  | _ => true
def belows (n : Nat) : List AV → Bool
  | [] => true
  | v :: r => belowA n v && belows n r
end
theorem belows_get {n : Nat} {l : List AV} (h : belows n l = true) (i : Nat) (hi : i < l.length) : belowA n (l.getD i .any) = true := by
  induction l generalizing i with
  | nil => simp at hi
  | cons v r ih =>
    simp only [belows, Bool.and_eq_true] at h
    cases i with
    | zero => exact h.1
    | succ i => simpa using ih h.2 i (by simpa using hi)
theorem VR.cutv {w : World} {S : Nat → Prop} {σ : Nat → Option Blk} {n : Nat} {x : AV} {v : Value} (h : VR w S σ x v) : belowA n x = true → ∀ σ' : Nat → Option Blk, (∀ h, h < n → σ' h = σ h) → VR w S σ' x v := by
  induction h with
  | int => intros; constructor
  | bool => intros; constructor
  | str => intros; constructor
  | nil => intros; constructor
  | ro0 => intros; constructor
  | ro σ c i len b o cap val hSb hlen hc hv h1 ih => intro _ σ' _; exact .ro _ _ _ _ _ _ _ val hSb hlen hc hv h1
  | sl σ h i len b s C cap hσ hlen hcap => intro hb σ' hs; exact .sl _ _ _ _ _ _ _ _ (by rw [hs h (Nat.le_of_ble_eq_true hb)]; exact hσ) hlen hcap
  | sl0 σ h hσ => intro hb σ' hs; exact .sl0 _ _ (by rw [hs h (Nat.le_of_ble_eq_true hb)]; exact hσ)
  | rp σ c i j b o val hSb hc hv h1 ih => intro _ σ' _; exact .rp _ _ _ _ _ _ val hSb hc hv h1
  | ptr σ h i j b s C hσ => intro hb σ' hs; exact .ptr _ _ _ _ _ _ _ (by rw [hs h (Nat.le_of_ble_eq_true hb)]; exact hσ)
  | nilp => intros; constructor
  | fn σ f cap vs hl hv ih => intro hn σ' hs; exact .fn _ _ _ _ hl (fun i hi => ih i hi (belows_get hn i hi) _ hs)
  | nilfn => intros; constructor
  | agg σ l vs hl hv h1 ih => intro hn σ' hs; exact .agg _ _ _ hl (fun i hi => ih i hi (belows_get hn i hi) _ hs) h1
  | tup σ l vs hl hv ih => intro hn σ' hs; exact .tup _ _ _ hl (fun i hi => ih i hi (belows_get hn i hi) _ hs)
  | any => intros; constructor

def belowC (n : Nat) : Cells → Bool
  | .ints _ _ => true
  | .strs _ => true
  | .box l => belows n l
  | .fn _ _ _ => false
theorem belowC_at {n : Nat} {c : Cells} (h : belowC n c = true) (i j : Nat) (hj : j < c.sz) : belowA n (c.at i j) = true := by
  cases c with
  | ints => rfl
  | strs => rfl
  | box l => exact belows_get h j hj
  | fn => cases h
def belowO (n : Nat) : Option AObj → Bool
  | none => true
  | some o => belowC n o.c
def belowH (n : Nat) : AHeap → Bool
  | [] => true
  | x :: r => belowO n x && belowH n r
theorem belowH_get {n : Nat} {H : AHeap} (hb : belowH n H = true) {h : Nat} {o : AObj} (ho : H[h]? = some (some o)) : belowC n o.c = true := by
  induction H generalizing h with
  | nil => simp at ho
  | cons x r ih =>
    simp only [belowH, Bool.and_eq_true] at hb
    cases h with
    | zero => simp at ho; subst ho; exact hb.1
    | succ h => exact ih hb.2 (by simpa using ho)
def belowF (n : Nat) : Fr → Bool
  | [] => true
  | (_, v) :: r => belowA n v && belowF n r
theorem belowF_get {n : Nat} {fr : Fr} (hb : belowF n fr = true) {t : Nat} {v : AV} (hl : look t fr = some v) : belowA n v = true := by
  induction fr with
  | nil => simp [look] at hl
  | cons p r ih =>
    obtain ⟨u, x⟩ := p
    simp only [belowF, Bool.and_eq_true] at hb
    simp only [look] at hl
    cases hq : Nat.beq t u with
    | true => rw [hq] at hl; simp at hl; subst hl; exact hb.1
    | false => rw [hq] at hl; exact ih hb.2 (by simpa using hl)

def cutσ (n : Nat) (σ : Nat → Option Blk) (h : Nat) : Option Blk := if h < n then σ h else none
theorem Rep.cut {c : Ctx} {w : World} {a : Act} {σ : Nat → Option Blk} {S : Nat → Prop} {n : Nat} {fr : Fr} {H H0 H1 : AHeap} (hr : Rep c w a σ S n fr H) (hH : H = H0 ++ H1) (hf : ∀ h, c.fix h → h < H0.length)
    (hbH : belowH H0.length H0 = true) (hbF : belowF H0.length fr = true) : Rep c w a (cutσ H0.length σ) S n fr H0 := by
  subst hH
  have hs : ∀ h, h < H0.length → cutσ H0.length σ h = σ h := fun h hl => if_pos hl
  have hget : ∀ {h : Nat} {o : AObj}, H0[h]? = some (some o) → h < H0.length ∧ (H0 ++ H1)[h]? = some (some o) := by
    intro h o ho
    have hl : h < H0.length := (List.getElem?_eq_some_iff.1 ho).1
    exact ⟨hl, by rw [List.getElem?_append_left hl]; exact ho⟩
  refine ⟨⟨fun h o ho => ?_, fun h h' o o' b s C s' C' q1 q2 e1 e2 => ?_, hr.hr.small, fun h hl => if_neg (by omega)⟩, ⟨hr.kp.os, hr.kp.output, hr.kp.tape, hr.kp.size, hr.kp.block, hr.kp.S1, hr.kp.S2, fun h hh => by rw [hs h (hf h hh)]; exact hr.kp.fixed h hh, hf, fun h o b s C q e => ?_⟩, hr.defers, hr.size, fun t v hl => ⟨(hr.slots t v hl).1, (hr.slots t v hl).2.cutv (belowF_get hbF hl) _ hs⟩⟩
  · obtain ⟨hl, ho'⟩ := hget ho
    rw [hs h hl]
    rcases hr.hr.live h o ho' with g | ⟨b, C, cur, g1, g2, g3, g4, g5, g6, g7⟩
    · exact .inl g
    · refine .inr ⟨b, C, cur, g1, g2, g3, g4, g5, g6, fun i j hi hj => ?_⟩
      obtain ⟨v, k1, k2, k3⟩ := g7 i j hi hj
      exact ⟨v, k1, k2.cutv (belowC_at (belowH_get hbH ho) i j hj) _ hs, k3⟩
  · obtain ⟨hl, ho⟩ := hget q1
    obtain ⟨hl', ho'⟩ := hget q2
    rw [hs h hl] at e1
    rw [hs h' hl'] at e2
    exact hr.hr.dist h h' o o' b s C s' C' ho ho' e1 e2
  · obtain ⟨hl, ho⟩ := hget q
    rw [hs h hl] at e
    exact hr.kp.own h o b s C ho e

section
variable {P : Program} {fn : Func} {c : Ctx} {fr : Fr} {H : AHeap} {k : List It}
/-- Only the first objects are kept. -/
theorem ax_cut {x : Code} (H0 H1 : AHeap) (L : Fr) (hH : H = H0 ++ H1) (hL : knows fr L) (hf : ∀ h, c.fix h → h < H0.length) (hbH : belowH H0.length H0 = true) (hbF : belowF H0.length L = true)
    (hk : Ax P fn c (.code x k) L H0) : Ax P fn c (.code x k) fr H :=
  fun w a σ S hr => hk w a _ S ((hr.weaken hL).cut hH hf hbH hbF)
theorem ax_cut_ops {all : Array Oper} {rest : List Oper} (H0 H1 : AHeap) (L : Fr) (hH : H = H0 ++ H1) (hL : knows fr L) (hf : ∀ h, c.fix h → h < H0.length) (hbH : belowH H0.length H0 = true) (hbF : belowF H0.length L = true)
    (hk : Ax P fn c (.ops false all rest k) L H0) : Ax P fn c (.ops false all rest k) fr H :=
  fun hd w a σ S hr => hk hd w a _ S ((hr.weaken hL).cut hH hf hbH hbF)
/-- The same memory, its cells told otherwise. -/
theorem Rep.heapA {w : World} {a : Act} {σ : Nat → Option Blk} {S : Nat → Prop} {n : Nat} {H' : AHeap} (hr : Rep c w a σ S n fr H) (hlen : H'.length = H.length)
    (hs : ∀ (h : Nat) (o' : AObj), H'[h]? = some (some o') → ∃ o : AObj, H[h]? = some (some o) ∧ o'.ty = o.ty ∧ o'.c.len = o.c.len ∧ o'.c.sz = o.c.sz ∧ ∀ i j, i < o.c.len → j < o.c.sz → AEq (o.c.at i j) (o'.c.at i j)) : Rep c w a σ S n fr H' := by
  refine ⟨⟨fun h o' ho => ?_, fun h h' o o' b s C s' C' q1 q2 e1 e2 => ?_, hr.hr.small, fun h hl => hr.hr.dom h (by rw [← hlen]; exact hl)⟩, ⟨hr.kp.os, hr.kp.output, hr.kp.tape, hr.kp.size, hr.kp.block, hr.kp.S1, hr.kp.S2, hr.kp.fixed, fun h hf => by rw [hlen]; exact hr.kp.fixlt h hf, fun h o b s C q e => ?_⟩, hr.defers, hr.size, hr.slots⟩
  · obtain ⟨o, h1, h2, h3, h4, h5⟩ := hs h o' ho
    rw [h2, h3, h4]
    rcases hr.hr.live h o h1 with g | ⟨b, C, cur, g1, g2, g3, g4, g5, g6, g7⟩
    · exact .inl g
    · refine .inr ⟨b, C, cur, g1, g2, g3, g4, g5, g6, fun i j hi hj => ?_⟩
      obtain ⟨v, k1, k2, k3⟩ := g7 i j hi hj
      exact ⟨v, k1, h5 i j hi hj _ _ _ _ k2, k3⟩
  · obtain ⟨p, h1, _⟩ := hs h o q1
    obtain ⟨p', h1', _⟩ := hs h' o' q2
    exact hr.hr.dist h h' p p' b s C s' C' h1 h1' e1 e2
  · obtain ⟨p, h1, _⟩ := hs h o q
    exact hr.kp.own h p b s C h1 e
theorem ax_heapA {x : Code} (H' : AHeap) (hlen : H'.length = H.length) (hs : ∀ (h : Nat) (o' : AObj), H'[h]? = some (some o') → ∃ o : AObj, H[h]? = some (some o) ∧ o'.ty = o.ty ∧ o'.c.len = o.c.len ∧ o'.c.sz = o.c.sz ∧ ∀ i j, i < o.c.len → j < o.c.sz → AEq (o.c.at i j) (o'.c.at i j))
    (hk : Ax P fn c (.code x k) fr H') : Ax P fn c (.code x k) fr H := fun w a σ S hr => hk w a σ S (hr.heapA hlen hs)
theorem ax_heapA_ops {all : Array Oper} {rest : List Oper} (H' : AHeap) (hlen : H'.length = H.length) (hs : ∀ (h : Nat) (o' : AObj), H'[h]? = some (some o') → ∃ o : AObj, H[h]? = some (some o) ∧ o'.ty = o.ty ∧ o'.c.len = o.c.len ∧ o'.c.sz = o.c.sz ∧ ∀ i j, i < o.c.len → j < o.c.sz → AEq (o.c.at i j) (o'.c.at i j))
    (hk : Ax P fn c (.ops false all rest k) fr H') : Ax P fn c (.ops false all rest k) fr H := fun hd w a σ S hr => hk hd w a σ S (hr.heapA hlen hs)
end
/-- Any contract, at arguments told otherwise. -/
theorem ACall.args {P : Program} {f : FuncId} {ags ags' : List AV} {H : AHeap} {fix : Nat → Prop} {K : AV → AHeap → Prop} (hc : ACall P f ags' H fix K) (h : AEqs ags ags') : ACall P f ags H fix K := by
  unfold ACall at hc ⊢
  refine ⟨hc.1, fun w σ S vals hr hf hv => hc.2 w σ S vals hr hf ⟨hv.1.trans h.length, fun j hj => ?_⟩⟩
  rw [← h.length] at hj
  exact h.get j hj _ _ _ _ (hv.2 j hj)
end Go.Ax

/-
  Lending a part of the memory.
-/
namespace Go.Ax

theorem VCall.lendS {P : Program} {f : FuncId} {args args' : List AV} {r : AV} {H HL : AHeap} (hc : VCall P f args r) (hsub : subH HL H) (hrl : ∀ (h : Nat) (o : AObj), HL[h]? = some (some o) → refless o.c) (hlend : AV.frzs HL args' = args) (hin : inBs HL args') (hn : noRef.noRefs args = true) (hr : noRef r = true) (hfl : flat r = true) :
    ACall P f args' H (fun h => h < H.length) (fun r' H' => r' = r ∧ H' = H) := by
  refine ACall.over (hc []) (fun h hh => by simp at hh) hsub hrl hlend hin hn ?_
  rintro r0 H0 ⟨rfl, rfl⟩
  have hk : r0.keep [] 0 H.length = r0 := VCall.lend.keep_noRef hr
  refine ⟨VCall.lend.inB_noRef hr, fun h o ho => by simp at ho, 0, ⟨0, .ints .i64 []⟩, .inl ⟨Nat.le_refl _, ⟨hk, rfl⟩, .inr (by rw [hk]; exact hfl)⟩⟩
theorem Rep.cutP {c : Ctx} {w : World} {a : Act} {σ : Nat → Option Blk} {S : Nat → Prop} {n : Nat} {fr : Fr} {H H0 H1 : AHeap} (hr : Rep c w a σ S n fr H) (hH : H = H0 ++ H1) (hf : ∀ h, c.fix h → h < H0.length)
    (hbH : ∀ (h : Nat) (o : AObj), H0[h]? = some (some o) → ∀ i j, i < o.c.len → j < o.c.sz → belowA H0.length (o.c.at i j) = true) (hbF : belowF H0.length fr = true) : Rep c w a (cutσ H0.length σ) S n fr H0 := by
  subst hH
  have hs : ∀ h, h < H0.length → cutσ H0.length σ h = σ h := fun h hl => if_pos hl
  have hget : ∀ {h : Nat} {o : AObj}, H0[h]? = some (some o) → h < H0.length ∧ (H0 ++ H1)[h]? = some (some o) := by
    intro h o ho
    have hl : h < H0.length := (List.getElem?_eq_some_iff.1 ho).1
    exact ⟨hl, by rw [List.getElem?_append_left hl]; exact ho⟩
  refine ⟨⟨fun h o ho => ?_, fun h h' o o' b s C s' C' q1 q2 e1 e2 => ?_, hr.hr.small, fun h hl => if_neg (by omega)⟩, ⟨hr.kp.os, hr.kp.output, hr.kp.tape, hr.kp.size, hr.kp.block, hr.kp.S1, hr.kp.S2, fun h hh => by rw [hs h (hf h hh)]; exact hr.kp.fixed h hh, hf, fun h o b s C q e => ?_⟩, hr.defers, hr.size, fun t v hl => ⟨(hr.slots t v hl).1, (hr.slots t v hl).2.cutv (belowF_get hbF hl) _ hs⟩⟩
  · obtain ⟨hl, ho'⟩ := hget ho
    rw [hs h hl]
    rcases hr.hr.live h o ho' with g | ⟨b, C, cur, g1, g2, g3, g4, g5, g6, g7⟩
    · exact .inl g
    · refine .inr ⟨b, C, cur, g1, g2, g3, g4, g5, g6, fun i j hi hj => ?_⟩
      obtain ⟨v, k1, k2, k3⟩ := g7 i j hi hj
      exact ⟨v, k1, k2.cutv (hbH h o ho i j hi hj) _ hs, k3⟩
  · obtain ⟨hl, ho⟩ := hget q1
    obtain ⟨hl', ho'⟩ := hget q2
    rw [hs h hl] at e1
    rw [hs h' hl'] at e2
    exact hr.hr.dist h h' o o' b s C s' C' ho ho' e1 e2
  · obtain ⟨hl, ho⟩ := hget q
    rw [hs h hl] at e
    exact hr.kp.own h o b s C ho e

section
variable {P : Program} {fn : Func} {c : Ctx} {fr : Fr} {H : AHeap} {k : List It}
theorem ax_cutP {x : Code} (H0 H1 : AHeap) (L : Fr) (hH : H = H0 ++ H1) (hL : knows fr L) (hf : ∀ h, c.fix h → h < H0.length) (hbH : ∀ (h : Nat) (o : AObj), H0[h]? = some (some o) → ∀ i j, i < o.c.len → j < o.c.sz → belowA H0.length (o.c.at i j) = true) (hbF : belowF H0.length L = true)
    (hk : Ax P fn c (.code x k) L H0) : Ax P fn c (.code x k) fr H :=
  fun w a σ S hr => hk w a _ S ((hr.weaken hL).cutP hH hf hbH hbF)
theorem ax_cutP_ops {all : Array Oper} {rest : List Oper} (H0 H1 : AHeap) (L : Fr) (hH : H = H0 ++ H1) (hL : knows fr L) (hf : ∀ h, c.fix h → h < H0.length) (hbH : ∀ (h : Nat) (o : AObj), H0[h]? = some (some o) → ∀ i j, i < o.c.len → j < o.c.sz → belowA H0.length (o.c.at i j) = true) (hbF : belowF H0.length L = true)
    (hk : Ax P fn c (.ops false all rest k) L H0) : Ax P fn c (.ops false all rest k) fr H :=
  fun hd w a σ S hr => hk hd w a _ S ((hr.weaken hL).cutP hH hf hbH hbF)
/-- A call that reads some of the walk's own objects. -/
theorem ax_callls {all : Array Oper} {d : Nat} {g : Operand} {f : FuncId} {args : List Operand} {ats : Array TypeId} {ty : TypeId} {pos : String} {after : Array Edge} {rest : List Oper} {caps ags ags' ags'' : List AV} {r : AV} (HL : AHeap) (hg : ev fr g = some (.fn f caps)) (ha : evs fr args = some ags) (has : ags ++ caps = ags') (hl : AV.frzs HL ags' = ags'') (hcall : VCall P f ags'' r) (hsub : subH HL H) (hrl : ∀ (h : Nat) (o : AObj), HL[h]? = some (some o) → refless o.c) (hin : inBs HL ags') (hn : noRef.noRefs ags'' = true) (hr : noRef r = true) (hfl : flat r = true)
    (hk : Ax P fn c (.ops false all rest k) ((d, r) :: fr) H) : Ax P fn c (.ops false all (⟨some d, .call { callee := .value g, args := args.toArray, argTypes := ats }, ty, pos, after, none⟩ :: rest) k) fr H :=
  ax_call hg ha has (VCall.lendS hcall hsub hrl hl hin hn hr hfl) (fun _ h => h) (fun _ h => h) (fun r' H' h => by obtain ⟨rfl, rfl⟩ := h; exact hk)
variable {ind : Bool} {d : Option Nat} {t t' ty : TypeId} {pos : String} {after : Array Edge} {g : Option (Nat × Bool)}
/-- Words of bits. -/
def andB (k : IntKind) (m n : Int) : Int := k.wrap ((BitVec.ofInt k.bits m &&& BitVec.ofInt k.bits n).toNat : Int)
def orB (k : IntKind) (m n : Int) : Int := k.wrap ((BitVec.ofInt k.bits m ||| BitVec.ofInt k.bits n).toNat : Int)
def xorB (k : IntKind) (m n : Int) : Int := k.wrap ((BitVec.ofInt k.bits m ^^^ BitVec.ofInt k.bits n).toNat : Int)
def shrB (k : IntKind) (m n : Int) : Int := m.fdiv (2 ^ (min n.toNat k.bits))
def shlB (k : IntKind) (m n : Int) : Int := k.wrap (m * 2 ^ (min n.toNat k.bits))
theorem q_and {x y : Operand} {k : IntKind} {m n : Int} (hx : ev fr x = some (.int k m)) (hy : ev fr y = some (.int k n)) :
    QOp ind P fn c fr H ⟨d, .binOp .and t x y t', ty, pos, after, g⟩ (.int k (andB k m n)) := by
  intro w a σ S hr
  have h1 := hr.evInt hx
  have h2 := hr.evInt hy
  refine ⟨_, .int _ _ _, fun w' _ => ?_⟩
  simp [execOp, h1, h2, run_eqGuard_int, binOp, Op.intBits, andB]
theorem q_or {x y : Operand} {k : IntKind} {m n : Int} (hx : ev fr x = some (.int k m)) (hy : ev fr y = some (.int k n)) :
    QOp ind P fn c fr H ⟨d, .binOp .or t x y t', ty, pos, after, g⟩ (.int k (orB k m n)) := by
  intro w a σ S hr
  have h1 := hr.evInt hx
  have h2 := hr.evInt hy
  refine ⟨_, .int _ _ _, fun w' _ => ?_⟩
  simp [execOp, h1, h2, run_eqGuard_int, binOp, Op.intBits, orB]
theorem q_xor {x y : Operand} {k : IntKind} {m n : Int} (hx : ev fr x = some (.int k m)) (hy : ev fr y = some (.int k n)) :
    QOp ind P fn c fr H ⟨d, .binOp .xor t x y t', ty, pos, after, g⟩ (.int k (xorB k m n)) := by
  intro w a σ S hr
  have h1 := hr.evInt hx
  have h2 := hr.evInt hy
  refine ⟨_, .int _ _ _, fun w' _ => ?_⟩
  simp [execOp, h1, h2, run_eqGuard_int, binOp, Op.intBits, xorB]
theorem q_shr {x y : Operand} {k k' : IntKind} {m n : Int} (hx : ev fr x = some (.int k m)) (hy : ev fr y = some (.int k' n)) (hn : 0 ≤ n) :
    QOp ind P fn c fr H ⟨d, .binOp .shr t x y t', ty, pos, after, g⟩ (.int k (shrB k m n)) := by
  intro w a σ S hr
  have h1 := hr.evInt hx
  have h2 := hr.evInt hy
  refine ⟨_, .int _ _ _, fun w' _ => ?_⟩
  have h3 : ¬ n < 0 := by omega
  simp [execOp, h1, h2, run_eqGuard_int, binOp, Op.shift, shrB, h3]
theorem q_shl {x y : Operand} {k k' : IntKind} {m n : Int} (hx : ev fr x = some (.int k m)) (hy : ev fr y = some (.int k' n)) (hn : 0 ≤ n) :
    QOp ind P fn c fr H ⟨d, .binOp .shl t x y t', ty, pos, after, g⟩ (.int k (shlB k m n)) := by
  intro w a σ S hr
  have h1 := hr.evInt hx
  have h2 := hr.evInt hy
  refine ⟨_, .int _ _ _, fun w' _ => ?_⟩
  have h3 : ¬ n < 0 := by omega
  simp [execOp, h1, h2, run_eqGuard_int, binOp, Op.shift, shlB, h3]
end
end Go.Ax

/-
  More rules: a pointer against nil.
-/
namespace Go.Ax
open Go.RowKit

def nilOf : AV → Option Bool
  | .nilp => some true
  | .ptr _ _ _ => some false
  | .rp _ _ _ => some false
  | _ => none
theorem run_eqGuard_ptr {P : Program} {op : BinOp} {t : TypeId} {x y : Operand} {a b : Option Addr} {w : World} : (eqGuard op t x y (.pointer a) (.pointer b)).run P w = .ok () w := by
  unfold eqGuard
  split <;> rfl
theorem run_eql_ptr_nil {P : Program} (w : World) {t e : TypeId} (a : Option Addr) (h : P.underlying t = some (.pointer e)) : (binOp .eql t (.pointer a) (.pointer none)).run P w = .ok (.bool a.isNone) w := by
  have h1 : ∀ d : Nat, (Op.equalIn (d + 1) t (.pointer a) (.pointer none)).run P w = .ok a.isNone w := fun d => by
    cases a with
    | none => simp [Op.equalIn, run_underlying h]
    | some a => simp [Op.equalIn, run_underlying h]
  simp only [binOp]
  simp [Op.equal, Op.maxDepth, h1 9999]
theorem run_neq_ptr_nil {P : Program} (w : World) {t e : TypeId} (a : Option Addr) (h : P.underlying t = some (.pointer e)) : (binOp .neq t (.pointer a) (.pointer none)).run P w = .ok (.bool (!a.isNone)) w := by
  have h1 : ∀ d : Nat, (Op.equalIn (d + 1) t (.pointer a) (.pointer none)).run P w = .ok a.isNone w := fun d => by
    cases a with
    | none => simp [Op.equalIn, run_underlying h]
    | some a => simp [Op.equalIn, run_underlying h]
  simp only [binOp]
  simp [Op.equal, Op.maxDepth, h1 9999]

section
variable {P : Program} {fn : Func} {c : Ctx} {fr : Fr} {H : AHeap} {k : List It} {ind : Bool} {d : Option Nat} {ty : TypeId} {pos : String} {after : Array Edge} {g : Option (Nat × Bool)}
theorem vr_nilOf {w : World} {S : Nat → Prop} {σ : Nat → Option Blk} {v : AV} {z : Value} {b : Bool} (h : VR w S σ v z) (hv : nilOf v = some b) : ∃ a : Option Addr, z = .pointer a ∧ a.isNone = b := by
  cases h <;> simp [nilOf] at hv <;> subst hv <;> exact ⟨_, rfl, rfl⟩
theorem q_ptreq {x y : Operand} {t t' e : TypeId} {v : AV} {b : Bool} (ht : P.underlying t = some (.pointer e)) (hx : ev fr x = some v) (hv : nilOf v = some b) (hy : ev fr y = some .nilp) : QOp ind P fn c fr H ⟨d, .binOp .eql t x y t', ty, pos, after, g⟩ (.bool b) := by
  intro w a σ S hr
  have h1 := hr.evAt hx
  have h2 := hr.evAt hy
  generalize hz : a.eval x = z at h1
  generalize hzy : a.eval y = zy at h2
  cases h2
  obtain ⟨ad, rfl, rfl⟩ := vr_nilOf h1 hv
  refine ⟨_, .bool _ _, fun w' _ => ?_⟩
  simp only [execOp, hz, hzy, Sem.run_bind, run_eqGuard_ptr, Result.andThen_ok, run_eql_ptr_nil w' ad ht]
  rfl
theorem q_ptrneq {x y : Operand} {t t' e : TypeId} {v : AV} {b : Bool} (ht : P.underlying t = some (.pointer e)) (hx : ev fr x = some v) (hv : nilOf v = some b) (hy : ev fr y = some .nilp) : QOp ind P fn c fr H ⟨d, .binOp .neq t x y t', ty, pos, after, g⟩ (.bool (!b)) := by
  intro w a σ S hr
  have h1 := hr.evAt hx
  have h2 := hr.evAt hy
  generalize hz : a.eval x = z at h1
  generalize hzy : a.eval y = zy at h2
  cases h2
  obtain ⟨ad, rfl, rfl⟩ := vr_nilOf h1 hv
  refine ⟨_, .bool _ _, fun w' _ => ?_⟩
  simp only [execOp, hz, hzy, Sem.run_bind, run_eqGuard_ptr, Result.andThen_ok, run_neq_ptr_nil w' ad ht]
  rfl
end
end Go.Ax

/-
  Readers: what a law's argument of some type reads as, told as an abstract value; for every type made of numbers, truth values, strings, slices, structs and arrays.
-/
namespace Go.Ax
open Go.ChangeShapes Go.WideShapes Go.ChangeAt Go.RowKit

section
variable {H : Type} {enc : TypeId × Value → H} {P : Program} {W : World}

abbrev allS (W : World) : Nat → Prop := fun b => b < W.heap.size
/-- One after the other, cells are told by abstract values. -/
def CellsR (W : World) (l : List AV) (cs : List Value) : Prop :=
  l.length = cs.length ∧ ∀ i, i < cs.length → VR W (allS W) (fun _ => none) (l.getD i .any) (cs.getD i undef) ∧ (cs.getD i undef).oneCell' = true
/-- A reader: type t, n cells, told by e of some a that is ok. -/
def Rd {α : Type} (enc : TypeId × Value → H) (P : Program) (W : World) (t : TypeId) (n : Nat) (e : α → List AV) (ok : α → Prop) : Prop :=
  ∀ fuel cs x, DataW.trod enc P W 0 (fun _ => true) true fuel t cs = some x → ∃ a, ok a ∧ cs.length = n ∧ CellsR W (e a) cs

theorem cells1 {W : World} {v : AV} {c : Value} (h : VR W (allS W) (fun _ => none) v c) (h1 : c.oneCell' = true) : CellsR W [v] [c] := by
  refine ⟨rfl, fun i hi => ?_⟩
  have : i = 0 := by simpa using hi
  subst this
  exact ⟨h, h1⟩
theorem Rd.bool {t : TypeId} (ht : P.underlying t = some .bool) : Rd enc P W t 1 (fun b : Bool => [AV.bool b]) (fun _ => True) := by
  intro fuel cs x h
  obtain ⟨b, rfl, _⟩ := DataW.trod_bool ht h
  exact ⟨b, trivial, rfl, cells1 (.bool _ _) rfl⟩
theorem Rd.int {t : TypeId} {k : IntKind} (ht : P.underlying t = some (.int k)) : Rd enc P W t 1 (fun n : Int => [AV.int k n]) (fun n => (Lit.int k n).wf = true) := by
  intro fuel cs x h
  obtain ⟨n, rfl, _, hw⟩ := DataW.trod_int ht h
  exact ⟨n, hw, rfl, cells1 (.int _ _ _) rfl⟩
theorem Rd.str {t : TypeId} (ht : P.underlying t = some .string) : Rd enc P W t 1 (fun s : List UInt8 => [AV.str s]) (fun s => s.length ≤ 9223372036854775807) := by
  intro fuel cs x h
  obtain ⟨s, rfl, _, hs⟩ := DataW.trod_string ht h
  have e : Value.string s = strV s.data.toList := by
    show Value.string s = Value.string ⟨s.data.toList.toArray⟩
    rw [Array.toArray_toList]
  refine ⟨s.data.toList, ?_, rfl, ?_⟩
  · unfold maxLen at hs; simpa using hs
  · rw [e]; exact cells1 (.str _ _) rfl
/-- The row that a list's elements make, each of n cells. -/
def rowE {α : Type} (d : α) (n : Nat) (e : α → List AV) (l : List α) : Cells := .fn l.length n (fun i j => (e (l.getD i d)).getD j .any)
theorem Rd.slice {α : Type} {t t' : TypeId} {n : Nat} {e : α → List AV} {ok : α → Prop} (d : α) (ht : P.underlying t = some (.slice t')) (hc : P.cellsOf t' = n) (hn : Nat.blt 0 n = true) (h : Rd enc P W t' n e ok) :
    Rd enc P W t 1 (fun l : List α => [AV.ro (rowE d n e l) 0 l.length]) (fun l => l.length ≤ 9223372036854775807 ∧ ∀ a ∈ l, ok a) := by
  have hn := Nat.le_of_ble_eq_true hn
  intro fuel cs x hx
  rcases DataW.trod_slice ht hx with ⟨rfl, _⟩ | ⟨a, len, cap, elems, rest, m, _, rfl, _, _, hl, hm, hlen, hel, _, _⟩
  · exact ⟨[], ⟨Nat.zero_le _, fun a ha => by simp at ha⟩, rfl, cells1 (.ro0 _ _ _ _ _) rfl⟩
  subst hc
  have each : ∀ i, i < len → ∃ z : α × List Value, ok z.1 ∧ W.cells? 0 (a.add (i * P.cellsOf t')) (P.cellsOf t') = some z.2 ∧ CellsR W (e z.1) z.2 := by
    intro i hi
    have h1 := hel i hi
    have h2 : elems[i]? = some (elems[i]'(by omega)) := List.getElem?_eq_getElem _
    rw [h2, Option.bind_eq_some_iff] at h1
    obtain ⟨cs', hcs, hy⟩ := h1
    obtain ⟨z, hz, hzl, hzr⟩ := h _ _ _ hy
    exact ⟨(z, cs'), hz, hcs, hzr⟩
  cases len with
  | zero => exact ⟨[], ⟨Nat.zero_le _, fun a ha => by simp at ha⟩, rfl, cells1 (.ro0 _ _ _ _ _) rfl⟩
  | succ len =>
    have ha : a = ⟨a.block, a.off, none⟩ ∧ a.block < W.heap.size := by
      obtain ⟨z, _, hcs, _⟩ := each 0 (Nat.succ_pos _)
      obtain ⟨_, hl2, hce⟩ := World.cells?_some hcs
      have h0 := hce 0 hn
      have hz0 : z.2[0]? = some (z.2[0]'(by omega)) := List.getElem?_eq_getElem _
      rw [hz0] at h0
      simp only [Nat.zero_mul] at h0
      have e0 : ∀ q : Addr, q.add 0 = q := by intro q; simp [Addr.add]
      rw [e0, e0] at h0
      have hsp : a = ⟨a.block, a.off, none⟩ := by
        have hb := h0
        unfold World.cell? at hb
        split at hb
        · cases hsp : a.spot with
          | none => cases a; simp_all
          | some s => simp [hsp] at hb
        · cases hb
      refine ⟨hsp, ?_⟩
      rcases Nat.lt_or_ge a.block W.heap.size with hh | hh
      · exact hh
      · rw [hsp] at h0
        unfold World.cell? at h0
        have : W.heap[a.block]? = none := by simp [hh]
        simp [this] at h0
    let f : Nat → α × List Value := fun i => if hi : i < len + 1 then Classical.choose (each i hi) else (d, [])
    have hf : ∀ i, i < len + 1 → ok (f i).1 ∧ W.cells? 0 (a.add (i * P.cellsOf t')) (P.cellsOf t') = some (f i).2 ∧ CellsR W (e (f i).1) (f i).2 := by
      intro i hi
      have := Classical.choose_spec (each i hi)
      simp only [f, hi, dite_true]
      exact this
    let l : List α := (List.range (len + 1)).map (fun i => (f i).1)
    have hll : l.length = len + 1 := by simp [l]
    have hlg : ∀ i, i < len + 1 → l.getD i d = (f i).1 := by intro i hi; simp [l, List.getD, hi]
    refine ⟨l, ⟨by unfold maxLen at hm; omega, fun b hb => ?_⟩, rfl, ?_⟩
    · obtain ⟨i, hi, rfl⟩ := List.mem_map.1 hb
      exact (hf i (List.mem_range.1 hi)).1
    · refine cells1 ?_ rfl
      rw [ha.1, hll]
      refine .ro _ _ _ _ _ _ _ (fun i j => (f i).2.getD j undef) ha.2 hl (fun i j hi hj => ?_) (fun i j hi hj => ?_) (fun i j hi hj => ?_)
      all_goals
        obtain ⟨g1, g2, g3, g4⟩ := hf i hi
        obtain ⟨_, q2, q3⟩ := World.cells?_some g2
        have hj' : j < (f i).2.length := by rw [q2]; exact hj
      · have h3 := q3 j hj
        rw [List.getElem?_eq_getElem hj'] at h3
        rw [ha.1, add_plain, add_plain] at h3
        show W.cell? ⟨a.block, a.off + i * P.cellsOf t' + j, none⟩ = some ((f i).2.getD j undef)
        rw [h3, List.getD, List.getElem?_eq_getElem hj']; rfl
      · show VR W (allS W) (fun _ => none) ((e (l.getD (0 + i) d)).getD j .any) _
        rw [Nat.zero_add, hlg i hi]
        exact (g4 j hj').1
      · exact (g4 j hj').2
/-- One part behind the other. -/
theorem CellsR.append {l l' : List AV} {cs cs' : List Value} (h : CellsR W l cs) (h' : CellsR W l' cs') : CellsR W (l ++ l') (cs ++ cs') := by
  refine ⟨by simp [h.1, h'.1], fun i hi => ?_⟩
  by_cases hlt : i < cs.length
  · have e1 : (l ++ l').getD i .any = l.getD i .any := by simp [List.getD, List.getElem?_append, h.1, hlt]
    have e2 : (cs ++ cs').getD i undef = cs.getD i undef := by simp [List.getD, List.getElem?_append, hlt]
    rw [e1, e2]; exact h.2 i hlt
  · have e1 : (l ++ l').getD i .any = l'.getD (i - cs.length) .any := by simp [List.getD, List.getElem?_append, h.1, hlt]
    have e2 : (cs ++ cs').getD i undef = cs'.getD (i - cs.length) undef := by simp [List.getD, List.getElem?_append, hlt]
    rw [e1, e2]; exact h'.2 _ (by simp at hi; omega)
/-- Readers of some cells in a row: the fields of a struct from one on. -/
def RdF {α : Type} (enc : TypeId × Value → H) (P : Program) (W : World) (fs : List Field) (o n : Nat) (e : α → List AV) (ok : α → Prop) : Prop :=
  ∀ fuel (cs : List Value) (m : Nat), cs.length = m → o + n = m → (∀ f ∈ fs, ∃ x, DataW.trod enc P W 0 (fun _ => true) true fuel f.type ((cs.drop f.offset).take (P.cellsOf f.type)) = some x) → ∃ a, ok a ∧ CellsR W (e a) (cs.drop o)
theorem RdF.nil {o : Nat} : RdF enc P W [] o 0 (fun _ : Unit => []) (fun _ => True) := by
  intro fuel cs m h1 h2 _
  refine ⟨(), trivial, ?_⟩
  rw [List.drop_of_length_le (by omega)]
  exact ⟨rfl, fun i hi => by simp at hi⟩
theorem RdF.cons {α β : Type} {f : Field} {fs : List Field} {o n m : Nat} {e : α → List AV} {ok : α → Prop} {e' : β → List AV} {ok' : β → Prop} (ho : f.offset = o) (hc : P.cellsOf f.type = n) (h : Rd enc P W f.type n e ok) (h' : RdF enc P W fs (o + n) m e' ok') :
    RdF enc P W (f :: fs) o (n + m) (fun a : α × β => e a.1 ++ e' a.2) (fun a => ok a.1 ∧ ok' a.2) := by
  intro fuel cs k h1 h2 h3
  obtain ⟨x, hx⟩ := h3 f (by simp)
  obtain ⟨a, ha, hl, hr⟩ := h _ _ _ hx
  obtain ⟨b, hb, hr'⟩ := h' fuel cs k h1 (by omega) (fun g hg => h3 g (by simp [hg]))
  refine ⟨(a, b), ⟨ha, hb⟩, ?_⟩
  rw [ho, hc] at hr
  have e1 : cs.drop o = (cs.drop o).take n ++ cs.drop (o + n) := by rw [← List.drop_drop, List.take_append_drop]
  rw [e1]
  exact hr.append hr'
theorem Rd.struct {α : Type} {t : TypeId} {fs : Array Field} {n : Nat} {e : α → List AV} {ok : α → Prop} (ht : P.underlying t = some (.struct fs)) (hc : P.cellsOf t = n) (h : RdF enc P W fs.toList 0 n e ok) : Rd enc P W t n e ok := by
  intro fuel cs x hx
  obtain ⟨xs, m, _, _, hl, hxl, hf⟩ := DataW.trod_struct ht hx
  obtain ⟨a, ha, hr⟩ := h m cs n (by omega) (by omega) (fun f hf' => by
    obtain ⟨i, hi, rfl⟩ := List.getElem_of_mem hf'
    have h1 := hf i fs.toList[i] (by simp at hi; simp [hi])
    have h2 : xs[i]? = some (xs[i]'(by simp at hi; omega)) := List.getElem?_eq_getElem _
    rw [h2] at h1
    exact ⟨_, h1⟩)
  exact ⟨a, ha, by omega, by simpa using hr⟩
/-- The same, told by another list of abstract values. -/
theorem CellsR.conv {l l' : List AV} {cs : List Value} (h : CellsR W l cs) (hl : l'.length = l.length) (he : ∀ i, i < l.length → AEq (l.getD i .any) (l'.getD i .any)) : CellsR W l' cs :=
  ⟨hl.trans h.1, fun i hi => ⟨he i (by rw [h.1]; exact hi) _ _ _ _ (h.2 i hi).1, (h.2 i hi).2⟩⟩
theorem Rd.map {α β : Type} {t : TypeId} {n : Nat} {e : α → List AV} {ok : α → Prop} {e' : β → List AV} {ok' : β → Prop} (h : Rd enc P W t n e ok) (f : α → β) (hok : ∀ a, ok a → ok' (f a)) (hl : ∀ a, (e' (f a)).length = (e a).length)
    (he : ∀ a i, i < (e a).length → AEq ((e a).getD i .any) ((e' (f a)).getD i .any)) : Rd enc P W t n e' ok' := by
  intro fuel cs x hx
  obtain ⟨a, ha, h1, h2⟩ := h fuel cs x hx
  exact ⟨f a, hok a ha, h1, h2.conv (hl a) (he a)⟩
theorem rowE_ints (k : IntKind) (l : List Int) : AEq (.ro (rowE 0 1 (fun n : Int => [AV.int k n]) l) 0 l.length) (.ro (.ints k l) 0 l.length) := by
  refine AEq.ro rfl (fun d j hd hj => ?_)
  have hj0 : j = 0 := Nat.lt_one_iff.1 hj
  subst hj0
  rfl
theorem rowE_strs (l : List (List UInt8)) : AEq (.ro (rowE [] 1 (fun s : List UInt8 => [AV.str s]) l) 0 l.length) (.ro (.strs l) 0 l.length) := by
  refine AEq.ro rfl (fun d j hd hj => ?_)
  have hj0 : j = 0 := Nat.lt_one_iff.1 hj
  subst hj0
  rfl
theorem Rd.ints {t t' : TypeId} {k : IntKind} (ht : P.underlying t = some (.slice t')) (hc : P.cellsOf t' = 1) (hk : P.underlying t' = some (.int k)) :
    Rd enc P W t 1 (fun l : List Int => [AV.ro (.ints k l) 0 l.length]) (fun l => l.length ≤ 9223372036854775807 ∧ ∀ n ∈ l, (Lit.int k n).wf = true) :=
  (Rd.slice 0 ht hc rfl (Rd.int hk)).map id (fun _ h => h) (fun _ => rfl) (fun l i hi => by
    have : i = 0 := by simpa using hi
    subst this
    exact rowE_ints k l)
theorem Rd.strs {t t' : TypeId} (ht : P.underlying t = some (.slice t')) (hc : P.cellsOf t' = 1) (hk : P.underlying t' = some .string) :
    Rd enc P W t 1 (fun l : List (List UInt8) => [AV.ro (.strs l) 0 l.length]) (fun l => l.length ≤ 9223372036854775807 ∧ ∀ s ∈ l, s.length ≤ 9223372036854775807) :=
  (Rd.slice [] ht hc rfl (Rd.str hk)).map id (fun _ h => h) (fun _ => rfl) (fun l i hi => by
    have : i = 0 := by simpa using hi
    subst this
    exact rowE_strs l)
theorem Rd.intss {t t' t'' : TypeId} (ht : P.underlying t = some (.slice t')) (hc : P.cellsOf t' = 1) (ht' : P.underlying t' = some (.slice t'')) (hc' : P.cellsOf t'' = 1) (hk : P.underlying t'' = some (.int .i64)) :
    Rd enc P W t 1 (fun l : List (List Int) => [AV.ro (rowsI l) 0 l.length]) (fun l => l.length ≤ 9223372036854775807 ∧ ∀ s ∈ l, s.length ≤ 9223372036854775807 ∧ ∀ n ∈ s, (Lit.int .i64 n).wf = true) :=
  (Rd.slice [] ht hc rfl (Rd.ints ht' hc' hk)).map id (fun _ h => h) (fun _ => rfl) (fun l i hi => by
    have : i = 0 := by simpa using hi
    subst this
    refine AEq.ro rfl (fun d j hd hj => ?_)
    have hj0 : j = 0 := Nat.lt_one_iff.1 hj
    subst hj0
    rfl)
/-- An argument that is one cell. -/
theorem Rd.one {α : Type} {t : TypeId} {e : α → List AV} {ok : α → Prop} {v : Value} {d : DataW H} {p : List MemPlace} (h : Rd enc P W t 1 e ok) (hv : v.cells = #[v]) (hd : DataW.Trod enc P W 0 (fun _ => true) true t v d p) :
    ∃ a, ok a ∧ VR W (allS W) (fun _ => none) ((e a).getD 0 .any) v := by
  obtain ⟨fuel, hx⟩ := hd
  rw [hv] at hx
  obtain ⟨a, ha, _, hr⟩ := h _ _ _ hx
  exact ⟨a, ha, (hr.2 0 Nat.zero_lt_one).1⟩
/-- A struct or an array. -/
theorem Rd.agg {α : Type} {t : TypeId} {n : Nat} {e : α → List AV} {ok : α → Prop} {vs : Array Value} {d : DataW H} {p : List MemPlace} (h : Rd enc P W t n e ok) (hd : DataW.Trod enc P W 0 (fun _ => true) true t (.agg vs) d p) :
    ∃ a, ok a ∧ VR W (allS W) (fun _ => none) (.agg (e a)) (.agg vs) := by
  obtain ⟨fuel, hx⟩ := hd
  obtain ⟨a, ha, _, hr⟩ := h _ _ _ hx
  have hc : (Value.agg vs).cells = vs := rfl
  rw [hc] at hr
  refine ⟨a, ha, .agg _ _ _ (by rw [hr.1]; simp) (fun i hi => ?_) (fun i hi => ?_)⟩
  all_goals
    rw [hr.1] at hi
    have g := hr.2 i hi
    have hi' : i < vs.size := by simpa using hi
    have e1 : vs.toList.getD i undef = vs.getD i undef := by simp [List.getD, Array.getD, hi']
    rw [e1] at g
  · exact g.1
  · exact g.2
end
end Go.Ax

/-
  Placements in plain Lean: counts, numbers of placements, ranks. No program in sight.
-/
namespace Go.Ax.Idx

def outC (n : Int) : Bool := decide (n < 0 ∨ 16 < n)
def outK (n : Int) : Bool := decide (n < 0 ∨ 6 < n)
/-- index.CheckCounts -/
def checkCountsF (l : List Int) : Int :=
  if l.length ≠ 7 then 3 else if l.any outC then 4 else if 16 < l.sum then 2 else 0
/-- index.Check -/
def checkF (l : List Int) : Int := if 16 < l.length then 2 else if l.any outK then 4 else 0

def wstep (s : Int × Int) (k : Nat) : Int × Int := (s.1 * (s.2 + 1) / (k + 1), s.2 + 1)
def wrow (s : Int × Int) (c : Int) : Int × Int := (List.range c.toNat).foldl wstep s
def waysS (l : List Int) : Int × Int := l.foldl wrow (1, 0)
def waysF (l : List Int) : Int := (waysS l).1

def fct : Nat → Int
  | 0 => 1
  | n + 1 => (n + 1) * fct n
theorem fct_pos : ∀ n, 1 ≤ fct n
  | 0 => by simp [fct]
  | n + 1 => by
    have := fct_pos n
    simp only [fct]
    have h : (1 : Int) * 1 ≤ (n + 1) * fct n := Int.mul_le_mul (by omega) this (by omega) (by omega)
    omega
theorem fct_mono : ∀ d m, fct m ≤ fct (m + d) := by
  intro d
  induction d with
  | zero => intro m; exact Int.le_refl _
  | succ d ih =>
    intro m
    have h := ih m
    have p := fct_pos (m + d)
    have : fct (m + d + 1) = (m + d + 1) * fct (m + d) := by simp only [fct]; congr 1
    rw [← Nat.add_assoc, this]
    have h5 : (1 : Int) * fct (m + d) ≤ (m + d + 1) * fct (m + d) := Int.mul_le_mul_of_nonneg_right (by omega) (by omega)
    omega
/-- What holds of the two numbers while 'ways' counts. -/
structure WOk (s : Int × Int) (n : Nat) : Prop where
  num : s.2 = n
  lo : 0 ≤ s.1
  hi : s.1 ≤ fct n
theorem WOk.step {s : Int × Int} {n : Nat} (h : WOk s n) (k : Nat) : WOk (wstep s k) (n + 1) := by
  obtain ⟨h1, h2, h3⟩ := h
  have hm : 0 ≤ s.1 * (s.2 + 1) := Int.mul_nonneg h2 (by omega)
  refine ⟨by simp only [wstep]; omega, Int.ediv_nonneg hm (by omega), ?_⟩
  simp only [wstep, fct]
  refine Int.le_trans (Int.ediv_le_self _ hm) ?_
  rw [h1, Int.mul_comm]
  exact Int.mul_le_mul_of_nonneg_left h3 (by omega)
theorem WOk.range {s : Int × Int} {n : Nat} (h : WOk s n) (j : Nat) : WOk ((List.range j).foldl wstep s) (n + j) := by
  induction j with
  | zero => exact h
  | succ j ih => rw [List.range_succ, List.foldl_append]; exact ih.step j
theorem WOk.mul {s : Int × Int} {n : Nat} (h : WOk s n) (hn : n ≤ 15) : 0 ≤ s.1 * (s.2 + 1) ∧ s.1 * (s.2 + 1) ≤ 9223372036854775807 := by
  obtain ⟨h1, h2, h3⟩ := h
  have h4 : fct n ≤ fct 15 := by
    have := fct_mono (15 - n) n
    rwa [show n + (15 - n) = 15 by omega] at this
  have h5 : fct 15 = 1307674368000 := by decide
  refine ⟨Int.mul_nonneg h2 (by omega), ?_⟩
  have : s.1 * (s.2 + 1) ≤ 1307674368000 * 16 := Int.mul_le_mul (by omega) (by omega) (by omega) (by omega)
  omega
theorem waysS_ok (l : List Int) (h0 : ∀ x ∈ l, 0 ≤ x) : ∀ k, k ≤ l.length → ∃ n : Nat, (n : Int) = (l.take k).sum ∧ WOk (waysS (l.take k)) n := by
  intro k
  induction k with
  | zero => intro _; exact ⟨0, by simp, ⟨by simp [waysS], by simp [waysS], by simp [waysS, fct]⟩⟩
  | succ k ih =>
    intro hk
    obtain ⟨n, hn, hw⟩ := ih (by omega)
    have hx := h0 _ (getD_mem 0 (by omega : k < l.length))
    refine ⟨n + (l.getD k 0).toNat, ?_, ?_⟩
    · rw [sum_take_succ l k (by omega)]; omega
    · unfold waysS
      rw [take_succ_getD l 0 k (by omega), List.foldl_append]
      exact hw.range _
theorem sum_nonneg : ∀ m : List Int, (∀ x ∈ m, 0 ≤ x) → 0 ≤ m.sum := by
  intro m
  induction m with
  | nil => intro _; simp
  | cons x r ih => intro hm; simp only [List.sum_cons]; have := hm x (by simp); have := ih (fun y hy => hm y (by simp [hy])); omega
theorem sum_take_le (l : List Int) (h0 : ∀ x ∈ l, 0 ≤ x) (k : Nat) : (l.take k).sum ≤ l.sum := by
  have h : l.sum = (l.take k).sum + (l.drop k).sum := by rw [← List.sum_append, List.take_append_drop]
  have := sum_nonneg (l.drop k) (fun x hx => h0 x (List.mem_of_mem_drop hx))
  omega
theorem waysF_bd (l : List Int) (h0 : ∀ x ∈ l, 0 ≤ x) (hs : l.sum ≤ 16) : 0 ≤ waysF l ∧ waysF l ≤ 20922789888000 := by
  obtain ⟨n, hn, hw⟩ := waysS_ok l h0 l.length (Nat.le_refl _)
  rw [List.take_length] at hn hw
  have h4 : fct n ≤ fct 16 := by
    have := fct_mono (16 - n) n
    rwa [show n + (16 - n) = 16 by omega] at this
  have h5 : fct 16 = 20922789888000 := by decide
  exact ⟨hw.lo, by have := hw.hi; unfold waysF; omega⟩

/-- The place of the first element with a property, or -1. -/
def idxF {α : Type} (p : α → Bool) : List α → Int
  | [] => -1
  | x :: r => if p x then 0 else if idxF p r < 0 then -1 else idxF p r + 1
theorem idxF_neg {α : Type} (p : α → Bool) (l : List α) (h : idxF p l < 0) : idxF p l = -1 := by
  cases l with
  | nil => rfl
  | cons x r =>
    simp only [idxF] at h ⊢
    by_cases h1 : p x = true
    · simp [h1] at h
    · by_cases h2 : idxF p r < 0
      · simp [h1, h2]
      · simp only [h1, h2, if_false, Bool.false_eq_true] at h
        omega
theorem idxF_take {α : Type} (p : α → Bool) (l : List α) (k : Nat) (h : (l.take k).any p = false) (hk : k ≤ l.length) : idxF p l = if idxF p (l.drop k) < 0 then -1 else idxF p (l.drop k) + k := by
  induction k generalizing l with
  | zero =>
    simp only [List.drop_zero]
    split
    · exact idxF_neg p l (by assumption)
    · omega
  | succ k ih => cases l with
    | nil => simp at hk
    | cons x r =>
      simp only [List.take_succ_cons, List.any_cons, Bool.or_eq_false_iff] at h
      have := ih r h.2 (by simpa using hk)
      simp only [idxF, h.1, List.drop_succ_cons, Bool.false_eq_true, if_false]
      rw [this]
      split <;> split <;> omega
theorem idxF_any {α : Type} (p : α → Bool) (l : List α) : decide (0 ≤ idxF p l) = l.any p := by
  induction l with
  | nil => rfl
  | cons x r ih =>
    simp only [idxF, List.any_cons]
    by_cases h1 : p x = true
    · simp [h1]
    · simp only [Bool.not_eq_true] at h1
      simp only [h1, Bool.false_eq_true, if_false, Bool.false_or]
      rw [← ih]
      by_cases h2 : idxF p r < 0
      · rw [if_pos h2]; simp; omega
      · rw [if_neg h2]; congr 1; simp; omega

/-- How often each kind occurs. -/
def cnt (m : List Int) : List Int := (List.range 7).map fun (i : Nat) => ((m.count (i : Int) : Nat) : Int)
theorem cnt_length (m : List Int) : (cnt m).length = 7 := by simp [cnt]
theorem cnt_getD (m : List Int) (i : Nat) (hi : i < 7) : (cnt m).getD i 0 = ((m.count (i : Int) : Nat) : Int) := by
  simp [cnt, List.getD, hi]
theorem cnt_nonneg (m : List Int) : ∀ x ∈ cnt m, 0 ≤ x := by
  intro x hx
  simp only [cnt, List.mem_map] at hx
  obtain ⟨i, _, rfl⟩ := hx
  omega
theorem cnt_le (m : List Int) (i : Nat) : 0 ≤ (cnt m).getD i 0 ∧ (cnt m).getD i 0 ≤ m.length := by
  by_cases hi : i < 7
  · rw [cnt_getD m i hi]
    have := List.count_le_length (a := (i : Int)) (l := m)
    omega
  · have : (cnt m).getD i 0 = 0 := by simp [List.getD, List.getElem?_eq_none (show (cnt m).length ≤ i by rw [cnt_length]; omega)]
    omega
theorem list_ext7 {l m : List Int} (hl : l.length = 7) (hm : m.length = 7) (h : ∀ i, i < 7 → l.getD i 0 = m.getD i 0) : l = m := by
  apply List.ext_getElem?
  intro i
  by_cases hi : i < 7
  · have := h i hi
    rw [getD_lt 0 (by omega), getD_lt 0 (by omega)] at this
    rw [List.getElem?_eq_getElem (by omega), List.getElem?_eq_getElem (by omega), this]
  · rw [List.getElem?_eq_none (by omega), List.getElem?_eq_none (by omega)]
theorem getD_set {l : List Int} {i j : Nat} {v : Int} (hi : i < l.length) : (l.set i v).getD j 0 = if j = i then v else l.getD j 0 := by
  by_cases h : j = i
  · subst h; simp [List.getD, hi]
  · simp only [List.getD, h, if_false]
    rw [List.getElem?_set_ne (fun e => h e.symm)]
theorem cnt_snoc (m : List Int) (x : Int) (h0 : 0 ≤ x) (h6 : x ≤ 6) : cnt (m ++ [x]) = (cnt m).set x.toNat ((cnt m).getD x.toNat 0 + 1) := by
  refine list_ext7 (cnt_length _) (by simp [cnt_length]) (fun i hi => ?_)
  rw [getD_set (by rw [cnt_length]; omega), cnt_getD _ i hi, List.count_append]
  split
  · rename_i h
    subst h
    rw [cnt_getD _ _ hi]
    have : ((x.toNat : Nat) : Int) = x := by omega
    rw [this]; simp
  · rename_i h
    rw [cnt_getD _ i hi]
    have : List.count (i : Int) [x] = 0 := by
      rw [List.count_eq_zero]; simp; omega
    rw [this]; rfl
theorem cnt_cons (m : List Int) (x : Int) (h0 : 0 ≤ x) (h6 : x ≤ 6) : cnt m = (cnt (x :: m)).set x.toNat ((cnt (x :: m)).getD x.toNat 0 - 1) := by
  refine list_ext7 (cnt_length _) (by simp [cnt_length]) (fun i hi => ?_)
  rw [getD_set (by rw [cnt_length]; omega), cnt_getD _ i hi]
  split
  · rename_i h
    subst h
    rw [cnt_getD _ _ hi]
    have : ((x.toNat : Nat) : Int) = x := by omega
    rw [this]; simp
  · rename_i h
    rw [cnt_getD _ i hi]
    have : ¬ x = (i : Int) := by omega
    simp [List.count_cons, this]
theorem sum_set (l : List Int) (i : Nat) (v : Int) (hi : i < l.length) : (l.set i v).sum = l.sum - l.getD i 0 + v := by
  induction l generalizing i with
  | nil => simp at hi
  | cons x r ih =>
    cases i with
    | zero => simp only [List.set_cons_zero, List.sum_cons, List.getD_cons_zero]; omega
    | succ i =>
      simp only [List.set_cons_succ, List.sum_cons, List.getD_cons_succ]
      rw [ih i (by simpa using hi)]; omega
theorem cnt_nil : cnt [] = List.replicate 7 0 := by simp [cnt, List.range, List.range.loop, List.replicate]
theorem cnt_sum (m : List Int) (h : ∀ x ∈ m, 0 ≤ x ∧ x ≤ 6) : (cnt m).sum = m.length := by
  induction m with
  | nil => rw [cnt_nil]; rfl
  | cons x r ih =>
    have hx := h x (by simp)
    have h1 := ih (fun y hy => h y (by simp [hy]))
    rw [cnt_cons r x hx.1 hx.2, sum_set _ _ _ (by rw [cnt_length]; omega)] at h1
    simp only [List.length_cons]
    omega
/-- One less of kind i. -/
def less (l : List Int) (i : Nat) : List Int := l.set i (l.getD i 0 - 1)
/-- The numbers of placements that begin with a smaller kind. -/
def rrow (l : List Int) (c : Nat) : Int := ((List.range c).map fun i => if 0 < l.getD i 0 then waysF (less l i) else 0).sum
def rankF : List Int → Int
  | [] => 0
  | c :: r => rrow (cnt (c :: r)) c.toNat + rankF r
theorem less_ok {l : List Int} (h0 : ∀ x ∈ l, 0 ≤ x) {i : Nat} (hi : 0 < l.getD i 0) : (∀ x ∈ less l i, 0 ≤ x) ∧ (less l i).sum = l.sum - 1 ∧ (less l i).length = l.length ∧ i < l.length := by
  have hlt : i < l.length := by
    rcases Nat.lt_or_ge i l.length with h | h
    · exact h
    · simp [List.getD, List.getElem?_eq_none h] at hi
  refine ⟨fun x hx => ?_, by unfold less; rw [sum_set _ _ _ hlt]; omega, by simp [less], hlt⟩
  rcases List.mem_or_eq_of_mem_set hx with h | h
  · exact h0 x h
  · omega
theorem set_back {l : List Int} {i : Nat} (hi : i < l.length) : (less l i).set i ((less l i).getD i 0 + 1) = l := by
  unfold less
  rw [getD_set hi, if_pos rfl, List.set_set]
  have : l.getD i 0 - 1 + 1 = l[i] := by rw [getD_lt 0 hi]; omega
  rw [this, List.set_getElem_self]
theorem rrow_succ (l : List Int) (c : Nat) : rrow l (c + 1) = rrow l c + if 0 < l.getD c 0 then waysF (less l c) else 0 := by
  unfold rrow
  rw [List.range_succ, List.map_append, List.sum_append]
  simp
theorem rrow_bd (l : List Int) (h0 : ∀ x ∈ l, 0 ≤ x) (hs : l.sum ≤ 17) (c : Nat) : 0 ≤ rrow l c ∧ rrow l c ≤ c * 20922789888000 := by
  induction c with
  | zero => simp [rrow]
  | succ c ih =>
    rw [rrow_succ]
    split
    · rename_i h
      obtain ⟨a, b, _, _⟩ := less_ok h0 h
      have := waysF_bd (less l c) a (by omega)
      omega
    · omega
theorem rankF_bd (l : List Int) (h : ∀ x ∈ l, 0 ≤ x ∧ x ≤ 6) (hs : l.length ≤ 16) : 0 ≤ rankF l ∧ rankF l ≤ l.length * 125536739328000 := by
  induction l with
  | nil => simp [rankF]
  | cons x r ih =>
    have hx := h x (by simp)
    have h1 := ih (fun y hy => h y (by simp [hy])) (by simp at hs; omega)
    have h2 := rrow_bd (cnt (x :: r)) (cnt_nonneg _) (by rw [cnt_sum _ h]; omega) x.toNat
    simp only [rankF, List.length_cons]
    have : (x.toNat : Int) * 20922789888000 ≤ 125536739328000 := by omega
    omega
end Go.Ax.Idx

/-
  Decks of cards in plain Lean. No program in sight.
-/
namespace Go.Ax.Cd
open Go.Ax.Idx

def eqp (v y : Int) : Bool := decide (v = y)
/-- cards.Check, from some card on -/
def deckGo (seen : List Int) : List Int → Int
  | [] => 0
  | c :: r => if c < 0 ∨ 52 ≤ c then 4 else if seen.any (eqp c) then 7 else deckGo (seen ++ [c]) r
def deckF (l : List Int) : Int := if 52 < l.length then 2 else deckGo [] l
/-- cards.Fits -/
def fitsGo (n : Int) (j : Nat) : List Int → Int
  | [] => 0
  | d :: r => if d < 0 ∨ n - 1 - j < d then 4 else fitsGo n (j + 1) r
def fitsF (n : Int) (l : List Int) : Int := if (l.length : Int) ≠ (if 1 > n then 1 else n) - 1 then 3 else fitsGo n 0 l
/-- The first numbers. -/
def iota (n : Nat) : List Int := (List.range n).map fun (i : Nat) => (i : Int)
theorem iota_length (n : Nat) : (iota n).length = n := by simp [iota]
theorem iota_succ (n : Nat) : iota (n + 1) = iota n ++ [(n : Int)] := by simp [iota, List.range_succ]
def swapF (l : List Int) (i k : Nat) : List Int := (l.set i (l.getD k 0)).set k (l.getD i 0)
theorem swapF_length (l : List Int) (i k : Nat) : (swapF l i k).length = l.length := by simp [swapF]
/-- cards.Shuffle, from some draw on -/
def shufGo (l : List Int) (j : Nat) : List Int → List Int
  | [] => l
  | d :: r => shufGo (swapF l (l.length - 1 - j) d.toNat) (j + 1) r
def shufF (l draws : List Int) : List Int := shufGo l 0 draws
theorem shufGo_append (l : List Int) (j : Nat) (a b : List Int) : shufGo l j (a ++ b) = shufGo (shufGo l j a) (j + a.length) b := by
  induction a generalizing l j with
  | nil => simp [shufGo]
  | cons d r ih => simp only [List.cons_append, shufGo, List.length_cons, ih]; rw [show j + 1 + r.length = j + (r.length + 1) by omega]
theorem shufGo_length (l : List Int) (j : Nat) (a : List Int) : (shufGo l j a).length = l.length := by
  induction a generalizing l j with
  | nil => rfl
  | cons d r ih => simp only [shufGo, ih, swapF_length]
theorem fitsGo_take {n : Int} {l : List Int} {k : Nat} (hk : k ≤ l.length) (h : ∀ j, j < k → 0 ≤ l.getD j 0 ∧ l.getD j 0 ≤ n - 1 - j) : fitsGo n 0 l = fitsGo n k (l.drop k) := by
  induction k with
  | zero => rfl
  | succ k ih =>
    rw [ih (by omega) (fun j hj => h j (by omega)), drop_getD l 0 k (by omega), fitsGo]
    have := h k (by omega)
    rw [if_neg (by omega)]
theorem fitsGo_zero {n : Int} {l : List Int} (j : Nat) (h : fitsGo n j l = 0) : ∀ i, i < l.length → 0 ≤ l.getD i 0 ∧ l.getD i 0 ≤ n - 1 - (j + i : Nat) := by
  induction l generalizing j with
  | nil => intro i hi; simp at hi
  | cons d r ih =>
    intro i hi
    rw [fitsGo] at h
    split at h
    · omega
    · cases i with
      | zero => simp; omega
      | succ i =>
        have := ih (j + 1) h i (by simpa using hi)
        simp only [List.getD_cons_succ]
        rw [show j + (i + 1) = j + 1 + i by omega]; exact this
theorem deckGo_take {l : List Int} {k : Nat} (hk : k ≤ l.length) (h : ∀ j, j < k → (0 ≤ l.getD j 0 ∧ l.getD j 0 < 52) ∧ (l.take j).any (eqp (l.getD j 0)) = false) : deckGo [] l = deckGo (l.take k) (l.drop k) := by
  induction k with
  | zero => rfl
  | succ k ih =>
    rw [ih (by omega) (fun j hj => h j (by omega)), drop_getD l 0 k (by omega), deckGo]
    have := h k (by omega)
    rw [if_neg (by omega), if_neg (by rw [this.2]; decide), take_succ_getD l 0 k (by omega)]
/-- The draws between two decks, from place i on downwards: what is still to be placed is 'now'. -/
def drawsGo (to : List Int) : Nat → List Int → List Int
  | 0, _ => []
  | i + 1, now => idxF (eqp (to.getD (i + 1) 0)) now :: drawsGo to i (swapF now (i + 1) (idxF (eqp (to.getD (i + 1) 0)) now).toNat)
def drawsF (l to : List Int) : List Int := drawsGo to (l.length - 1) l
def drawsE (l to : List Int) : Int := if l.length ≠ to.length then 3 else if to.any (fun c => !(l.any (eqp c))) then 3 else 0
end Go.Ax.Cd
namespace Go.Ax.Cd
open Go.Ax.Idx
theorem mem_swapF {l : List Int} {i k : Nat} (hi : i < l.length) (hk : k < l.length) (c : Int) : c ∈ swapF l i k ↔ c ∈ l := by
  have key : ∀ {l : List Int} {i k : Nat}, i < l.length → k < l.length → ∀ c, c ∈ swapF l i k → c ∈ l := by
    intro l i k hi hk c h
    unfold swapF at h
    rcases List.mem_or_eq_of_mem_set h with h | h
    · rcases List.mem_or_eq_of_mem_set h with h | h
      · exact h
      · rw [h]; exact getD_mem 0 hk
    · rw [h]; exact getD_mem 0 hi
  refine ⟨key hi hk c, fun h => ?_⟩
  have hb : swapF (swapF l i k) i k = l := by
    apply List.ext_getElem?
    intro j
    unfold swapF
    simp only [List.getElem?_set, List.length_set, List.getD]
    by_cases h1 : k = j
    · subst h1
      by_cases h2 : i = k
      · subst h2; simp [hi]
      · have h3 : ¬ k = i := fun e => h2 e.symm
        simp [hk, hi, h3]
    · by_cases h2 : i = j
      · subst h2; simp [h1, hi, hk]
      · simp [h1, h2]
  have := key (l := swapF l i k) (i := i) (k := k) (by rw [swapF_length]; exact hi) (by rw [swapF_length]; exact hk) c (by rw [hb]; exact h)
  exact this
theorem idxF_lt {l : List Int} {v : Int} (h : v ∈ l) : 0 ≤ idxF (eqp v) l ∧ idxF (eqp v) l < l.length := by
  induction l with
  | nil => simp at h
  | cons x r ih =>
    simp only [idxF]
    split
    · simp
    · rename_i hx
      have : v ∈ r := by
        rcases List.mem_cons.1 h with h | h
        · exact absurd (by simp [eqp, h]) hx
        · exact h
      have := ih this
      rw [if_neg (by omega)]
      simp; omega
theorem any_eqp {l : List Int} {v : Int} : l.any (eqp v) = true ↔ v ∈ l := by
  rw [List.any_eq_true]
  constructor
  · rintro ⟨x, hx, h⟩; simp [eqp] at h; rw [h]; exact hx
  · intro h; exact ⟨v, h, by simp [eqp]⟩
end Go.Ax.Cd
namespace Go.Ax.Cd
open Go.Ax.Idx
/-- The hands behind so many cards. -/
def dealGo (P : Nat) (l : List Int) : Nat → List (List Int)
  | 0 => List.replicate P []
  | m + 1 => (dealGo P l m).set (m % P) ((dealGo P l m).getD (m % P) [] ++ [l.getD m 0])
theorem dealGo_length (P : Nat) (l : List Int) (m : Nat) : (dealGo P l m).length = P := by
  induction m with
  | zero => simp [dealGo]
  | succ m ih => simp [dealGo, ih]
theorem dealGo_small (P : Nat) (l : List Int) (m k : Nat) : ((dealGo P l m).getD k []).length ≤ m := by
  induction m generalizing k with
  | zero => simp [dealGo, List.getD, List.getElem?_replicate]; split <;> simp
  | succ m ih =>
    simp only [dealGo, List.getD, List.getElem?_set]
    split
    · split
      · have := ih (m % P); simp only [List.getD] at this; simp; omega
      · simp
    · have := ih k; simp only [List.getD] at this; omega
end Go.Ax.Cd

namespace Go.Proofs.YtmfhdfofmdggaaaDoor
open Go.Ax Go.Ax.Idx Go.Ax.Cd
attribute [local irreducible] Ax Post QOp ACall
set_option maxRecDepth 100000
set_option maxHeartbeats 4000000

theorem indexI (l : List Int) (v : Int) (hlen : l.length ≤ 9223372036854775807) :
    VCall Tryd.prog 43 [.ro (.ints .i64 l) 0 l.length, .int .i64 v] (.int .i64 (idxF (eqp v) l)) := by
  refine ACall.value0 (acall_of_ax (P := Tryd.prog) (fn := Tryd.f43) rfl rfl (by kernel_rfl) rfl (fun c hR hfix => ?_)) (fix := fun _ => False) (fun _ h => h) rfl rfl
  repeat (first
    | refine ax_q (q_move rfl) ?_
    | refine ax_q (q_assign rfl) ?_
    | refine ax_ops_nil ?_
    | refine ax_post_code ?_
    | refine ax_seq ?_
    | refine ax_region rfl ?_
    | refine ax_block ?_
    | refine ax_q (q_len rfl rfl rfl) ?_)
  refine ax_loop (ι := Nat) (fun k => [(0, .ro (.ints .i64 l) 0 l.length), (1, .int .i64 v), (7, .int .i64 (l.length : Nat)), (8, .int .i64 (k : Nat))]) (fun _ => [])
    (fun k => k ≤ l.length ∧ (l.take k).any (eqp v) = false) (fun k => l.length - k) 0 ⟨⟨rfl, rfl, rfl, rfl, trivial⟩, rfl, Nat.zero_le _, rfl⟩ ?_
  intro k ⟨hk, hany⟩
  repeat (first
    | refine ax_ops_nil ?_
    | refine ax_post_code ?_
    | refine ax_seq ?_
    | refine ax_region rfl ?_
    | refine ax_q (q_lss rfl rfl) ?_)
  refine ax_cond_dec rfl (fun h => ?_) (fun h => ?_)
  · have hk' : k < l.length := by omega
    have hanys := any_take_succ (eqp v) l 0 k hk'
    repeat (first
      | refine ax_q (q_move rfl) ?_
      | refine ax_q (q_assign rfl) ?_
      | refine ax_q (q_loadi_rp rfl rfl rfl) ?_
      | refine ax_ops_nil ?_
      | refine ax_post_code ?_
      | refine ax_seq ?_
      | refine ax_region rfl ?_
      | refine ax_block ?_
      | refine ax_skip ?_
      | refine ax_q (q_eql rfl rfl) ?_
      | refine ax_q (q_index_ro' rfl rfl rfl rfl (by first | (simp only [Nat.zero_add, Int.toNat_natCast, Int.toNat_zero]; exact rfl) | exact rfl) (by omega)) ?_)
    refine ax_cond_dec rfl (fun h2 => ?_) (fun h2 => ?_)
    · repeat (first
        | refine ax_q (q_move rfl) ?_
        | refine ax_q (q_assign rfl) ?_
        | refine ax_ops_nil ?_
        | refine ax_post_code ?_
        | refine ax_seq ?_
        | refine ax_region rfl ?_
        | refine ax_return ?_
        | refine ax_ret_code ?_
        | refine ax_ret_blk ?_
        | refine ax_ret_inv ?_)
      refine ax_ret hR rfl ?_
      have := idxF_take (eqp v) l k hany hk
      rw [drop_getD l 0 k hk'] at this
      have h3 : eqp v (l.getD k 0) = true := by simpa [eqp] using h2
      simp only [idxF, h3, if_true] at this
      rw [this]; simp [tupOf]
    · repeat (first
        | refine ax_q (q_move rfl) ?_
        | refine ax_ops_nil ?_
        | refine ax_post_code ?_
        | refine ax_region rfl ?_
        | refine ax_post_blk ?_
        | refine ax_skip ?_
        | refine ax_q (q_add rfl rfl (by omega)) ?_)
      have h3 : eqp v (l.getD k 0) = false := by simpa [eqp] using h2
      refine ax_post_inv ⟨k + 1, ⟨by omega, by rw [hanys, hany, h3]; rfl⟩, by omega, ⟨rfl, rfl, rfl, rfl, trivial⟩, rfl⟩
  · have hk' : k = l.length := by omega
    subst hk'
    repeat (first
      | refine ax_q (q_assign rfl) ?_
      | refine ax_ops_nil ?_
      | refine ax_post_code ?_
      | refine ax_seq ?_
      | refine ax_region rfl ?_
      | refine ax_exit ?_
      | refine ax_exit_here ?_
      | refine ax_exit_code ?_
      | refine ax_exit_inv ?_
      | refine ax_return ?_)
    refine ax_ret hR rfl ?_
    have := idxF_take (eqp v) l l.length hany hk
    rw [List.drop_length] at this
    rw [this]; rfl

theorem containsV (l : List Int) (v : Int) (hlen : l.length ≤ 9223372036854775807) :
    VCall Tryd.prog 42 [.ro (.ints .i64 l) 0 l.length, .int .i64 v] (.bool (l.any (eqp v))) := by
  refine ACall.value0 (acall_of_ax (P := Tryd.prog) (fn := Tryd.f42) rfl rfl (by kernel_rfl) rfl (fun c hR hfix => ?_)) (fix := fun _ => False) (fun _ h => h) rfl rfl
  repeat (first
    | refine ax_q (q_move rfl) ?_
    | refine ax_q (q_assign rfl) ?_
    | refine ax_ops_nil ?_
    | refine ax_post_code ?_
    | refine ax_seq ?_
    | refine ax_region rfl ?_)
  refine ax_callv rfl rfl rfl (indexI l v hlen) ?_
  repeat (first
    | refine ax_q (q_assign rfl) ?_
    | refine ax_ops_nil ?_
    | refine ax_post_code ?_
    | refine ax_return ?_
    | refine ax_q (q_geq rfl rfl) ?_)
  refine ax_ret hR rfl ?_
  simp only [tupOf, idxF_any]

theorem equalI (a b : List Int) (hlen : a.length ≤ 9223372036854775807) (hlb : b.length ≤ 9223372036854775807) : VCall Tryd.prog 14 [.ro (.ints .i64 a) 0 a.length, .ro (.ints .i64 b) 0 b.length] (.bool (decide (a = b))) := by
  refine ACall.value0 (acall_of_ax (P := Tryd.prog) (fn := Tryd.f14) rfl rfl (by kernel_rfl) rfl (fun c hR hfix => ?_)) (fix := fun _ => False) (fun _ h => h) rfl rfl
  repeat (first
    | refine ax_q (q_move rfl) ?_
    | refine ax_q (q_assign rfl) ?_
    | refine ax_ops_nil ?_
    | refine ax_post_code ?_
    | refine ax_seq ?_
    | refine ax_region rfl ?_
    | refine ax_q (q_neq rfl rfl) ?_
    | refine ax_q (q_len rfl rfl rfl) ?_)
  refine ax_cond_dec rfl (fun h => ?_) (fun h => ?_)
  · repeat (first
      | refine ax_q (q_assign rfl) ?_
      | refine ax_ops_nil ?_
      | refine ax_post_code ?_
      | refine ax_seq ?_
      | refine ax_region rfl ?_
      | refine ax_return ?_
      | refine ax_ret_code ?_)
    refine ax_ret hR rfl ?_
    have : ¬ a = b := by rintro rfl; exact h rfl
    simp [tupOf, this]
  have hab : a.length = b.length := by omega
  repeat (first
    | refine ax_q (q_move rfl) ?_
    | refine ax_ops_nil ?_
    | refine ax_post_code ?_
    | refine ax_seq ?_
    | refine ax_region rfl ?_
    | refine ax_block ?_
    | refine ax_skip ?_
    | refine ax_q (q_len rfl rfl rfl) ?_)
  refine ax_loop (ι := Nat) (fun k => [(0, .ro (.ints .i64 a) 0 a.length), (1, .ro (.ints .i64 b) 0 b.length), (12, .int .i64 (a.length : Nat)), (13, .int .i64 (k : Nat))]) (fun _ => [])
    (fun k => k ≤ a.length ∧ a.take k = b.take k) (fun k => a.length - k) 0 ⟨⟨rfl, rfl, rfl, rfl, trivial⟩, rfl, Nat.zero_le _, rfl⟩ ?_
  intro k ⟨hk, heq⟩
  repeat (first
    | refine ax_ops_nil ?_
    | refine ax_post_code ?_
    | refine ax_seq ?_
    | refine ax_region rfl ?_
    | refine ax_q (q_lss rfl rfl) ?_)
  refine ax_cond_dec rfl (fun h2 => ?_) (fun h2 => ?_)
  · have hk' : k < a.length := by omega
    have ha := take_succ_getD a 0 k hk'
    have hb := take_succ_getD b 0 k (by omega)
    repeat (first
      | refine ax_q (q_move rfl) ?_
      | refine ax_q (q_assign rfl) ?_
      | refine ax_ops_nil ?_
      | refine ax_post_code ?_
      | refine ax_seq ?_
      | refine ax_region rfl ?_
      | refine ax_block ?_
      | refine ax_skip ?_)
    refine ax_regionq (by kernel_rfl) (by kernel_rfl) rfl ?_
    repeat (first
      | refine ax_q (q_move rfl) ?_
      | refine ax_q (q_loadi_rp rfl rfl rfl) ?_
      | refine ax_ops_nil ?_
      | refine ax_post_code ?_
      | refine ax_q (q_neq rfl rfl) ?_
      | refine ax_q (q_index_ro' rfl rfl rfl rfl (by first | (simp only [Nat.zero_add, Int.toNat_natCast, Int.toNat_zero]; exact rfl) | exact rfl) (by omega)) ?_)
    refine ax_cond_dec rfl (fun h3 => ?_) (fun h3 => ?_)
    · repeat (first
        | refine ax_q (q_assign rfl) ?_
        | refine ax_ops_nil ?_
        | refine ax_post_code ?_
        | refine ax_seq ?_
        | refine ax_region rfl ?_
        | refine ax_return ?_
        | refine ax_ret_code ?_
        | refine ax_ret_blk ?_
        | refine ax_ret_inv ?_)
      refine ax_ret hR rfl ?_
      have : ¬ a = b := by rintro rfl; exact h3 rfl
      simp [tupOf, this]
    · repeat (first
        | refine ax_q (q_move rfl) ?_
        | refine ax_ops_nil ?_
        | refine ax_post_code ?_
        | refine ax_region rfl ?_
        | refine ax_post_blk ?_
        | refine ax_skip ?_
        | refine ax_q (q_add rfl rfl (by omega)) ?_)
      have h4 : a.getD k 0 = b.getD k 0 := by omega
      exact ax_post_inv ⟨k + 1, ⟨by omega, by rw [ha, hb, heq, h4]⟩, by omega, ⟨rfl, rfl, rfl, rfl, trivial⟩, rfl⟩
  · have hk' : k = a.length := by omega
    subst hk'
    rw [List.take_length, hab, List.take_length] at heq
    repeat (first
      | refine ax_q (q_assign rfl) ?_
      | refine ax_ops_nil ?_
      | refine ax_post_code ?_
      | refine ax_seq ?_
      | refine ax_region rfl ?_
      | refine ax_exit ?_
      | refine ax_exit_here ?_
      | refine ax_exit_code ?_
      | refine ax_exit_inv ?_
      | refine ax_return ?_)
    refine ax_ret hR rfl ?_
    simp [tupOf, heq]

theorem indexFuncI (l : List Int) (g : FuncId) (caps : List AV) (p : Int → Bool) (hc : noRef.noRefs caps = true) (hlen : l.length ≤ 9223372036854775807) (hp : ∀ x ∈ l, VCall Tryd.prog g ([.int .i64 x] ++ caps) (.bool (p x))) :
    VCall Tryd.prog 55 [.ro (.ints .i64 l) 0 l.length, .fn g caps] (.int .i64 (idxF p l)) := by
  refine ACall.value0 (acall_of_ax (P := Tryd.prog) (fn := Tryd.f55) rfl rfl (by kernel_rfl) rfl (fun c hR hfix => ?_)) (fix := fun _ => False) (fun _ h => h) (by simp [noRef.noRefs, noRef, hc]) rfl
  repeat (first
    | refine ax_q (q_move rfl) ?_
    | refine ax_q (q_assign rfl) ?_
    | refine ax_ops_nil ?_
    | refine ax_post_code ?_
    | refine ax_seq ?_
    | refine ax_region rfl ?_
    | refine ax_block ?_
    | refine ax_q (q_len rfl rfl rfl) ?_)
  refine ax_loop (ι := Nat) (fun k => [(0, .ro (.ints .i64 l) 0 l.length), (1, .fn g caps), (7, .int .i64 (l.length : Nat)), (8, .int .i64 (k : Nat))]) (fun _ => [])
    (fun k => k ≤ l.length ∧ (l.take k).any p = false) (fun k => l.length - k) 0 ⟨⟨rfl, rfl, rfl, rfl, trivial⟩, rfl, Nat.zero_le _, rfl⟩ ?_
  intro k ⟨hk, hany⟩
  repeat (first
    | refine ax_ops_nil ?_
    | refine ax_post_code ?_
    | refine ax_seq ?_
    | refine ax_region rfl ?_
    | refine ax_q (q_lss rfl rfl) ?_)
  refine ax_cond_dec rfl (fun h => ?_) (fun h => ?_)
  · have hk' : k < l.length := by omega
    have hanys := any_take_succ p l 0 k hk'
    repeat (first
      | refine ax_q (q_move rfl) ?_
      | refine ax_q (q_assign rfl) ?_
      | refine ax_q (q_loadi_rp rfl rfl rfl) ?_
      | refine ax_ops_nil ?_
      | refine ax_post_code ?_
      | refine ax_seq ?_
      | refine ax_region rfl ?_
      | refine ax_block ?_
      | refine ax_skip ?_
      | refine ax_q (q_index_ro' rfl rfl rfl rfl (by first | (simp only [Nat.zero_add, Int.toNat_natCast, Int.toNat_zero]; exact rfl) | exact rfl) (by omega)) ?_)
    refine ax_callv rfl rfl rfl (hp _ (getD_mem 0 hk')) ?_
    repeat (first
      | refine ax_ops_nil ?_
      | refine ax_post_code ?_)
    refine ax_cond rfl (fun h2 => ?_) (fun h2 => ?_)
    · repeat (first
        | refine ax_q (q_move rfl) ?_
        | refine ax_q (q_assign rfl) ?_
        | refine ax_ops_nil ?_
        | refine ax_post_code ?_
        | refine ax_seq ?_
        | refine ax_region rfl ?_
        | refine ax_return ?_
        | refine ax_ret_code ?_
        | refine ax_ret_blk ?_
        | refine ax_ret_inv ?_)
      refine ax_ret hR rfl ?_
      have := idxF_take p l k hany hk
      rw [drop_getD l 0 k hk'] at this
      simp only [idxF, h2, if_true] at this
      rw [this]; simp [tupOf]
    · repeat (first
        | refine ax_q (q_move rfl) ?_
        | refine ax_ops_nil ?_
        | refine ax_post_code ?_
        | refine ax_region rfl ?_
        | refine ax_post_blk ?_
        | refine ax_skip ?_
        | refine ax_q (q_add rfl rfl (by omega)) ?_)
      refine ax_post_inv ⟨k + 1, ⟨by omega, by rw [hanys, hany, h2]; rfl⟩, by omega, ⟨rfl, rfl, rfl, rfl, trivial⟩, rfl⟩
  · have hk' : k = l.length := by omega
    subst hk'
    repeat (first
      | refine ax_q (q_assign rfl) ?_
      | refine ax_ops_nil ?_
      | refine ax_post_code ?_
      | refine ax_seq ?_
      | refine ax_region rfl ?_
      | refine ax_exit ?_
      | refine ax_exit_here ?_
      | refine ax_exit_code ?_
      | refine ax_exit_inv ?_
      | refine ax_return ?_)
    refine ax_ret hR rfl ?_
    have := idxF_take p l l.length hany hk
    rw [List.drop_length] at this
    rw [this]; rfl

theorem containsI (l : List Int) (g : FuncId) (caps : List AV) (p : Int → Bool) (hc : noRef.noRefs caps = true) (hlen : l.length ≤ 9223372036854775807) (hp : ∀ x ∈ l, VCall Tryd.prog g ([.int .i64 x] ++ caps) (.bool (p x))) :
    VCall Tryd.prog 40 [.ro (.ints .i64 l) 0 l.length, .fn g caps] (.bool (l.any p)) := by
  refine ACall.value0 (acall_of_ax (P := Tryd.prog) (fn := Tryd.f40) rfl rfl (by kernel_rfl) rfl (fun c hR hfix => ?_)) (fix := fun _ => False) (fun _ h => h) (by simp [noRef.noRefs, noRef, hc]) rfl
  repeat (first
    | refine ax_q (q_move rfl) ?_
    | refine ax_q (q_assign rfl) ?_
    | refine ax_ops_nil ?_
    | refine ax_post_code ?_
    | refine ax_seq ?_
    | refine ax_region rfl ?_)
  refine ax_callv rfl rfl rfl (indexFuncI l g caps p hc hlen hp) ?_
  repeat (first
    | refine ax_q (q_assign rfl) ?_
    | refine ax_ops_nil ?_
    | refine ax_post_code ?_
    | refine ax_return ?_
    | refine ax_q (q_geq rfl rfl) ?_)
  refine ax_ret hR rfl ?_
  simp only [tupOf, idxF_any]

theorem indexFuncE (l : List Int) (g : FuncId) (caps : List AV) (p : Int → Bool) (hc : noRef.noRefs caps = true) (hlen : l.length ≤ 9223372036854775807) (hp : ∀ x ∈ l, VCall Tryd.prog g ([.int .i64 x] ++ caps) (.bool (p x))) :
    VCall Tryd.prog 56 [.ro (.ints .i64 l) 0 l.length, .fn g caps] (.int .i64 (idxF p l)) := by
  refine ACall.value0 (acall_of_ax (P := Tryd.prog) (fn := Tryd.f56) rfl rfl (by kernel_rfl) rfl (fun c hR hfix => ?_)) (fix := fun _ => False) (fun _ h => h) (by simp [noRef.noRefs, noRef, hc]) rfl
  repeat (first
    | refine ax_q (q_move rfl) ?_
    | refine ax_q (q_assign rfl) ?_
    | refine ax_ops_nil ?_
    | refine ax_post_code ?_
    | refine ax_seq ?_
    | refine ax_region rfl ?_
    | refine ax_block ?_
    | refine ax_q (q_len rfl rfl rfl) ?_)
  refine ax_loop (ι := Nat) (fun k => [(0, .ro (.ints .i64 l) 0 l.length), (1, .fn g caps), (7, .int .i64 (l.length : Nat)), (8, .int .i64 (k : Nat))]) (fun _ => [])
    (fun k => k ≤ l.length ∧ (l.take k).any p = false) (fun k => l.length - k) 0 ⟨⟨rfl, rfl, rfl, rfl, trivial⟩, rfl, Nat.zero_le _, rfl⟩ ?_
  intro k ⟨hk, hany⟩
  repeat (first
    | refine ax_ops_nil ?_
    | refine ax_post_code ?_
    | refine ax_seq ?_
    | refine ax_region rfl ?_
    | refine ax_q (q_lss rfl rfl) ?_)
  refine ax_cond_dec rfl (fun h => ?_) (fun h => ?_)
  · have hk' : k < l.length := by omega
    have hanys := any_take_succ p l 0 k hk'
    repeat (first
      | refine ax_q (q_move rfl) ?_
      | refine ax_q (q_assign rfl) ?_
      | refine ax_q (q_loadi_rp rfl rfl rfl) ?_
      | refine ax_ops_nil ?_
      | refine ax_post_code ?_
      | refine ax_seq ?_
      | refine ax_region rfl ?_
      | refine ax_block ?_
      | refine ax_skip ?_
      | refine ax_q (q_index_ro' rfl rfl rfl rfl (by first | (simp only [Nat.zero_add, Int.toNat_natCast, Int.toNat_zero]; exact rfl) | exact rfl) (by omega)) ?_)
    refine ax_callv rfl rfl rfl (hp _ (getD_mem 0 hk')) ?_
    repeat (first
      | refine ax_ops_nil ?_
      | refine ax_post_code ?_)
    refine ax_cond rfl (fun h2 => ?_) (fun h2 => ?_)
    · repeat (first
        | refine ax_q (q_move rfl) ?_
        | refine ax_q (q_assign rfl) ?_
        | refine ax_ops_nil ?_
        | refine ax_post_code ?_
        | refine ax_seq ?_
        | refine ax_region rfl ?_
        | refine ax_return ?_
        | refine ax_ret_code ?_
        | refine ax_ret_blk ?_
        | refine ax_ret_inv ?_)
      refine ax_ret hR rfl ?_
      have := idxF_take p l k hany hk
      rw [drop_getD l 0 k hk'] at this
      simp only [idxF, h2, if_true] at this
      rw [this]; simp [tupOf]
    · repeat (first
        | refine ax_q (q_move rfl) ?_
        | refine ax_ops_nil ?_
        | refine ax_post_code ?_
        | refine ax_region rfl ?_
        | refine ax_post_blk ?_
        | refine ax_skip ?_
        | refine ax_q (q_add rfl rfl (by omega)) ?_)
      refine ax_post_inv ⟨k + 1, ⟨by omega, by rw [hanys, hany, h2]; rfl⟩, by omega, ⟨rfl, rfl, rfl, rfl, trivial⟩, rfl⟩
  · have hk' : k = l.length := by omega
    subst hk'
    repeat (first
      | refine ax_q (q_assign rfl) ?_
      | refine ax_ops_nil ?_
      | refine ax_post_code ?_
      | refine ax_seq ?_
      | refine ax_region rfl ?_
      | refine ax_exit ?_
      | refine ax_exit_here ?_
      | refine ax_exit_code ?_
      | refine ax_exit_inv ?_
      | refine ax_return ?_)
    refine ax_ret hR rfl ?_
    have := idxF_take p l l.length hany hk
    rw [List.drop_length] at this
    rw [this]; rfl

theorem containsE (l : List Int) (g : FuncId) (caps : List AV) (p : Int → Bool) (hc : noRef.noRefs caps = true) (hlen : l.length ≤ 9223372036854775807) (hp : ∀ x ∈ l, VCall Tryd.prog g ([.int .i64 x] ++ caps) (.bool (p x))) :
    VCall Tryd.prog 44 [.ro (.ints .i64 l) 0 l.length, .fn g caps] (.bool (l.any p)) := by
  refine ACall.value0 (acall_of_ax (P := Tryd.prog) (fn := Tryd.f44) rfl rfl (by kernel_rfl) rfl (fun c hR hfix => ?_)) (fix := fun _ => False) (fun _ h => h) (by simp [noRef.noRefs, noRef, hc]) rfl
  repeat (first
    | refine ax_q (q_move rfl) ?_
    | refine ax_q (q_assign rfl) ?_
    | refine ax_ops_nil ?_
    | refine ax_post_code ?_
    | refine ax_seq ?_
    | refine ax_region rfl ?_)
  refine ax_callv rfl rfl rfl (indexFuncE l g caps p hc hlen hp) ?_
  repeat (first
    | refine ax_q (q_assign rfl) ?_
    | refine ax_ops_nil ?_
    | refine ax_post_code ?_
    | refine ax_return ?_
    | refine ax_q (q_geq rfl rfl) ?_)
  refine ax_ret hR rfl ?_
  simp only [tupOf, idxF_any]

def notOk (e : Int) : Bool := decide (e ≠ 0)
theorem fine1 (n : Int) : VCall Tryd.prog 45 [.int .i64 n] (.bool (notOk n)) := by
  refine ACall.value0 (acall_of_ax (P := Tryd.prog) (fn := Tryd.f45) rfl rfl (by kernel_rfl) rfl (fun c hR hfix => ?_)) (fix := fun _ => False) (fun _ h => h) rfl rfl
  repeat (first
    | refine ax_q (q_move rfl) ?_
    | refine ax_q (q_assign rfl) ?_
    | refine ax_ops_nil ?_
    | refine ax_post_code ?_
    | refine ax_seq ?_
    | refine ax_region rfl ?_
    | refine ax_return ?_
    | refine ax_q (q_neq rfl rfl) ?_)
  refine ax_ret hR rfl ?_
  simp [tupOf, notOk]
theorem fineI (l : List Int) (hlen : l.length ≤ 1000) : VCall Tryd.prog 13 [.ro (.ints .i64 l) 0 l.length] (.bool (!(l.any notOk))) := by
  refine ACall.value0 (acall_of_ax (P := Tryd.prog) (fn := Tryd.f13) rfl rfl (by kernel_rfl) rfl (fun c hR hfix => ?_)) (fix := fun _ => False) (fun _ h => h) rfl rfl
  repeat (first
    | refine ax_q (q_move rfl) ?_
    | refine ax_q (q_assign rfl) ?_
    | refine ax_ops_nil ?_
    | refine ax_post_code ?_
    | refine ax_seq ?_
    | refine ax_region rfl ?_)
  refine ax_callv rfl rfl rfl (containsE l 45 [] notOk rfl (by omega) (fun x _ => fine1 x)) ?_
  repeat (first
    | refine ax_q (q_assign rfl) ?_
    | refine ax_ops_nil ?_
    | refine ax_post_code ?_
    | refine ax_return ?_
    | refine ax_q (q_not rfl) ?_)
  exact ax_ret hR rfl rfl

theorem clone (l : List Int) (hl : l.length ≤ 1000000) : FCall Tryd.prog 39 [.ro (.ints .i64 l) 0 l.length] (fun N => .sl N 0 l.length) ⟨3, .ints .i64 l⟩ := by
  refine ACall.fresh (K := fun r H => r = .sl 0 0 l.length ∧ H = [some ⟨3, .ints .i64 l⟩]) (acall_of_ax (P := Tryd.prog) (fn := Tryd.f39) rfl rfl (by kernel_rfl) rfl (fun c hR hfix => ?_)) (fix := fun _ => False) (fun _ h => h) rfl (fun H => ⟨rfl, by simp [inBs, inB]⟩) ?_
  · repeat (first
      | refine ax_q (q_move rfl) ?_
      | refine ax_q (q_assign rfl) ?_
      | refine ax_ops_nil ?_
      | refine ax_post_code ?_
      | refine ax_seq ?_
      | refine ax_region rfl ?_)
    refine ax_eqnil rfl rfl rfl (fun b hb => ?_)
    repeat (first
      | refine ax_ops_nil ?_
      | refine ax_post_code ?_)
    refine ax_cond rfl (fun h => ?_) (fun h => ?_)
    · have := hb h
      have hn : l = [] := List.length_eq_zero_iff.mp this
      subst hn
      repeat (first
        | refine ax_q (q_assign rfl) ?_
        | refine ax_ops_nil ?_
        | refine ax_post_code ?_
        | refine ax_seq ?_
        | refine ax_region rfl ?_)
      refine ax_nilobj 2 ⟨3, .ints .i64 []⟩ rfl rfl ?_
      repeat (first
        | refine ax_return ?_
        | refine ax_ret_code ?_)
      exact ax_ret hR rfl ⟨rfl, rfl⟩
    · repeat (first
        | refine ax_post_code ?_
        | refine ax_seq ?_
        | refine ax_region rfl ?_
        | refine ax_skip ?_)
      refine ax_buildSlice rfl rfl rfl rfl rfl rfl rfl rfl rfl rfl ?_
      refine ax_heap_ops [some ⟨3, .ints .i64 []⟩] (HSub.eqv ⟨rfl, rfl, fun i j hi => absurd hi (Nat.not_lt_zero _)⟩ HSub.nil) ?_
      repeat (refine ax_q (q_move rfl) ?_)
      refine ax_append rfl rfl rfl rfl rfl rfl rfl rfl rfl rfl rfl rfl (by show 0 + l.length ≤ l.length; omega) rfl (by show (0 + l.length) * 8 ≤ _ ∧ _; omega) (fun i j _ _ => rfl) (by rw [hfix]; exact fun h => h) ?_
      repeat (first
        | refine ax_q (q_assign rfl) ?_
        | refine ax_ops_nil ?_
        | refine ax_post_code ?_
        | refine ax_return ?_)
      refine ax_ret hR rfl ⟨?_, ?_⟩
      · show AV.sl 0 0 (0 + l.length) = _; rw [Nat.zero_add]
      · show ([some ⟨3, .ints .i64 ([] ++ List.take l.length (List.drop 0 l))⟩] : AHeap) = _
        simp
  · rintro r H ⟨rfl, rfl⟩
    refine ⟨?_, fun h o ho => refl1 refless_ints h o ho, 0, rfl, fun n => rfl⟩
    intro o ho; simp at ho; subst ho; show 0 + l.length ≤ l.length; omega
end Go.Proofs.YtmfhdfofmdggaaaDoor

namespace Go.Proofs.YtmfhdfofmdggaaaDoor
open Go.Ax Go.Ax.Idx Go.Ax.Cd
attribute [local irreducible] Ax Post QOp ACall
set_option maxRecDepth 100000
set_option maxHeartbeats 4000000

theorem refless_box {L : List AV} (h : noRef.noRefs L = true) : refless (.box L) := by
  intro i j _ hj
  exact noRefs_get h j hj

theorem check (l : List Int) (hlen : l.length ≤ 9223372036854775807) : VCall Tryd.prog 19 [.ro (.ints .i64 l) 0 l.length] (.int .i64 (deckF l)) := by
  refine ACall.value0 (acall_of_ax (P := Tryd.prog) (fn := Tryd.f19) rfl rfl (by kernel_rfl) rfl (fun c hR hfix => ?_)) (fix := fun _ => False) (fun _ h => h) rfl rfl
  repeat (first
    | refine ax_q (q_move rfl) ?_
    | refine ax_q (q_assign rfl) ?_
    | refine ax_ops_nil ?_
    | refine ax_post_code ?_
    | refine ax_seq ?_
    | refine ax_region rfl ?_
    | refine ax_q (q_gtr rfl rfl) ?_
    | refine ax_q (q_len rfl rfl rfl) ?_)
  refine ax_cond_dec rfl (fun h => ?_) (fun h => ?_)
  · repeat (first
      | refine ax_q (q_assign rfl) ?_
      | refine ax_ops_nil ?_
      | refine ax_post_code ?_
      | refine ax_seq ?_
      | refine ax_region rfl ?_
      | refine ax_return ?_
      | refine ax_ret_code ?_)
    refine ax_ret hR rfl ?_
    unfold deckF; rw [if_pos (by omega)]; rfl
  · repeat (first
      | refine ax_q (q_move rfl) ?_
      | refine ax_ops_nil ?_
      | refine ax_post_code ?_
      | refine ax_seq ?_
      | refine ax_region rfl ?_
      | refine ax_block ?_
      | refine ax_skip ?_
      | refine ax_q (q_len rfl rfl rfl) ?_)
    refine ax_loop (ι := Nat) (fun k => [(0, .ro (.ints .i64 l) 0 l.length), (8, .ro (.ints .i64 l) 0 l.length), (9, .int .i64 (l.length : Nat)), (10, .int .i64 (k : Nat))]) (fun _ => [])
      (fun k => k ≤ l.length ∧ ∀ j, j < k → (0 ≤ l.getD j 0 ∧ l.getD j 0 < 52) ∧ (l.take j).any (eqp (l.getD j 0)) = false) (fun k => l.length - k) 0 ⟨⟨rfl, rfl, rfl, rfl, trivial⟩, rfl, Nat.zero_le _, fun j hj => absurd hj (Nat.not_lt_zero _)⟩ ?_
    intro k ⟨hk, hall⟩
    have hgo := deckGo_take hk hall
    repeat (first
      | refine ax_ops_nil ?_
      | refine ax_post_code ?_
      | refine ax_seq ?_
      | refine ax_region rfl ?_
      | refine ax_q (q_lss rfl rfl) ?_)
    refine ax_cond_dec rfl (fun h1 => ?_) (fun h1 => ?_)
    · have hk' : k < l.length := by omega
      rw [drop_getD l 0 k hk', deckGo] at hgo
      repeat (first
        | refine ax_q (q_move rfl) ?_
        | refine ax_q (q_assign rfl) ?_
        | refine ax_q (q_loadi_rp rfl rfl rfl) ?_
        | refine ax_ops_nil ?_
        | refine ax_post_code ?_
        | refine ax_seq ?_
        | refine ax_region rfl ?_
        | refine ax_block ?_
        | refine ax_skip ?_
        | refine ax_q (q_lss rfl rfl) ?_
        | refine ax_q (q_index_ro' rfl rfl rfl rfl (by first | (simp only [Nat.zero_add, Int.toNat_natCast, Int.toNat_zero]; exact rfl) | exact rfl) (by omega)) ?_)
      refine ax_gsplit rfl rfl (fun h2 => ?_) (fun h2 => ?_)
      · repeat (first
          | refine ax_q (q_assign rfl) ?_
          | refine ax_ops_nil ?_
          | refine ax_post_code ?_
          | refine ax_seq ?_
          | refine ax_region rfl ?_
          | refine ax_guard_not rfl rfl rfl ?_
          | refine ax_cond_true rfl ?_
          | refine ax_return ?_
          | refine ax_ret_code ?_
          | refine ax_ret_blk ?_
          | refine ax_ret_inv ?_
          | refine ax_q (q_pick rfl rfl) ?_)
        refine ax_ret hR rfl ?_
        unfold deckF; rw [if_neg (by omega), hgo, if_pos (.inl h2)]; rfl
      · repeat (first
          | refine ax_q (q_move rfl) ?_
          | refine ax_ops_nil ?_
          | refine ax_post_code ?_
          | refine ax_guard rfl rfl ?_
          | refine ax_q (q_geq rfl rfl) ?_
          | refine ax_q (q_pick rfl rfl) ?_)
        refine ax_cond_dec rfl (fun h3 => ?_) (fun h3 => ?_)
        · repeat (first
            | refine ax_q (q_assign rfl) ?_
            | refine ax_ops_nil ?_
            | refine ax_post_code ?_
            | refine ax_seq ?_
            | refine ax_region rfl ?_
            | refine ax_return ?_
            | refine ax_ret_code ?_
            | refine ax_ret_blk ?_
            | refine ax_ret_inv ?_)
          refine ax_ret hR rfl ?_
          unfold deckF; rw [if_neg (by omega), hgo, if_pos (.inr h3)]; rfl
        · rw [if_neg (by omega)] at hgo
          repeat (first
            | refine ax_q (q_move rfl) ?_
            | refine ax_post_code ?_
            | refine ax_seq ?_
            | refine ax_region rfl ?_
            | refine ax_skip ?_
            | refine ax_q (q_slice_ro rfl rfl rfl rfl rfl rfl rfl (by omega)) ?_)
          have hc := containsV (l.take k) (l.getD k 0) (by simp; omega)
          rw [show (l.take k).length = k by simp; omega] at hc
          refine ax_slot_ops 23 _ rfl AEq.take ?_
          skip
          refine ax_callv rfl rfl rfl hc ?_
          repeat (first
            | refine ax_ops_nil ?_
            | refine ax_post_code ?_)
          refine ax_cond rfl (fun h4 => ?_) (fun h4 => ?_)
          · repeat (first
              | refine ax_q (q_assign rfl) ?_
              | refine ax_ops_nil ?_
              | refine ax_post_code ?_
              | refine ax_seq ?_
              | refine ax_region rfl ?_
              | refine ax_return ?_
              | refine ax_ret_code ?_
              | refine ax_ret_blk ?_
              | refine ax_ret_inv ?_)
            refine ax_ret hR rfl ?_
            unfold deckF; rw [if_neg (by omega), hgo, if_pos h4]; rfl
          · repeat (first
              | refine ax_q (q_move rfl) ?_
              | refine ax_ops_nil ?_
              | refine ax_post_code ?_
              | refine ax_region rfl ?_
              | refine ax_post_blk ?_
              | refine ax_skip ?_
              | refine ax_q (q_add rfl rfl (by omega)) ?_)
            refine ax_post_inv ⟨k + 1, ⟨by omega, fun j hj => ?_⟩, by omega, ⟨rfl, rfl, rfl, rfl, trivial⟩, rfl⟩
            by_cases hj' : j < k
            · exact hall j hj'
            · have : j = k := by omega
              subst this
              exact ⟨by omega, h4⟩
    · have hk' : k = l.length := by omega
      subst hk'
      rw [List.drop_length, deckGo] at hgo
      repeat (first
        | refine ax_q (q_assign rfl) ?_
        | refine ax_ops_nil ?_
        | refine ax_post_code ?_
        | refine ax_seq ?_
        | refine ax_region rfl ?_
        | refine ax_exit ?_
        | refine ax_exit_here ?_
        | refine ax_exit_code ?_
        | refine ax_exit_inv ?_
        | refine ax_return ?_)
      refine ax_ret hR rfl ?_
      unfold deckF; rw [if_neg (by omega), hgo]; rfl

theorem fits (n : Int) (l : List Int) (hn : 0 ≤ n ∧ n ≤ 1000) : VCall Tryd.prog 26 [.int .i64 n, .ro (.ints .i64 l) 0 l.length] (.int .i64 (fitsF n l)) := by
  refine ACall.value0 (acall_of_ax (P := Tryd.prog) (fn := Tryd.f26) rfl rfl (by kernel_rfl) rfl (fun c hR hfix => ?_)) (fix := fun _ => False) (fun _ h => h) rfl rfl
  have hm : (0 : Int) ≤ (if 1 > n then 1 else n) - 1 ∧ (if 1 > n then (1 : Int) else n) ≤ 1000 := by split <;> omega
  repeat (first
    | refine ax_q (q_move rfl) ?_
    | refine ax_q (q_assign rfl) ?_
    | refine ax_ops_nil ?_
    | refine ax_post_code ?_
    | refine ax_seq ?_
    | refine ax_region rfl ?_
    | refine ax_q (q_neq rfl rfl) ?_
    | refine ax_q (q_len rfl rfl rfl) ?_
    | refine ax_q (q_sub rfl rfl (by omega)) ?_
    | refine ax_q (q_max rfl rfl) ?_)
  refine ax_cond_dec rfl (fun h => ?_) (fun h => ?_)
  · repeat (first
      | refine ax_q (q_assign rfl) ?_
      | refine ax_ops_nil ?_
      | refine ax_post_code ?_
      | refine ax_seq ?_
      | refine ax_region rfl ?_
      | refine ax_return ?_
      | refine ax_ret_code ?_)
    refine ax_ret hR rfl ?_
    unfold fitsF; rw [if_pos h]; rfl
  · repeat (first
      | refine ax_q (q_move rfl) ?_
      | refine ax_ops_nil ?_
      | refine ax_post_code ?_
      | refine ax_seq ?_
      | refine ax_region rfl ?_
      | refine ax_block ?_
      | refine ax_skip ?_
      | refine ax_q (q_len rfl rfl rfl) ?_)
    refine ax_loop (ι := Nat) (fun k => [(0, .int .i64 n), (13, .ro (.ints .i64 l) 0 l.length), (14, .int .i64 (l.length : Nat)), (15, .int .i64 (k : Nat))]) (fun _ => [])
      (fun k => k ≤ l.length ∧ ∀ j, j < k → 0 ≤ l.getD j 0 ∧ l.getD j 0 ≤ n - 1 - j) (fun k => l.length - k) 0 ⟨⟨rfl, rfl, rfl, rfl, trivial⟩, rfl, Nat.zero_le _, fun j hj => absurd hj (Nat.not_lt_zero _)⟩ ?_
    intro k ⟨hk, hall⟩
    have hgo := fitsGo_take hk hall
    have hkn : (k : Int) ≤ 1000 := by omega
    repeat (first
      | refine ax_ops_nil ?_
      | refine ax_post_code ?_
      | refine ax_seq ?_
      | refine ax_region rfl ?_
      | refine ax_q (q_lss rfl rfl) ?_)
    refine ax_cond_dec rfl (fun h1 => ?_) (fun h1 => ?_)
    · have hk' : k < l.length := by omega
      rw [drop_getD l 0 k hk', fitsGo] at hgo
      repeat (first
        | refine ax_q (q_move rfl) ?_
        | refine ax_q (q_assign rfl) ?_
        | refine ax_q (q_loadi_rp rfl rfl rfl) ?_
        | refine ax_ops_nil ?_
        | refine ax_post_code ?_
        | refine ax_seq ?_
        | refine ax_region rfl ?_
        | refine ax_block ?_
        | refine ax_skip ?_
        | refine ax_q (q_lss rfl rfl) ?_
        | refine ax_q (q_index_ro' rfl rfl rfl rfl (by first | (simp only [Nat.zero_add, Int.toNat_natCast, Int.toNat_zero]; exact rfl) | exact rfl) (by omega)) ?_)
      refine ax_gsplit rfl rfl (fun h2 => ?_) (fun h2 => ?_)
      · repeat (first
          | refine ax_q (q_assign rfl) ?_
          | refine ax_ops_nil ?_
          | refine ax_post_code ?_
          | refine ax_seq ?_
          | refine ax_region rfl ?_
          | refine ax_guard_not rfl rfl rfl ?_
          | refine ax_cond_true rfl ?_
          | refine ax_return ?_
          | refine ax_ret_code ?_
          | refine ax_ret_blk ?_
          | refine ax_ret_inv ?_
          | refine ax_q (q_pick rfl rfl) ?_)
        refine ax_ret hR rfl ?_
        unfold fitsF; rw [if_neg h, hgo, if_pos (.inl h2)]; rfl
      · repeat (first
          | refine ax_q (q_move rfl) ?_
          | refine ax_ops_nil ?_
          | refine ax_post_code ?_
          | refine ax_guard rfl rfl ?_
          | refine ax_q (q_gtr rfl rfl) ?_
          | refine ax_q (q_pick rfl rfl) ?_
          | refine ax_q (q_sub rfl rfl (by omega)) ?_)
        refine ax_cond_dec rfl (fun h3 => ?_) (fun h3 => ?_)
        · repeat (first
            | refine ax_q (q_assign rfl) ?_
            | refine ax_ops_nil ?_
            | refine ax_post_code ?_
            | refine ax_seq ?_
            | refine ax_region rfl ?_
            | refine ax_return ?_
            | refine ax_ret_code ?_
            | refine ax_ret_blk ?_
            | refine ax_ret_inv ?_)
          refine ax_ret hR rfl ?_
          unfold fitsF; rw [if_neg h, hgo, if_pos (.inr h3)]; rfl
        · repeat (first
            | refine ax_q (q_move rfl) ?_
            | refine ax_ops_nil ?_
            | refine ax_post_code ?_
            | refine ax_region rfl ?_
            | refine ax_post_blk ?_
            | refine ax_skip ?_
            | refine ax_q (q_add rfl rfl (by omega)) ?_)
          refine ax_post_inv ⟨k + 1, ⟨by omega, fun j hj => ?_⟩, by omega, ⟨rfl, rfl, rfl, rfl, trivial⟩, rfl⟩
          by_cases hj' : j < k
          · exact hall j hj'
          · have : j = k := by omega
            subst this
            omega
    · have hk' : k = l.length := by omega
      subst hk'
      rw [List.drop_length, fitsGo] at hgo
      repeat (first
        | refine ax_q (q_assign rfl) ?_
        | refine ax_ops_nil ?_
        | refine ax_post_code ?_
        | refine ax_seq ?_
        | refine ax_region rfl ?_
        | refine ax_exit ?_
        | refine ax_exit_here ?_
        | refine ax_exit_code ?_
        | refine ax_exit_inv ?_
        | refine ax_return ?_)
      refine ax_ret hR rfl ?_
      unfold fitsF; rw [if_neg h, hgo]; rfl

theorem Fresh_ok (n : Nat) (hn : n ≤ 52) : VCall Tryd.prog 16 [.int .i64 n] (.tup [.ro (.ints .i64 (iota n)) 0 n, .int .i64 0]) := by
  refine ACall.value (K := fun r H => r = .tup [.sl 0 0 n, .int .i64 0] ∧ H = [some ⟨3, .ints .i64 (iota n)⟩]) (acall_of_ax (P := Tryd.prog) (fn := Tryd.f16) rfl rfl (by kernel_rfl) rfl (fun c hR hfix => ?_)) (fix := fun _ => False) (fun _ h => h) rfl ?_
  · repeat (first
      | refine ax_q (q_move rfl) ?_
      | refine ax_q (q_assign rfl) ?_
      | refine ax_ops_nil ?_
      | refine ax_post_code ?_
      | refine ax_seq ?_
      | refine ax_region rfl ?_
      | refine ax_guard rfl rfl ?_
      | refine ax_q (q_lss rfl rfl) ?_
      | refine ax_q (q_gtr rfl rfl) ?_
      | refine ax_q (q_pick rfl rfl) ?_)
    refine ax_cond_dec rfl (fun h => absurd h (by omega)) (fun h => ?_)
    repeat (first
      | refine ax_q (q_move rfl) ?_
      | refine ax_q (q_assign rfl) ?_
      | refine ax_ops_nil ?_
      | refine ax_post_code ?_
      | refine ax_seq ?_
      | refine ax_region rfl ?_
      | refine ax_skip ?_)
    refine ax_nilobj 4 ⟨3, .ints .i64 []⟩ rfl rfl ?_
    repeat (refine ax_block ?_)
    refine ax_loop (ι := Nat) (fun k => [(4, .sl 0 0 k), (12, .int .i64 (n : Nat)), (13, .int .i64 (k : Nat))]) (fun k => [some ⟨3, .ints .i64 (iota k)⟩])
      (fun k => k ≤ n) (fun k => n - k) 0 ⟨⟨rfl, rfl, rfl, trivial⟩, rfl, Nat.zero_le _⟩ ?_
    intro k hk
    repeat (first
      | refine ax_ops_nil ?_
      | refine ax_post_code ?_
      | refine ax_seq ?_
      | refine ax_region rfl ?_
      | refine ax_q (q_lss rfl rfl) ?_)
    refine ax_cond_dec rfl (fun h1 => ?_) (fun h1 => ?_)
    · have hk' : k < n := by omega
      have hil := iota_length k
      repeat (first
        | refine ax_q (q_move rfl) ?_
        | refine ax_q (q_assign rfl) ?_
        | refine ax_ops_nil ?_
        | refine ax_post_code ?_
        | refine ax_seq ?_
        | refine ax_region rfl ?_
        | refine ax_block ?_
        | refine ax_skip ?_
        | refine ax_buildSliceRo rfl rfl rfl rfl rfl rfl rfl rfl rfl rfl rfl ?_)
      refine ax_append rfl rfl rfl rfl rfl rfl rfl rfl rfl hil rfl rfl (by show 0 + 1 ≤ 1; omega) rfl (by show (k + 1) * 8 ≤ _ ∧ _; omega) (fun i j _ _ => rfl) (by rw [hfix]; exact fun h => h) ?_
      repeat (first
        | refine ax_q (q_move rfl) ?_
        | refine ax_q (q_assign rfl) ?_
        | refine ax_ops_nil ?_
        | refine ax_post_code ?_
        | refine ax_region rfl ?_
        | refine ax_post_blk ?_
        | refine ax_q (q_add rfl rfl (by omega)) ?_)
      exact ax_post_inv ⟨k + 1, by omega, by omega, ⟨rfl, rfl, rfl, trivial⟩, by rw [iota_succ]; rfl⟩
    · have hk' : k = n := by omega
      subst hk'
      repeat (first
        | refine ax_q (q_move rfl) ?_
        | refine ax_q (q_assign rfl) ?_
        | refine ax_ops_nil ?_
        | refine ax_post_code ?_
        | refine ax_seq ?_
        | refine ax_region rfl ?_
        | refine ax_exit ?_
        | refine ax_exit_here ?_
        | refine ax_exit_code ?_
        | refine ax_exit_inv ?_
        | refine ax_return ?_)
      exact ax_ret hR rfl ⟨rfl, rfl⟩
  · rintro r H ⟨rfl, rfl⟩
    refine ⟨rfl, ⟨?_, trivial, trivial⟩, fun h o ho => refl1 refless_ints h o ho⟩
    intro o ho; simp at ho; subst ho
    show 0 + n ≤ (iota n).length
    rw [iota_length]; omega

def shufE (l draws : List Int) : Int := if deckF l ≠ 0 then deckF l else fitsF l.length draws
theorem deckF_len {l : List Int} (h : deckF l = 0) : l.length ≤ 52 := by
  unfold deckF at h
  split at h <;> omega
theorem fitsF_ok {n : Int} {l : List Int} (hn : 0 ≤ n) (h : fitsF n l = 0) : (l.length : Int) = (if 1 > n then 1 else n) - 1 ∧ ∀ j, j < l.length → 0 ≤ l.getD j 0 ∧ l.getD j 0 ≤ n - 1 - j := by
  unfold fitsF at h
  by_cases h1 : (l.length : Int) ≠ (if 1 > n then 1 else n) - 1
  · rw [if_pos h1] at h; omega
  · rw [if_neg h1] at h
    refine ⟨by omega, fun j hj => ?_⟩
    have := fitsGo_zero 0 h j hj
    simpa using this
theorem Shuffle_no (l draws : List Int) (hl : l.length ≤ 9223372036854775807) {e : Int} (he : shufE l draws = e) (h : e ≠ 0) : VCall Tryd.prog 11 [.ro (.ints .i64 l) 0 l.length, .ro (.ints .i64 draws) 0 draws.length] (.tup [.nil, .int .i64 e]) := by
  refine ACall.value0 (acall_of_ax (P := Tryd.prog) (fn := Tryd.f11) rfl rfl (by kernel_rfl) rfl (fun c hR hfix => ?_)) (fix := fun _ => False) (fun _ h => h) rfl rfl
  unfold shufE at he
  repeat (first
    | refine ax_q (q_move rfl) ?_
    | refine ax_q (q_assign rfl) ?_
    | refine ax_ops_nil ?_
    | refine ax_post_code ?_
    | refine ax_seq ?_
    | refine ax_region rfl ?_)
  refine ax_callv rfl rfl rfl (check l hl) ?_
  repeat (first
    | refine ax_q (q_move rfl) ?_
    | refine ax_q (q_assign rfl) ?_
    | refine ax_ops_nil ?_
    | refine ax_post_code ?_
    | refine ax_seq ?_
    | refine ax_region rfl ?_
    | refine ax_q (q_neq rfl rfl) ?_)
  refine ax_cond_dec rfl (fun h2 => ?_) (fun h2 => ?_)
  · rw [if_pos h2] at he
    subst he
    repeat (first
      | refine ax_q (q_move rfl) ?_
      | refine ax_q (q_assign rfl) ?_
      | refine ax_ops_nil ?_
      | refine ax_post_code ?_
      | refine ax_seq ?_
      | refine ax_region rfl ?_
      | refine ax_return ?_
      | refine ax_ret_code ?_)
    exact ax_ret hR rfl rfl
  · rw [if_neg h2] at he
    subst he
    have hlen := deckF_len (l := l) (by omega)
    repeat (first
      | refine ax_q (q_move rfl) ?_
      | refine ax_post_code ?_
      | refine ax_seq ?_
      | refine ax_region rfl ?_
      | refine ax_skip ?_
      | refine ax_q (q_len rfl rfl rfl) ?_)
    refine ax_callv rfl rfl rfl (fits l.length draws ⟨by omega, by omega⟩) ?_
    repeat (first
      | refine ax_q (q_move rfl) ?_
      | refine ax_q (q_assign rfl) ?_
      | refine ax_ops_nil ?_
      | refine ax_post_code ?_
      | refine ax_seq ?_
      | refine ax_region rfl ?_
      | refine ax_q (q_neq rfl rfl) ?_)
    refine ax_cond_dec rfl (fun h3 => ?_) (fun h3 => absurd h h3)
    repeat (first
      | refine ax_q (q_move rfl) ?_
      | refine ax_q (q_assign rfl) ?_
      | refine ax_ops_nil ?_
      | refine ax_post_code ?_
      | refine ax_seq ?_
      | refine ax_region rfl ?_
      | refine ax_return ?_
      | refine ax_ret_code ?_)
    exact ax_ret hR rfl rfl
theorem Shuffle_ok (l draws : List Int) (hl : l.length ≤ 9223372036854775807) (h : shufE l draws = 0) : VCall Tryd.prog 11 [.ro (.ints .i64 l) 0 l.length, .ro (.ints .i64 draws) 0 draws.length] (.tup [.ro (.ints .i64 (shufF l draws)) 0 l.length, .int .i64 0]) := by
  unfold shufE at h
  have hd : deckF l = 0 := by
    by_cases hd : deckF l = 0
    · exact hd
    · rw [if_pos hd] at h; exact h
  rw [if_neg (by omega)] at h
  have hlen := deckF_len hd
  obtain ⟨hdl, hdr⟩ := fitsF_ok (by omega) h
  refine ACall.value (K := fun r H => r = .tup [.sl 0 0 l.length, .int .i64 0] ∧ H = [some ⟨3, .ints .i64 (shufF l draws)⟩]) (acall_of_ax (P := Tryd.prog) (fn := Tryd.f11) rfl rfl (by kernel_rfl) rfl (fun c hR hfix => ?_)) (fix := fun _ => False) (fun _ h => h) rfl ?_
  · repeat (first
      | refine ax_q (q_move rfl) ?_
      | refine ax_q (q_assign rfl) ?_
      | refine ax_ops_nil ?_
      | refine ax_post_code ?_
      | refine ax_seq ?_
      | refine ax_region rfl ?_)
    refine ax_callv rfl rfl rfl (check l hl) ?_
    rw [hd]
    repeat (first
      | refine ax_q (q_move rfl) ?_
      | refine ax_q (q_assign rfl) ?_
      | refine ax_ops_nil ?_
      | refine ax_post_code ?_
      | refine ax_seq ?_
      | refine ax_region rfl ?_
      | refine ax_cond_false rfl ?_
      | refine ax_skip ?_
      | refine ax_q (q_neq rfl rfl) ?_
      | refine ax_q (q_len rfl rfl rfl) ?_)
    refine ax_callv rfl rfl rfl (fits l.length draws ⟨by omega, by omega⟩) ?_
    rw [h]
    repeat (first
      | refine ax_q (q_move rfl) ?_
      | refine ax_q (q_assign rfl) ?_
      | refine ax_ops_nil ?_
      | refine ax_post_code ?_
      | refine ax_seq ?_
      | refine ax_region rfl ?_
      | refine ax_cond_false rfl ?_
      | refine ax_skip ?_
      | refine ax_q (q_neq rfl rfl) ?_)
    refine ax_callf rfl rfl rfl (clone l (by omega)) ?_
    repeat (first
      | refine ax_q (q_move rfl) ?_
      | refine ax_q (q_assign rfl) ?_
      | refine ax_ops_nil ?_
      | refine ax_post_code ?_
      | refine ax_seq ?_
      | refine ax_region rfl ?_
      | refine ax_block ?_
      | refine ax_q (q_len rfl rfl rfl) ?_)
    refine ax_loop (ι := Nat) (fun k => [(8, .sl 0 0 l.length), (26, .ro (.ints .i64 draws) 0 draws.length), (27, .int .i64 (draws.length : Nat)), (28, .int .i64 (k : Nat))]) (fun k => [some ⟨3, .ints .i64 (shufGo l 0 (draws.take k))⟩])
      (fun k => k ≤ draws.length) (fun k => draws.length - k) 0 ⟨⟨rfl, rfl, rfl, rfl, trivial⟩, rfl, Nat.zero_le _⟩ ?_
    intro k hk
    repeat (first
      | refine ax_ops_nil ?_
      | refine ax_post_code ?_
      | refine ax_seq ?_
      | refine ax_region rfl ?_
      | refine ax_q (q_lss rfl rfl) ?_)
    refine ax_cond_dec rfl (fun h1 => ?_) (fun h1 => ?_)
    · have hk' : k < draws.length := by omega
      have hdk := hdr k hk'
      have hgl := shufGo_length l 0 (draws.take k)
      have hstep : shufGo l 0 (draws.take (k + 1)) = swapF (shufGo l 0 (draws.take k)) (l.length - 1 - k) (draws.getD k 0).toNat := by
        rw [take_succ_getD draws 0 k hk', shufGo_append, shufGo, shufGo, hgl]
        simp; rw [Nat.min_eq_left (by omega)]
      have hkl : (k : Int) < l.length := by split at hdl <;> omega
      have hi0 : (((l.length : Int) - 1 - k).toNat) = l.length - 1 - k := by omega
      have hi1 : l.length - 1 - k < (shufGo l 0 (draws.take k)).length := by omega
      have hi2 : (draws.getD k 0).toNat < (shufGo l 0 (draws.take k)).length := by omega
      generalize shufGo l 0 (draws.take k) = cur at *
      have hl3 : (draws.getD k 0).toNat < (cur.set ((l.length : Int) - 1 - k).toNat (cur.getD (draws.getD k 0).toNat 0)).length := by simpa using hi2
      have hl4 : ((l.length : Int) - 1 - k).toNat < cur.length := by omega
      repeat (first
        | refine ax_q (q_move rfl) ?_
        | refine ax_q (q_assign rfl) ?_
        | refine ax_q (q_loadi_rp rfl rfl rfl) ?_
        | refine ax_ops_nil ?_
        | refine ax_post_code ?_
        | refine ax_seq ?_
        | refine ax_region rfl ?_
        | refine ax_block ?_
        | refine ax_skip ?_
        | refine ax_q (q_len rfl rfl rfl) ?_
        | refine ax_q (q_sub rfl rfl (by omega)) ?_
        | refine ax_q (q_index_ro' rfl rfl rfl rfl (by first | (simp only [Nat.zero_add, Int.toNat_natCast, Int.toNat_zero]; exact rfl) | exact rfl) (by omega)) ?_)
      refine ax_regiond (by kernel_rfl) ?_
      refine ax_any_q 0 rfl (by kernel_rfl) (by kernel_rfl) (by kernel_rfl) rfl (q_move rfl) rfl ?_
      refine ax_any_q 1 rfl (by kernel_rfl) (by kernel_rfl) (by kernel_rfl) rfl (q_move rfl) rfl ?_
      refine ax_any_q 2 rfl (by kernel_rfl) (by kernel_rfl) (by kernel_rfl) rfl (q_move rfl) rfl ?_
      refine ax_any_q 3 rfl (by kernel_rfl) (by kernel_rfl) (by kernel_rfl) rfl (q_move rfl) rfl ?_
      refine ax_any_q 4 rfl (by kernel_rfl) (by kernel_rfl) (by kernel_rfl) rfl (q_move rfl) rfl ?_
      refine ax_any_q 5 rfl (by kernel_rfl) (by kernel_rfl) (by kernel_rfl) rfl (q_move rfl) rfl ?_
      refine ax_any_q 8 rfl (by kernel_rfl) (by kernel_rfl) (by kernel_rfl) rfl (q_move rfl) rfl ?_
      refine ax_any_q 9 rfl (by kernel_rfl) (by kernel_rfl) (by kernel_rfl) rfl (q_move rfl) rfl ?_
      refine ax_any_q 6 rfl (by kernel_rfl) (by kernel_rfl) (by kernel_rfl) rfl (q_index_sl' rfl rfl rfl rfl rfl (by first | (simp only [Nat.zero_add, Int.toNat_natCast, Int.toNat_zero]; exact rfl) | exact rfl) (by omega)) rfl ?_
      refine ax_any_q 10 rfl (by kernel_rfl) (by kernel_rfl) (by kernel_rfl) rfl (q_index_sl' rfl rfl rfl rfl rfl (by first | (simp only [Nat.zero_add, Int.toNat_natCast, Int.toNat_zero]; exact rfl) | exact rfl) (by omega)) rfl ?_
      refine ax_any_step (is := [7, 11]) (by kernel_rfl) (by simp) rfl ⟨fun o ho => ?_, fun o ho => ?_, trivial⟩
      all_goals (cases ho)
      · repeat (first
          | refine ax_ops_nil ?_
          | refine ax_post_any ?_
          | refine ax_q (q_loadi_ptr rfl rfl rfl rfl (by first | assumption | omega)) ?_)
        refine ax_any_step (is := [11]) (by kernel_rfl) (by simp) rfl ⟨fun o ho => ?_, trivial⟩
        all_goals (cases ho)
        repeat (first
          | refine ax_ops_nil ?_
          | refine ax_post_any ?_
          | refine ax_q (q_loadi_ptr rfl rfl rfl rfl (by first | assumption | omega)) ?_)
        refine ax_any_q 12 rfl (by kernel_rfl) (by kernel_rfl) (by kernel_rfl) rfl (q_index_sl' rfl rfl rfl rfl rfl (by first | (simp only [Nat.zero_add, Int.toNat_natCast, Int.toNat_zero]; exact rfl) | exact rfl) (by omega)) rfl ?_
        refine ax_any_step (is := [13]) (by kernel_rfl) (by simp) rfl ⟨fun o ho => ?_, trivial⟩
        all_goals (cases ho)
        repeat (first
          | refine ax_ops_nil ?_
          | refine ax_post_any ?_
          | refine ax_store rfl rfl rfl rfl rfl rfl rfl (by first | assumption | (show _ < List.length _; first | assumption | omega)) ?_)
        refine ax_any_q 14 rfl (by kernel_rfl) (by kernel_rfl) (by kernel_rfl) rfl (q_index_sl' rfl rfl rfl rfl rfl (by first | (simp only [Nat.zero_add, Int.toNat_natCast, Int.toNat_zero]; exact rfl) | exact rfl) (by omega)) rfl ?_
        refine ax_any_step (is := [15]) (by kernel_rfl) (by simp) rfl ⟨fun o ho => ?_, trivial⟩
        all_goals (cases ho)
        repeat (first
          | refine ax_ops_nil ?_
          | refine ax_post_any ?_
          | refine ax_store rfl rfl rfl rfl rfl rfl rfl (by first | assumption | (show _ < List.length _; first | assumption | omega)) ?_)
        refine ax_any_done (by kernel_rfl) ?_
        repeat (first
          | refine ax_q (q_move rfl) ?_
          | refine ax_ops_nil ?_
          | refine ax_post_code ?_
          | refine ax_region rfl ?_
          | refine ax_post_blk ?_
          | refine ax_q (q_add rfl rfl (by omega)) ?_)
        exact ax_post_inv ⟨k + 1, by omega, by omega, ⟨rfl, rfl, rfl, rfl, trivial⟩, by rw [hstep, ← hi0]; rfl⟩
      · repeat (first
          | refine ax_ops_nil ?_
          | refine ax_post_any ?_
          | refine ax_q (q_loadi_ptr rfl rfl rfl rfl (by first | assumption | omega)) ?_)
        refine ax_any_step (is := [7]) (by kernel_rfl) (by simp) rfl ⟨fun o ho => ?_, trivial⟩
        all_goals (cases ho)
        repeat (first
          | refine ax_ops_nil ?_
          | refine ax_post_any ?_
          | refine ax_q (q_loadi_ptr rfl rfl rfl rfl (by first | assumption | omega)) ?_)
        refine ax_any_q 12 rfl (by kernel_rfl) (by kernel_rfl) (by kernel_rfl) rfl (q_index_sl' rfl rfl rfl rfl rfl (by first | (simp only [Nat.zero_add, Int.toNat_natCast, Int.toNat_zero]; exact rfl) | exact rfl) (by omega)) rfl ?_
        refine ax_any_step (is := [13]) (by kernel_rfl) (by simp) rfl ⟨fun o ho => ?_, trivial⟩
        all_goals (cases ho)
        repeat (first
          | refine ax_ops_nil ?_
          | refine ax_post_any ?_
          | refine ax_store rfl rfl rfl rfl rfl rfl rfl (by first | assumption | (show _ < List.length _; first | assumption | omega)) ?_)
        refine ax_any_q 14 rfl (by kernel_rfl) (by kernel_rfl) (by kernel_rfl) rfl (q_index_sl' rfl rfl rfl rfl rfl (by first | (simp only [Nat.zero_add, Int.toNat_natCast, Int.toNat_zero]; exact rfl) | exact rfl) (by omega)) rfl ?_
        refine ax_any_step (is := [15]) (by kernel_rfl) (by simp) rfl ⟨fun o ho => ?_, trivial⟩
        all_goals (cases ho)
        repeat (first
          | refine ax_ops_nil ?_
          | refine ax_post_any ?_
          | refine ax_store rfl rfl rfl rfl rfl rfl rfl (by first | assumption | (show _ < List.length _; first | assumption | omega)) ?_)
        refine ax_any_done (by kernel_rfl) ?_
        repeat (first
          | refine ax_q (q_move rfl) ?_
          | refine ax_ops_nil ?_
          | refine ax_post_code ?_
          | refine ax_region rfl ?_
          | refine ax_post_blk ?_
          | refine ax_q (q_add rfl rfl (by omega)) ?_)
        exact ax_post_inv ⟨k + 1, by omega, by omega, ⟨rfl, rfl, rfl, rfl, trivial⟩, by rw [hstep, ← hi0]; rfl⟩
    · have hk' : k = draws.length := by omega
      subst hk'
      simp only [List.take_length] at *
      repeat (first
        | refine ax_q (q_move rfl) ?_
        | refine ax_q (q_assign rfl) ?_
        | refine ax_ops_nil ?_
        | refine ax_post_code ?_
        | refine ax_seq ?_
        | refine ax_region rfl ?_
        | refine ax_exit ?_
        | refine ax_exit_here ?_
        | refine ax_exit_code ?_
        | refine ax_exit_inv ?_
        | refine ax_return ?_)
      exact ax_ret hR rfl ⟨rfl, rfl⟩
  · rintro r H ⟨rfl, rfl⟩
    refine ⟨rfl, ⟨?_, trivial, trivial⟩, fun h o ho => refl1 refless_ints h o ho⟩
    intro o ho; simp at ho; subst ho
    show 0 + l.length ≤ (shufGo l 0 draws).length
    rw [shufGo_length]; omega
end Go.Proofs.YtmfhdfofmdggaaaDoor

namespace Go.Proofs.YtmfhdfofmdggaaaDoor
open Go.Ax Go.Ax.Idx Go.Ax.Cd
attribute [local irreducible] Ax Post QOp ACall
set_option maxRecDepth 100000
set_option maxHeartbeats 4000000

theorem draws1 (l : List Int) (v : Int) (hlen : l.length ≤ 9223372036854775807) : VCall Tryd.prog 41 ([.int .i64 v] ++ [.rp (.box [.ro (.ints .i64 l) 0 l.length]) 0 0]) (.bool (!(l.any (eqp v)))) := by
  refine ACall.value0 (acall_of_ax (P := Tryd.prog) (fn := Tryd.f41) rfl rfl (by kernel_rfl) rfl (fun c hR hfix => ?_)) (fix := fun _ => False) (fun _ h => h) rfl rfl
  repeat (first
    | refine ax_q (q_move rfl) ?_
    | refine ax_q (q_assign rfl) ?_
    | refine ax_ops_nil ?_
    | refine ax_post_code ?_
    | refine ax_seq ?_
    | refine ax_region rfl ?_
    | refine ax_q (q_loadb_rp rfl rfl rfl rfl) ?_)
  refine ax_callv rfl rfl rfl (containsV l v hlen) ?_
  repeat (first
    | refine ax_q (q_assign rfl) ?_
    | refine ax_ops_nil ?_
    | refine ax_post_code ?_
    | refine ax_return ?_
    | refine ax_q (q_not rfl) ?_)
  exact ax_ret hR rfl rfl

def drawsErr (l to : List Int) : Int := if deckF l ≠ 0 then deckF l else if deckF to ≠ 0 then deckF to else drawsE l to

theorem Draws_no (l to : List Int) (hl : l.length ≤ 9223372036854775807) (hl2 : to.length ≤ 9223372036854775807) {e : Int} (he : drawsErr l to = e) (h : e ≠ 0) : VCall Tryd.prog 12 [.ro (.ints .i64 l) 0 l.length, .ro (.ints .i64 to) 0 to.length] (.tup [.nil, .int .i64 e]) := by
  refine ACall.value (K := fun r H => r = .tup [.nil, .int .i64 e] ∧ H = [some ⟨22, .box [.ro (.ints .i64 l) 0 l.length]⟩]) (acall_of_ax (P := Tryd.prog) (fn := Tryd.f12) rfl rfl (by kernel_rfl) rfl (fun c hR hfix => ?_)) (fix := fun _ => False) (fun _ h => h) rfl ?_
  · unfold drawsErr at he
    repeat (first
      | refine ax_q (q_assign rfl) ?_
      | refine ax_ops_nil ?_
      | refine ax_post_code ?_
      | refine ax_seq ?_
      | refine ax_region rfl ?_
      | refine ax_q (q_loadb_ptr rfl rfl rfl rfl rfl) ?_
      | refine ax_box rfl rfl ?_)
    refine ax_callv rfl rfl rfl (check l hl) ?_
    repeat (first
      | refine ax_q (q_move rfl) ?_
      | refine ax_q (q_assign rfl) ?_
      | refine ax_ops_nil ?_
      | refine ax_post_code ?_
      | refine ax_seq ?_
      | refine ax_region rfl ?_
      | refine ax_q (q_neq rfl rfl) ?_)
    refine ax_cond_dec rfl (fun h2 => ?_) (fun h2 => ?_)
    · rw [if_pos h2] at he
      subst he
      repeat (first
        | refine ax_q (q_move rfl) ?_
        | refine ax_q (q_assign rfl) ?_
        | refine ax_ops_nil ?_
        | refine ax_post_code ?_
        | refine ax_seq ?_
        | refine ax_region rfl ?_
        | refine ax_return ?_
        | refine ax_ret_code ?_)
      exact ax_ret hR rfl ⟨rfl, rfl⟩
    rw [if_neg h2] at he
    repeat (first
      | refine ax_q (q_move rfl) ?_
      | refine ax_post_code ?_
      | refine ax_seq ?_
      | refine ax_region rfl ?_
      | refine ax_skip ?_)
    refine ax_callv rfl rfl rfl (check to hl2) ?_
    repeat (first
      | refine ax_q (q_move rfl) ?_
      | refine ax_q (q_assign rfl) ?_
      | refine ax_ops_nil ?_
      | refine ax_post_code ?_
      | refine ax_seq ?_
      | refine ax_region rfl ?_
      | refine ax_q (q_neq rfl rfl) ?_)
    refine ax_cond_dec rfl (fun h3 => ?_) (fun h3 => ?_)
    · rw [if_pos h3] at he
      subst he
      repeat (first
        | refine ax_q (q_move rfl) ?_
        | refine ax_q (q_assign rfl) ?_
        | refine ax_ops_nil ?_
        | refine ax_post_code ?_
        | refine ax_seq ?_
        | refine ax_region rfl ?_
        | refine ax_return ?_
        | refine ax_ret_code ?_)
      exact ax_ret hR rfl ⟨rfl, rfl⟩
    rw [if_neg h3] at he
    unfold drawsE at he
    repeat (first
      | refine ax_q (q_move rfl) ?_
      | refine ax_post_code ?_
      | refine ax_seq ?_
      | refine ax_region rfl ?_
      | refine ax_skip ?_
      | refine ax_q (q_loadb_ptr rfl rfl rfl rfl rfl) ?_
      | refine ax_q (q_neq rfl rfl) ?_
      | refine ax_q (q_len rfl rfl rfl) ?_)
    refine ax_gsplit rfl rfl (fun h4 => ?_) (fun h4 => ?_)
    · rw [if_pos (by omega)] at he
      subst he
      repeat (first
        | refine ax_q (q_assign rfl) ?_
        | refine ax_ops_nil ?_
        | refine ax_post_code ?_
        | refine ax_seq ?_
        | refine ax_region rfl ?_
        | refine ax_guard_not rfl rfl rfl ?_
        | refine ax_cond_true rfl ?_
        | refine ax_return ?_
        | refine ax_ret_code ?_
        | refine ax_q (q_pick rfl rfl) ?_)
      exact ax_ret hR rfl ⟨rfl, rfl⟩
    rw [if_neg (by omega)] at he
    repeat (first
      | refine ax_q (q_move rfl) ?_
      | refine ax_guard rfl rfl ?_
      | refine ax_q (q_makefn rfl) ?_)
    refine ax_calll rfl rfl rfl rfl (containsI to 41 [.rp (.box [.ro (.ints .i64 l) 0 l.length]) 0 0] (fun v => !(l.any (eqp v))) rfl hl2 (fun x _ => draws1 l x hl)) (fun h o ho => refl1 (refless_box rfl) h o ho) (by simp [inBs, inB, Cells.len]) rfl rfl rfl ?_
    repeat (first
      | refine ax_ops_nil ?_
      | refine ax_post_code ?_
      | refine ax_q (q_pick rfl rfl) ?_)
    refine ax_cond rfl (fun h5 => ?_) (fun h5 => ?_)
    · rw [if_pos h5] at he
      subst he
      repeat (first
        | refine ax_q (q_assign rfl) ?_
        | refine ax_ops_nil ?_
        | refine ax_post_code ?_
        | refine ax_seq ?_
        | refine ax_region rfl ?_
        | refine ax_return ?_
        | refine ax_ret_code ?_)
      exact ax_ret hR rfl ⟨rfl, rfl⟩
    · rw [if_neg (by rw [h5]; decide)] at he
      exact absurd he.symm h
  · rintro r H ⟨rfl, rfl⟩
    exact ⟨rfl, ⟨trivial, trivial, trivial⟩, fun h o ho => refl1 (refless_box rfl) h o ho⟩

theorem Draws_ok (l to : List Int) (hl : l.length ≤ 9223372036854775807) (hl2 : to.length ≤ 9223372036854775807) (he : drawsErr l to = 0) : VCall Tryd.prog 12 [.ro (.ints .i64 l) 0 l.length, .ro (.ints .i64 to) 0 to.length] (.tup [.ro (.ints .i64 (drawsF l to)) 0 (drawsF l to).length, .int .i64 0]) := by
  unfold drawsErr at he
  have hd : deckF l = 0 := by
    by_cases hd : deckF l = 0
    · exact hd
    · rw [if_pos hd] at he; exact he
  rw [if_neg (by omega)] at he
  have hd2 : deckF to = 0 := by
    by_cases hd : deckF to = 0
    · exact hd
    · rw [if_pos hd] at he; exact he
  rw [if_neg (by omega)] at he
  unfold drawsE at he
  have hln : l.length = to.length := by
    by_cases hq : l.length = to.length
    · exact hq
    · rw [if_pos hq] at he; omega
  rw [if_neg (by omega)] at he
  have hany : to.any (fun c => !(l.any (eqp c))) = false := by
    cases hq : to.any (fun c => !(l.any (eqp c))) with
    | false => rfl
    | true => rw [if_pos hq] at he; omega
  have hmem : ∀ c ∈ to, c ∈ l := by
    intro c hc
    have := List.any_eq_false.1 hany c hc
    simp only [Bool.not_eq_true, Bool.not_eq_false] at this
    rw [← any_eqp]
    simpa using this
  have hlen := deckF_len hd
  refine ACall.value (K := fun r H => r = .tup [.sl 2 0 (drawsF l to).length, .int .i64 0] ∧ ∃ now, H = [some ⟨22, .box [.ro (.ints .i64 l) 0 l.length]⟩, some ⟨3, .ints .i64 now⟩, some ⟨3, .ints .i64 (drawsF l to)⟩]) (acall_of_ax (P := Tryd.prog) (fn := Tryd.f12) rfl rfl (by kernel_rfl) rfl (fun c hR hfix => ?_)) (fix := fun _ => False) (fun _ h => h) rfl ?_
  · repeat (first
      | refine ax_q (q_assign rfl) ?_
      | refine ax_ops_nil ?_
      | refine ax_post_code ?_
      | refine ax_seq ?_
      | refine ax_region rfl ?_
      | refine ax_q (q_loadb_ptr rfl rfl rfl rfl rfl) ?_
      | refine ax_box rfl rfl ?_)
    refine ax_callv rfl rfl rfl (check l hl) ?_
    rw [hd]
    repeat (first
      | refine ax_q (q_move rfl) ?_
      | refine ax_q (q_assign rfl) ?_
      | refine ax_ops_nil ?_
      | refine ax_post_code ?_
      | refine ax_seq ?_
      | refine ax_region rfl ?_
      | refine ax_cond_false rfl ?_
      | refine ax_skip ?_
      | refine ax_q (q_neq rfl rfl) ?_)
    refine ax_callv rfl rfl rfl (check to hl2) ?_
    rw [hd2]
    repeat (first
      | refine ax_q (q_move rfl) ?_
      | refine ax_q (q_assign rfl) ?_
      | refine ax_ops_nil ?_
      | refine ax_post_code ?_
      | refine ax_seq ?_
      | refine ax_region rfl ?_
      | refine ax_cond_false rfl ?_
      | refine ax_skip ?_
      | refine ax_q (q_loadb_ptr rfl rfl rfl rfl rfl) ?_
      | refine ax_q (q_neq rfl rfl) ?_
      | refine ax_q (q_len rfl rfl rfl) ?_)
    refine ax_gsplit rfl rfl (fun h4 => absurd h4 (by omega)) (fun h4 => ?_)
    repeat (first
      | refine ax_q (q_move rfl) ?_
      | refine ax_guard rfl rfl ?_
      | refine ax_q (q_makefn rfl) ?_)
    refine ax_calll rfl rfl rfl rfl (containsI to 41 [.rp (.box [.ro (.ints .i64 l) 0 l.length]) 0 0] (fun v => !(l.any (eqp v))) rfl hl2 (fun x _ => draws1 l x hl)) (fun h o ho => refl1 (refless_box rfl) h o ho) (by simp [inBs, inB, Cells.len]) rfl rfl rfl ?_
    rw [hany]
    repeat (first
      | refine ax_ops_nil ?_
      | refine ax_post_code ?_
      | refine ax_seq ?_
      | refine ax_region rfl ?_
      | refine ax_cond_false rfl ?_
      | refine ax_skip ?_
      | refine ax_q (q_loadb_ptr rfl rfl rfl rfl rfl) ?_
      | refine ax_q (q_pick rfl rfl) ?_)
    refine ax_callf rfl rfl rfl (clone l (by omega)) ?_
    repeat (first
      | refine ax_q (q_move rfl) ?_
      | refine ax_q (q_assign rfl) ?_
      | refine ax_ops_nil ?_
      | refine ax_post_code ?_
      | refine ax_seq ?_
      | refine ax_region rfl ?_
      | refine ax_q (q_len rfl rfl rfl) ?_
      | refine ax_q (q_sub rfl rfl (by omega)) ?_)
    refine ax_nilobj 9 ⟨3, .ints .i64 []⟩ rfl rfl ?_
    repeat (refine ax_block ?_)
    refine ax_loop (ι := Int × List Int × List Int) (fun x => [(1, .ro (.ints .i64 to) 0 to.length), (8, .sl 1 0 l.length), (9, .sl 2 0 x.2.2.length), (10, .int .i64 x.1)]) (fun x => [some ⟨22, .box [.ro (.ints .i64 l) 0 l.length]⟩, some ⟨3, .ints .i64 x.2.1⟩, some ⟨3, .ints .i64 x.2.2⟩])
      (fun x => -1 ≤ x.1 ∧ x.1 ≤ (l.length : Int) - 1 ∧ x.2.1.length = l.length ∧ (x.2.2.length : Int) + x.1 ≤ 52 ∧ (∀ c ∈ to, c ∈ x.2.1) ∧ drawsF l to = x.2.2 ++ drawsGo to x.1.toNat x.2.1) (fun x => x.1.toNat) ((l.length : Int) - 1, l, [])
      ⟨⟨rfl, rfl, rfl, rfl, trivial⟩, rfl, by simp only; omega, by simp only; omega, rfl, by simp only [List.length_nil]; omega, hmem, by simp only [List.nil_append]; unfold drawsF; congr 1; omega⟩ ?_
    rintro ⟨i, now, out⟩ ⟨hi1, hi2, hnl, hol, hmm, hgo⟩
    simp only at *
    repeat (first
      | refine ax_q (q_move rfl) ?_
      | refine ax_ops_nil ?_
      | refine ax_post_code ?_
      | refine ax_seq ?_
      | refine ax_region rfl ?_
      | refine ax_q (q_gtr rfl rfl) ?_)
    refine ax_cond_dec rfl (fun h1 => ?_) (fun h1 => ?_)
    · have hit : i.toNat < to.length := by omega
      obtain ⟨j, hj⟩ : ∃ j, i.toNat = j + 1 := ⟨i.toNat - 1, by omega⟩
      have hcm : to.getD i.toNat 0 ∈ now := hmm _ (getD_mem 0 hit)
      have hix := idxF_lt hcm
      rw [hj, drawsGo, ← hj] at hgo
      repeat (first
        | refine ax_q (q_move rfl) ?_
        | refine ax_q (q_loadi_rp rfl rfl rfl) ?_
        | refine ax_post_code ?_
        | refine ax_seq ?_
        | refine ax_region rfl ?_
        | refine ax_block ?_
        | refine ax_skip ?_
        | refine ax_q (q_index_ro' rfl rfl rfl rfl (by first | (simp only [Nat.zero_add, Int.toNat_natCast, Int.toNat_zero]; exact rfl) | exact rfl) (by omega)) ?_)
      have hidx := indexI now (to.getD i.toNat 0) (by omega)
      rw [hnl] at hidx
      refine ax_calll rfl rfl rfl rfl hidx (fun h o ho => refl3 (refless_box rfl) refless_ints refless_ints h o ho) (by simp [inBs, inB, Cells.len, hnl]) rfl rfl rfl ?_
      generalize idxF (eqp (to.getD i.toNat 0)) now = d at *
      have hl2' : d.toNat < now.length := by omega
      have hl3 : d.toNat < (now.set i.toNat (now.getD d.toNat 0)).length := by simpa using hl2'
      have hl4 : i.toNat < now.length := by omega
      repeat (first
        | refine ax_q (q_assign rfl) ?_
        | refine ax_ops_nil ?_
        | refine ax_post_code ?_
        | refine ax_seq ?_)
      refine ax_regiond (by kernel_rfl) ?_
      refine ax_any_q 0 rfl (by kernel_rfl) (by kernel_rfl) (by kernel_rfl) rfl (q_move rfl) rfl ?_
      refine ax_any_q 1 rfl (by kernel_rfl) (by kernel_rfl) (by kernel_rfl) rfl (q_move rfl) rfl ?_
      refine ax_any_q 2 rfl (by kernel_rfl) (by kernel_rfl) (by kernel_rfl) rfl (q_move rfl) rfl ?_
      refine ax_any_q 3 rfl (by kernel_rfl) (by kernel_rfl) (by kernel_rfl) rfl (q_move rfl) rfl ?_
      refine ax_any_q 4 rfl (by kernel_rfl) (by kernel_rfl) (by kernel_rfl) rfl (q_move rfl) rfl ?_
      refine ax_any_q 5 rfl (by kernel_rfl) (by kernel_rfl) (by kernel_rfl) rfl (q_move rfl) rfl ?_
      refine ax_any_q 8 rfl (by kernel_rfl) (by kernel_rfl) (by kernel_rfl) rfl (q_move rfl) rfl ?_
      refine ax_any_q 9 rfl (by kernel_rfl) (by kernel_rfl) (by kernel_rfl) rfl (q_move rfl) rfl ?_
      refine ax_any_q 6 rfl (by kernel_rfl) (by kernel_rfl) (by kernel_rfl) rfl (q_index_sl' rfl rfl rfl rfl rfl (by first | (simp only [Nat.zero_add, Int.toNat_natCast, Int.toNat_zero]; exact rfl) | exact rfl) (by omega)) rfl ?_
      refine ax_any_q 10 rfl (by kernel_rfl) (by kernel_rfl) (by kernel_rfl) rfl (q_index_sl' rfl rfl rfl rfl rfl (by first | (simp only [Nat.zero_add, Int.toNat_natCast, Int.toNat_zero]; exact rfl) | exact rfl) (by omega)) rfl ?_
      refine ax_any_step (is := [7, 11]) (by kernel_rfl) (by simp) rfl ⟨fun o ho => ?_, fun o ho => ?_, trivial⟩
      all_goals (cases ho)
      · repeat (first
          | refine ax_ops_nil ?_
          | refine ax_post_any ?_
          | refine ax_q (q_loadi_ptr rfl rfl rfl rfl (by first | assumption | omega)) ?_)
        refine ax_any_step (is := [11]) (by kernel_rfl) (by simp) rfl ⟨fun o ho => ?_, trivial⟩
        all_goals (cases ho)
        repeat (first
          | refine ax_ops_nil ?_
          | refine ax_post_any ?_
          | refine ax_q (q_loadi_ptr rfl rfl rfl rfl (by first | assumption | omega)) ?_)
        refine ax_any_q 12 rfl (by kernel_rfl) (by kernel_rfl) (by kernel_rfl) rfl (q_index_sl' rfl rfl rfl rfl rfl (by first | (simp only [Nat.zero_add, Int.toNat_natCast, Int.toNat_zero]; exact rfl) | exact rfl) (by omega)) rfl ?_
        refine ax_any_step (is := [13]) (by kernel_rfl) (by simp) rfl ⟨fun o ho => ?_, trivial⟩
        all_goals (cases ho)
        repeat (first
          | refine ax_ops_nil ?_
          | refine ax_post_any ?_
          | refine ax_store rfl rfl rfl rfl rfl rfl rfl (by first | assumption | (show _ < List.length _; first | assumption | omega)) ?_)
        refine ax_any_q 14 rfl (by kernel_rfl) (by kernel_rfl) (by kernel_rfl) rfl (q_index_sl' rfl rfl rfl rfl rfl (by first | (simp only [Nat.zero_add, Int.toNat_natCast, Int.toNat_zero]; exact rfl) | exact rfl) (by omega)) rfl ?_
        refine ax_any_step (is := [15]) (by kernel_rfl) (by simp) rfl ⟨fun o ho => ?_, trivial⟩
        all_goals (cases ho)
        repeat (first
          | refine ax_ops_nil ?_
          | refine ax_post_any ?_
          | refine ax_store rfl rfl rfl rfl rfl rfl rfl (by first | assumption | (show _ < List.length _; first | assumption | omega)) ?_)
        refine ax_any_done (by kernel_rfl) ?_
        repeat (first
          | refine ax_q (q_move rfl) ?_
          | refine ax_post_code ?_
          | refine ax_region rfl ?_
          | refine ax_buildSliceRo rfl rfl rfl rfl rfl rfl rfl rfl rfl rfl rfl ?_)
        refine ax_append rfl rfl rfl rfl rfl rfl rfl rfl rfl rfl rfl rfl (by show 0 + 1 ≤ 1; omega) rfl (by show (out.length + 1) * 8 ≤ _ ∧ _; omega) (fun i j _ _ => rfl) (by rw [hfix]; exact fun h => h) ?_
        repeat (first
          | refine ax_q (q_move rfl) ?_
          | refine ax_q (q_assign rfl) ?_
          | refine ax_ops_nil ?_
          | refine ax_post_code ?_
          | refine ax_region rfl ?_
          | refine ax_post_blk ?_
          | refine ax_q (q_sub rfl rfl (by omega)) ?_)
        exact ax_post_inv ⟨(i - 1, swapF now i.toNat d.toNat, out ++ [d]), ⟨by simp only; omega, by simp only; omega, by simp only [swapF_length]; omega, by simp only [List.length_append, List.length_cons, List.length_nil]; omega, fun c hc => (mem_swapF hl4 hl2' c).2 (hmm c hc), by simp only; rw [hgo, List.append_assoc, show (i - 1).toNat = j by omega]; rfl⟩, by simp only; omega, ⟨rfl, rfl, by simp only [List.length_append, List.length_cons, List.length_nil]; rfl, rfl, trivial⟩, rfl⟩
      · repeat (first
          | refine ax_ops_nil ?_
          | refine ax_post_any ?_
          | refine ax_q (q_loadi_ptr rfl rfl rfl rfl (by first | assumption | omega)) ?_)
        refine ax_any_step (is := [7]) (by kernel_rfl) (by simp) rfl ⟨fun o ho => ?_, trivial⟩
        all_goals (cases ho)
        repeat (first
          | refine ax_ops_nil ?_
          | refine ax_post_any ?_
          | refine ax_q (q_loadi_ptr rfl rfl rfl rfl (by first | assumption | omega)) ?_)
        refine ax_any_q 12 rfl (by kernel_rfl) (by kernel_rfl) (by kernel_rfl) rfl (q_index_sl' rfl rfl rfl rfl rfl (by first | (simp only [Nat.zero_add, Int.toNat_natCast, Int.toNat_zero]; exact rfl) | exact rfl) (by omega)) rfl ?_
        refine ax_any_step (is := [13]) (by kernel_rfl) (by simp) rfl ⟨fun o ho => ?_, trivial⟩
        all_goals (cases ho)
        repeat (first
          | refine ax_ops_nil ?_
          | refine ax_post_any ?_
          | refine ax_store rfl rfl rfl rfl rfl rfl rfl (by first | assumption | (show _ < List.length _; first | assumption | omega)) ?_)
        refine ax_any_q 14 rfl (by kernel_rfl) (by kernel_rfl) (by kernel_rfl) rfl (q_index_sl' rfl rfl rfl rfl rfl (by first | (simp only [Nat.zero_add, Int.toNat_natCast, Int.toNat_zero]; exact rfl) | exact rfl) (by omega)) rfl ?_
        refine ax_any_step (is := [15]) (by kernel_rfl) (by simp) rfl ⟨fun o ho => ?_, trivial⟩
        all_goals (cases ho)
        repeat (first
          | refine ax_ops_nil ?_
          | refine ax_post_any ?_
          | refine ax_store rfl rfl rfl rfl rfl rfl rfl (by first | assumption | (show _ < List.length _; first | assumption | omega)) ?_)
        refine ax_any_done (by kernel_rfl) ?_
        repeat (first
          | refine ax_q (q_move rfl) ?_
          | refine ax_post_code ?_
          | refine ax_region rfl ?_
          | refine ax_buildSliceRo rfl rfl rfl rfl rfl rfl rfl rfl rfl rfl rfl ?_)
        refine ax_append rfl rfl rfl rfl rfl rfl rfl rfl rfl rfl rfl rfl (by show 0 + 1 ≤ 1; omega) rfl (by show (out.length + 1) * 8 ≤ _ ∧ _; omega) (fun i j _ _ => rfl) (by rw [hfix]; exact fun h => h) ?_
        repeat (first
          | refine ax_q (q_move rfl) ?_
          | refine ax_q (q_assign rfl) ?_
          | refine ax_ops_nil ?_
          | refine ax_post_code ?_
          | refine ax_region rfl ?_
          | refine ax_post_blk ?_
          | refine ax_q (q_sub rfl rfl (by omega)) ?_)
        exact ax_post_inv ⟨(i - 1, swapF now i.toNat d.toNat, out ++ [d]), ⟨by simp only; omega, by simp only; omega, by simp only [swapF_length]; omega, by simp only [List.length_append, List.length_cons, List.length_nil]; omega, fun c hc => (mem_swapF hl4 hl2' c).2 (hmm c hc), by simp only; rw [hgo, List.append_assoc, show (i - 1).toNat = j by omega]; rfl⟩, by simp only; omega, ⟨rfl, rfl, by simp only [List.length_append, List.length_cons, List.length_nil]; rfl, rfl, trivial⟩, rfl⟩
    · have h0 : i.toNat = 0 := by omega
      rw [h0, drawsGo, List.append_nil] at hgo
      subst hgo
      repeat (first
        | refine ax_q (q_move rfl) ?_
        | refine ax_q (q_assign rfl) ?_
        | refine ax_ops_nil ?_
        | refine ax_post_code ?_
        | refine ax_seq ?_
        | refine ax_region rfl ?_
        | refine ax_exit ?_
        | refine ax_exit_here ?_
        | refine ax_exit_code ?_
        | refine ax_exit_inv ?_
        | refine ax_return ?_)
      exact ax_ret hR rfl ⟨rfl, now, rfl⟩
  · rintro r H ⟨rfl, now, rfl⟩
    refine ⟨rfl, ⟨?_, trivial, trivial⟩, fun h o ho => refl3 (refless_box rfl) refless_ints refless_ints h o ho⟩
    intro o ho; simp at ho; subst ho
    show 0 + (drawsF l to).length ≤ (drawsF l to).length
    omega
end Go.Proofs.YtmfhdfofmdggaaaDoor

namespace Go.Proofs.YtmfhdfofmdggaaaDoor
open Go.Ax Go.Ax.Idx Go.Ax.Cd
attribute [local irreducible] Ax Post QOp ACall
set_option maxRecDepth 100000
set_option maxHeartbeats 4000000

theorem grow (n : Int) (h0 : 0 ≤ n) (h1 : n ≤ 1000000) : FCall Tryd.prog 57 [.nil, .int .i64 n] (fun N => .sl N 0 0) ⟨3, .ints .i64 []⟩ := by
  refine ACall.fresh (K := fun r H => r = .sl 0 0 0 ∧ H = [some ⟨3, .ints .i64 []⟩]) (acall_of_ax (P := Tryd.prog) (fn := Tryd.f57) rfl rfl (by kernel_rfl) rfl (fun c hR hfix => ?_)) (fix := fun _ => False) (fun _ h => h) rfl (fun H => ⟨rfl, by simp [inBs, inB]⟩) ?_
  · repeat (first
      | refine ax_q (q_move rfl) ?_
      | refine ax_q (q_assign rfl) ?_
      | refine ax_ops_nil ?_
      | refine ax_post_code ?_
      | refine ax_seq ?_
      | refine ax_region rfl ?_
      | refine ax_q (q_lss rfl rfl) ?_)
    refine ax_cond_dec rfl (fun h => absurd h (by omega)) (fun h => ?_)
    repeat (first
      | refine ax_q (q_move rfl) ?_
      | refine ax_q (q_assign rfl) ?_
      | refine ax_ops_nil ?_
      | refine ax_post_code ?_
      | refine ax_seq ?_
      | refine ax_region rfl ?_
      | refine ax_skip ?_
      | refine ax_q (q_gtr rfl rfl) ?_
      | refine ax_q (q_len rfl rfl rfl) ?_
      | refine ax_q (q_sub rfl rfl (by omega)) ?_
      | refine ax_q (q_capnil rfl rfl) ?_)
    refine ax_cond_dec rfl (fun h => ?_) (fun h => ?_)
    rotate_left
    · repeat (first
        | refine ax_q (q_move rfl) ?_
        | refine ax_q (q_assign rfl) ?_
        | refine ax_ops_nil ?_
        | refine ax_post_code ?_
        | refine ax_seq ?_
        | refine ax_region rfl ?_
        | refine ax_skip ?_)
      refine ax_nilobj 4 ⟨3, .ints .i64 []⟩ rfl rfl ?_
      repeat (refine ax_return ?_)
      exact ax_ret hR rfl ⟨rfl, rfl⟩
    repeat (first
      | refine ax_q (q_move rfl) ?_
      | refine ax_region rfl ?_
      | refine ax_q (q_capnil rfl rfl) ?_
      | refine ax_q (q_slicenil rfl rfl rfl rfl rfl rfl rfl) ?_)
    refine ax_growz rfl rfl rfl rfl rfl rfl rfl rfl rfl (by show 0 < _ ∧ _ * 8 ≤ _ ∧ _; omega) ?_
    repeat (first
      | refine ax_q (q_move rfl) ?_
      | refine ax_q (q_len rfl rfl rfl) ?_)
    refine ax_q (q_slice_sl0 rfl rfl rfl rfl rfl rfl rfl rfl (by omega)) ?_
    refine ax_trunc_ops 0 (.ints .i64 []) rfl ⟨Nat.zero_le _, rfl, fun i j hi => absurd hi (Nat.not_lt_zero _)⟩ ?_
    repeat (first
      | refine ax_q (q_move rfl) ?_
      | refine ax_q (q_assign rfl) ?_
      | refine ax_ops_nil ?_
      | refine ax_post_code ?_
      | refine ax_seq ?_
      | refine ax_region rfl ?_
      | refine ax_return ?_)
    exact ax_ret hR rfl ⟨rfl, rfl⟩
  · rintro r H ⟨rfl, rfl⟩
    refine ⟨?_, fun h o ho => refl1 refless_ints h o ho, 0, rfl, fun n => rfl⟩
    intro o ho; simp at ho; subst ho; exact Nat.zero_le _

def lensum (ls : List (List Int)) : Int := (ls.map fun l => (l.length : Int)).sum
theorem lensum_take_succ (ls : List (List Int)) (k : Nat) (h : k < ls.length) : lensum (ls.take (k + 1)) = lensum (ls.take k) + ((ls.getD k []).length : Int) := by
  unfold lensum
  rw [take_succ_getD ls [] k h, List.map_append, List.sum_append]
  simp
theorem lensum_flatten (ls : List (List Int)) : lensum ls = (ls.flatten.length : Int) := by
  induction ls with
  | nil => rfl
  | cons l r ih => unfold lensum at ih ⊢; simp [ih]
theorem lensum_le (ls : List (List Int)) (k : Nat) : 0 ≤ lensum (ls.take k) ∧ lensum (ls.take k) ≤ lensum ls := by
  have h : ls.flatten = (ls.take k).flatten ++ (ls.drop k).flatten := by rw [← List.flatten_append, List.take_append_drop]
  rw [lensum_flatten, lensum_flatten, h, List.length_append]; omega
theorem flatten_take_succ (ls : List (List Int)) (k : Nat) (h : k < ls.length) : (ls.take (k + 1)).flatten = (ls.take k).flatten ++ ls.getD k [] := by
  rw [take_succ_getD ls [] k h, List.flatten_append]; simp

theorem concat (ls : List (List Int)) (hlen : ls.length ≤ 1000000) (hs : lensum ls ≤ 1000000) :
    FCall Tryd.prog 47 [.ro (rowsI ls) 0 ls.length] (fun N => .sl N 0 ls.flatten.length) ⟨3, .ints .i64 ls.flatten⟩ := by
  refine ACall.fresh (K := fun r H => r = .sl 0 0 ls.flatten.length ∧ H = [some ⟨3, .ints .i64 ls.flatten⟩]) (acall_of_ax (P := Tryd.prog) (fn := Tryd.f47) rfl rfl (by kernel_rfl) rfl (fun c hR hfix => ?_)) (fix := fun _ => False) (fun _ h => h) rfl (fun H => ⟨rfl, by simp [inBs, inB]⟩) ?_
  · repeat (first
      | refine ax_q (q_move rfl) ?_
      | refine ax_q (q_assign rfl) ?_
      | refine ax_ops_nil ?_
      | refine ax_post_code ?_
      | refine ax_seq ?_
      | refine ax_region rfl ?_
      | refine ax_block ?_
      | refine ax_q (q_len rfl rfl rfl) ?_)
    refine ax_loop (ι := Nat) (fun k => [(0, .ro (rowsI ls) 0 ls.length), (3, .int .i64 (lensum (ls.take k))), (9, .ro (rowsI ls) 0 ls.length), (10, .int .i64 (ls.length : Nat)), (11, .int .i64 (k : Nat))]) (fun _ => [])
      (fun k => k ≤ ls.length) (fun k => ls.length - k) 0 ⟨⟨rfl, rfl, rfl, rfl, rfl, trivial⟩, rfl, Nat.zero_le _⟩ ?_
    intro k hk
    repeat (first
      | refine ax_ops_nil ?_
      | refine ax_post_code ?_
      | refine ax_seq ?_
      | refine ax_region rfl ?_
      | refine ax_q (q_lss rfl rfl) ?_)
    refine ax_cond_dec rfl (fun h1 => ?_) (fun h1 => ?_)
    · have hk' : k < ls.length := by omega
      have hsum := lensum_take_succ ls k hk'
      have hb := lensum_le ls (k + 1)
      have hb0 := lensum_le ls k
      repeat (first
        | refine ax_q (q_move rfl) ?_
        | refine ax_q (q_assign rfl) ?_
        | refine ax_ops_nil ?_
        | refine ax_post_code ?_
        | refine ax_seq ?_
        | refine ax_region rfl ?_
        | refine ax_block ?_
        | refine ax_skip ?_
        | refine ax_q (q_loadf_rp rfl rfl rfl rfl) ?_
        | refine ax_q (q_lss rfl rfl) ?_
        | refine ax_q (q_len rfl rfl rfl) ?_
        | refine ax_q (q_add rfl rfl (by omega)) ?_
        | refine ax_q (q_index_ro' rfl rfl rfl rfl (by first | (simp only [Nat.zero_add, Int.toNat_natCast, Int.toNat_zero]; exact rfl) | exact rfl) (by omega)) ?_)
      refine ax_cond_dec rfl (fun h2 => absurd h2 (by omega)) (fun h2 => ?_)
      repeat (first
        | refine ax_q (q_move rfl) ?_
        | refine ax_ops_nil ?_
        | refine ax_post_code ?_
        | refine ax_region rfl ?_
        | refine ax_post_blk ?_
        | refine ax_skip ?_
        | refine ax_q (q_add rfl rfl (by omega)) ?_)
      exact ax_post_inv ⟨k + 1, by omega, by omega, ⟨rfl, by rw [hsum]; rfl, rfl, rfl, rfl, trivial⟩, rfl⟩
    · have hk' : k = ls.length := by omega
      subst hk'
      simp only [List.take_length] at *
      have hfl := lensum_flatten ls
      repeat (first
        | refine ax_q (q_move rfl) ?_
        | refine ax_post_code ?_
        | refine ax_seq ?_
        | refine ax_region rfl ?_
        | refine ax_exit ?_
        | refine ax_exit_here ?_
        | refine ax_exit_code ?_
        | refine ax_exit_inv ?_)
      refine ax_callf rfl rfl rfl (grow (lensum ls) (by omega) hs) ?_
      repeat (first
        | refine ax_q (q_move rfl) ?_
        | refine ax_q (q_assign rfl) ?_
        | refine ax_ops_nil ?_
        | refine ax_post_code ?_
        | refine ax_seq ?_
        | refine ax_region rfl ?_
        | refine ax_block ?_
        | refine ax_q (q_len rfl rfl rfl) ?_)
      refine ax_loop (ι := Nat) (fun k => [(6, .sl 0 0 (ls.take k).flatten.length), (25, .ro (rowsI ls) 0 ls.length), (26, .int .i64 (ls.length : Nat)), (27, .int .i64 (k : Nat))]) (fun k => [some ⟨3, .ints .i64 (ls.take k).flatten⟩])
        (fun k => k ≤ ls.length) (fun k => ls.length - k) 0 ⟨⟨rfl, rfl, rfl, rfl, trivial⟩, rfl, Nat.zero_le _⟩ ?_
      intro k hk
      repeat (first
        | refine ax_ops_nil ?_
        | refine ax_post_code ?_
        | refine ax_seq ?_
        | refine ax_region rfl ?_
        | refine ax_q (q_lss rfl rfl) ?_)
      refine ax_cond_dec rfl (fun h1 => ?_) (fun h1 => ?_)
      · have hk' : k < ls.length := by omega
        have hfs := flatten_take_succ ls k hk'
        have hb := lensum_le ls (k + 1)
        have hsl := lensum_take_succ ls k hk'
        have hb0 := lensum_le ls k
        have hfl0 := lensum_flatten (ls.take k)
        repeat (first
          | refine ax_q (q_move rfl) ?_
          | refine ax_q (q_assign rfl) ?_
          | refine ax_ops_nil ?_
          | refine ax_post_code ?_
          | refine ax_seq ?_
          | refine ax_region rfl ?_
          | refine ax_block ?_
          | refine ax_skip ?_
          | refine ax_q (q_loadf_rp rfl rfl rfl rfl) ?_
          | refine ax_q (q_index_ro' rfl rfl rfl rfl (by first | (simp only [Nat.zero_add, Int.toNat_natCast, Int.toNat_zero]; exact rfl) | exact rfl) (by omega)) ?_)
        refine ax_append rfl rfl rfl rfl rfl rfl rfl rfl rfl rfl rfl rfl (by show 0 + (ls.getD k []).length ≤ (ls.getD k []).length; omega) rfl (by show ((ls.take k).flatten.length + (ls.getD k []).length) * 8 ≤ _ ∧ _; omega) (fun i j _ _ => rfl) (by rw [hfix]; exact fun h => h) ?_
        repeat (first
          | refine ax_q (q_move rfl) ?_
          | refine ax_q (q_assign rfl) ?_
          | refine ax_ops_nil ?_
          | refine ax_post_code ?_
          | refine ax_region rfl ?_
          | refine ax_post_blk ?_
          | refine ax_q (q_add rfl rfl (by omega)) ?_)
        refine ax_post_inv ⟨k + 1, by omega, by omega, ⟨?_, rfl, rfl, rfl, trivial⟩, ?_⟩
        · show some (AV.sl 0 0 ((ls.take k).flatten.length + (ls.getD k []).length)) = _
          rw [hfs, List.length_append]
        · show ([some ⟨3, .ints .i64 ((ls.take k).flatten ++ List.take (ls.getD k []).length (List.drop 0 (ls.getD k [])))⟩] : AHeap) = _
          rw [hfs]; simp
      · have hk' : k = ls.length := by omega
        subst hk'
        simp only [List.take_length] at *
        repeat (first
          | refine ax_q (q_move rfl) ?_
          | refine ax_q (q_assign rfl) ?_
          | refine ax_ops_nil ?_
          | refine ax_post_code ?_
          | refine ax_seq ?_
          | refine ax_region rfl ?_
          | refine ax_exit ?_
          | refine ax_exit_here ?_
          | refine ax_exit_code ?_
          | refine ax_exit_inv ?_
          | refine ax_return ?_)
        exact ax_ret hR rfl ⟨rfl, rfl⟩
  · rintro r H ⟨rfl, rfl⟩
    refine ⟨?_, fun h o ho => refl1 refless_ints h o ho, 0, rfl, fun n => rfl⟩
    intro o ho; simp at ho; subst ho; show 0 + ls.flatten.length ≤ ls.flatten.length; omega

def cutE (l : List Int) (k : Int) : Int := if deckF l ≠ 0 then deckF l else if k < 0 ∨ (l.length : Int) < k then 4 else 0
def cutF (l : List Int) (k : Nat) : List Int := l.drop k ++ l.take k
theorem Cut_no (l : List Int) (k : Int) (hl : l.length ≤ 9223372036854775807) {e : Int} (he : cutE l k = e) (h : e ≠ 0) : VCall Tryd.prog 20 [.ro (.ints .i64 l) 0 l.length, .int .i64 k] (.tup [.nil, .int .i64 e]) := by
  refine ACall.value0 (acall_of_ax (P := Tryd.prog) (fn := Tryd.f20) rfl rfl (by kernel_rfl) rfl (fun c hR hfix => ?_)) (fix := fun _ => False) (fun _ h => h) rfl rfl
  unfold cutE at he
  repeat (first
    | refine ax_q (q_move rfl) ?_
    | refine ax_q (q_assign rfl) ?_
    | refine ax_ops_nil ?_
    | refine ax_post_code ?_
    | refine ax_seq ?_
    | refine ax_region rfl ?_)
  refine ax_callv rfl rfl rfl (check l hl) ?_
  repeat (first
    | refine ax_q (q_move rfl) ?_
    | refine ax_q (q_assign rfl) ?_
    | refine ax_ops_nil ?_
    | refine ax_post_code ?_
    | refine ax_seq ?_
    | refine ax_region rfl ?_
    | refine ax_q (q_neq rfl rfl) ?_)
  refine ax_cond_dec rfl (fun h2 => ?_) (fun h2 => ?_)
  · rw [if_pos h2] at he
    subst he
    repeat (first
      | refine ax_q (q_move rfl) ?_
      | refine ax_q (q_assign rfl) ?_
      | refine ax_ops_nil ?_
      | refine ax_post_code ?_
      | refine ax_seq ?_
      | refine ax_region rfl ?_
      | refine ax_return ?_
      | refine ax_ret_code ?_)
    exact ax_ret hR rfl rfl
  · rw [if_neg h2] at he
    repeat (first
      | refine ax_q (q_move rfl) ?_
      | refine ax_post_code ?_
      | refine ax_seq ?_
      | refine ax_region rfl ?_
      | refine ax_skip ?_
      | refine ax_q (q_lss rfl rfl) ?_)
    refine ax_gsplit rfl rfl (fun h3 => ?_) (fun h3 => ?_)
    · rw [if_pos (.inl h3)] at he
      subst he
      repeat (first
        | refine ax_q (q_assign rfl) ?_
        | refine ax_ops_nil ?_
        | refine ax_post_code ?_
        | refine ax_seq ?_
        | refine ax_region rfl ?_
        | refine ax_guard_not rfl rfl rfl ?_
        | refine ax_cond_true rfl ?_
        | refine ax_return ?_
        | refine ax_ret_code ?_
        | refine ax_q (q_pick rfl rfl) ?_)
      exact ax_ret hR rfl rfl
    · repeat (first
        | refine ax_q (q_move rfl) ?_
        | refine ax_ops_nil ?_
        | refine ax_post_code ?_
        | refine ax_guard rfl rfl ?_
        | refine ax_q (q_gtr rfl rfl) ?_
        | refine ax_q (q_pick rfl rfl) ?_
        | refine ax_q (q_len rfl rfl rfl) ?_)
      refine ax_cond_dec rfl (fun h4 => ?_) (fun h4 => ?_)
      · rw [if_pos (.inr h4)] at he
        subst he
        repeat (first
          | refine ax_q (q_assign rfl) ?_
          | refine ax_ops_nil ?_
          | refine ax_post_code ?_
          | refine ax_seq ?_
          | refine ax_region rfl ?_
          | refine ax_return ?_
          | refine ax_ret_code ?_)
        exact ax_ret hR rfl rfl
      · rw [if_neg (by omega)] at he
        exact absurd he.symm h
theorem Cut_ok (l : List Int) (k : Nat) (hl : l.length ≤ 9223372036854775807) (hd : deckF l = 0) (hk : k ≤ l.length) : VCall Tryd.prog 20 [.ro (.ints .i64 l) 0 l.length, .int .i64 k] (.tup [.ro (.ints .i64 (cutF l k)) 0 l.length, .int .i64 0]) := by
  have hlen := deckF_len hd
  have hcl : ([l.drop k, l.take k].flatten).length = l.length := by simp; omega
  refine ACall.value (K := fun r H => r = .tup [.sl 0 0 l.length, .int .i64 0] ∧ H = [some ⟨3, .ints .i64 (cutF l k)⟩]) (acall_of_ax (P := Tryd.prog) (fn := Tryd.f20) rfl rfl (by kernel_rfl) rfl (fun c hR hfix => ?_)) (fix := fun _ => False) (fun _ h => h) rfl ?_
  · repeat (first
      | refine ax_q (q_move rfl) ?_
      | refine ax_q (q_assign rfl) ?_
      | refine ax_ops_nil ?_
      | refine ax_post_code ?_
      | refine ax_seq ?_
      | refine ax_region rfl ?_)
    refine ax_callv rfl rfl rfl (check l hl) ?_
    rw [hd]
    repeat (first
      | refine ax_q (q_move rfl) ?_
      | refine ax_q (q_assign rfl) ?_
      | refine ax_ops_nil ?_
      | refine ax_post_code ?_
      | refine ax_seq ?_
      | refine ax_region rfl ?_
      | refine ax_guard rfl rfl ?_
      | refine ax_cond_false rfl ?_
      | refine ax_skip ?_
      | refine ax_q (q_lss rfl rfl) ?_
      | refine ax_q (q_neq rfl rfl) ?_
      | refine ax_q (q_gtr rfl rfl) ?_
      | refine ax_q (q_pick rfl rfl) ?_
      | refine ax_q (q_len rfl rfl rfl) ?_)
    refine ax_cond_dec rfl (fun h4 => absurd h4 (by omega)) (fun h4 => ?_)
    repeat (first
      | refine ax_post_code ?_
      | refine ax_seq ?_
      | refine ax_skip ?_)
    refine ax_regiond (by kernel_rfl) ?_
    refine ax_any_q 0 rfl (by kernel_rfl) (by kernel_rfl) (by kernel_rfl) rfl (q_move rfl) rfl ?_
    refine ax_any_q 1 rfl (by kernel_rfl) (by kernel_rfl) (by kernel_rfl) rfl (q_move rfl) rfl ?_
    refine ax_any_q 3 rfl (by kernel_rfl) (by kernel_rfl) (by kernel_rfl) rfl (q_move rfl) rfl ?_
    refine ax_any_q 4 rfl (by kernel_rfl) (by kernel_rfl) (by kernel_rfl) rfl (q_move rfl) rfl ?_
    refine ax_any_q 2 rfl (by kernel_rfl) (by kernel_rfl) (by kernel_rfl) rfl (q_slice_ro rfl rfl rfl rfl rfl rfl rfl (by omega)) rfl ?_
    refine ax_any_q 5 rfl (by kernel_rfl) (by kernel_rfl) (by kernel_rfl) rfl (q_slice_ro rfl rfl rfl rfl rfl rfl rfl (by omega)) rfl ?_
    refine ax_any_step (is := [6]) (by kernel_rfl) (by simp) rfl ⟨fun o ho => ?_, trivial⟩
    all_goals (cases ho)
    repeat (first
      | refine ax_ops_nil ?_
      | refine ax_post_any ?_
      | refine ax_buildSliceRo rfl rfl rfl rfl rfl rfl rfl rfl rfl rfl rfl ?_)
    refine ax_any_step (is := [7]) (by kernel_rfl) (by simp) rfl ⟨fun o ho => ?_, trivial⟩
    all_goals (cases ho)
    refine ax_slot_ops 26 (.ro (rowsI [l.drop k, l.take k]) 0 2) rfl (AEq.ro_in rfl (fun d j hd hj => ?_)) ?_
    · obtain rfl : j = 0 := by
        have : j < 1 := hj
        omega
      match d, hd with
      | 0, _ =>
        show AEq (.ro (.ints .i64 l) (0 + (k : Int).toNat) ((l.length : Int) - k).toNat) (.ro (.ints .i64 (l.drop k)) 0 (l.drop k).length)
        rw [show 0 + (k : Int).toNat = k by omega, show ((l.length : Int) - k).toNat = (l.drop k).length by rw [List.length_drop]; omega]
        exact AEq.drop
      | 1, _ =>
        show AEq (.ro (.ints .i64 l) 0 ((k : Int) - 0).toNat) (.ro (.ints .i64 (l.take k)) 0 (l.take k).length)
        rw [show ((k : Int) - 0).toNat = k by omega, show (l.take k).length = k by simp; omega]
        exact AEq.take
    have hsum : lensum [l.drop k, l.take k] ≤ 1000000 := by rw [lensum_flatten, hcl]; omega
    refine ax_callf rfl rfl rfl (concat [l.drop k, l.take k] (by simp) hsum) ?_
    repeat (first
      | refine ax_ops_nil ?_
      | refine ax_post_any ?_)
    refine ax_any_q 8 rfl (by kernel_rfl) (by kernel_rfl) (by kernel_rfl) rfl (q_assign rfl) rfl ?_
    refine ax_any_q 9 rfl (by kernel_rfl) (by kernel_rfl) (by kernel_rfl) rfl (q_assign rfl) rfl ?_
    refine ax_any_done (by kernel_rfl) ?_
    repeat (first
      | refine ax_post_code ?_
      | refine ax_return ?_)
    refine ax_ret hR rfl ⟨?_, ?_⟩
    · show AV.tup [.sl 0 0 ([l.drop k, l.take k].flatten).length, .int .i64 0] = _
      rw [hcl]
    · show ([some ⟨3, .ints .i64 ([l.drop k, l.take k].flatten)⟩] : AHeap) = _
      simp [cutF]
  · rintro r H ⟨rfl, rfl⟩
    refine ⟨rfl, ⟨?_, trivial, trivial⟩, fun h o ho => refl1 refless_ints h o ho⟩
    intro o ho; simp at ho; subst ho
    show 0 + l.length ≤ (cutF l k).length
    simp [cutF]; omega
end Go.Proofs.YtmfhdfofmdggaaaDoor

namespace Go.Proofs.YtmfhdfofmdggaaaDoor
open Go.Ax Go.Ax.Idx Go.Ax.Cd
attribute [local irreducible] Ax Post QOp ACall
set_option maxRecDepth 100000
set_option maxHeartbeats 4000000

/-- The memory that Deal writes. -/
def handsH (hs : List (List Int)) : AHeap := some ⟨22, .fn hs.length 1 (fun k _ => .sl (k + 1) 0 (hs.getD k []).length)⟩ :: hs.map (fun l => some ⟨3, .ints .i64 l⟩)
theorem handsH_get (hs : List (List Int)) (p : Nat) (hp : p < hs.length) : (handsH hs)[p + 1]? = some (some ⟨3, .ints .i64 (hs.getD p [])⟩) := by
  simp [handsH, List.getD, hp]
theorem handsH_len (hs : List (List Int)) : (handsH hs).length = hs.length + 1 := by simp [handsH]
theorem forgetH_ints (h : Nat) (ls : List (List Int)) : forgetH h (ls.map (fun l => some ⟨3, .ints .i64 l⟩)) = ls.map (fun l => some ⟨3, .ints .i64 l⟩) := by
  induction ls with
  | nil => rfl
  | cons l r ih => simp only [List.map_cons, forgetH, ih]; rfl

theorem handsH_step (hs : List (List Int)) (p : Nat) (c : Int) (hp : p < hs.length) :
    HSub (some ⟨22, .fn hs.length 1 (fun i' j' => bif Nat.beq i' p && Nat.beq j' 0 then AV.sl (p + 1) 0 ((hs.getD p []).length + 1) else (AV.sl (i' + 1) 0 (hs.getD i' []).length).forget (p + 1))⟩ :: (hs.map (fun l => some ⟨3, .ints .i64 l⟩)).set p (some ⟨3, .ints .i64 (hs.getD p [] ++ [c])⟩))
      (handsH (hs.set p (hs.getD p [] ++ [c]))) := by
  have e : (hs.map (fun l => (some ⟨3, .ints .i64 l⟩ : Option AObj))).set p (some ⟨3, .ints .i64 (hs.getD p [] ++ [c])⟩) = (hs.set p (hs.getD p [] ++ [c])).map (fun l => some ⟨3, .ints .i64 l⟩) := by rw [List.map_set]
  rw [e]
  refine HSub.eqv ⟨by simp [Cells.len], rfl, fun i j hi hj => ?_⟩ (HSub.refl _)
  simp only [Cells.len, Cells.sz] at hi hj
  obtain rfl : j = 0 := by omega
  simp only [Cells.at]
  by_cases h : i = p
  · subst h; simp [List.getD, hp]
  · have h2 : ¬ p = i := fun e => h e.symm
    have h3 : ¬ i + 1 = p + 1 := by omega
    simp only [beq_ne h, Bool.false_and, cond_false, AV.forget, beq_ne h3]
    simp [List.getD, List.getElem?_set_ne h2]
def dealE (l : List Int) (P each : Int) : Int := if deckF l ≠ 0 then deckF l else if (P < 1 ∨ 52 < P) ∨ each < 0 ∨ 52 < each then 4 else if (l.length : Int) < P * each then 8 else 0

theorem Deal_ok (l : List Int) (P each : Nat) (hl : l.length ≤ 9223372036854775807) (hd : deckF l = 0) (hP : 1 ≤ P ∧ P ≤ 52) (he : each ≤ 52) (hn : P * each ≤ l.length) :
    VCall Tryd.prog 21 [.ro (.ints .i64 l) 0 l.length, .int .i64 P, .int .i64 each]
      (.tup [.ro (rowsI (dealGo P l (P * each))) 0 P, .ro (.ints .i64 (l.drop (P * each))) 0 (l.length - P * each), .int .i64 0]) := by
  have hlen := deckF_len hd
  refine ACall.value (K := fun r H => r = .tup [.sl 0 0 P, .sl (P + 1) 0 (l.length - P * each), .int .i64 0] ∧ H = some ⟨22, rowsI (dealGo P l (P * each))⟩ :: (List.replicate P none ++ [some ⟨3, .ints .i64 (l.drop (P * each))⟩])) (acall_of_ax0 (P := Tryd.prog) (fn := Tryd.f21) rfl rfl (by kernel_rfl) rfl (fun c hR hfix hO => ?_)) (fix := fun _ => False) (fun _ h => h) rfl ?_
  · repeat (first
      | refine ax_q (q_move rfl) ?_
      | refine ax_q (q_assign rfl) ?_
      | refine ax_ops_nil ?_
      | refine ax_post_code ?_
      | refine ax_seq ?_
      | refine ax_region rfl ?_)
    refine ax_callv rfl rfl rfl (check l hl) ?_
    rw [hd]
    repeat (first
      | refine ax_q (q_move rfl) ?_
      | refine ax_q (q_assign rfl) ?_
      | refine ax_ops_nil ?_
      | refine ax_post_code ?_
      | refine ax_seq ?_
      | refine ax_region rfl ?_
      | refine ax_cond_false rfl ?_
      | refine ax_skip ?_
      | refine ax_q (q_lss rfl rfl) ?_
      | refine ax_q (q_neq rfl rfl) ?_)
    have hpe : (P : Int) * each = ((P * each : Nat) : Int) := by simp
    refine ax_gsplit rfl rfl (fun h => absurd h (by omega)) (fun h => ?_)
    repeat (first
      | refine ax_q (q_move rfl) ?_
      | refine ax_guard rfl rfl ?_
      | refine ax_q (q_gtr rfl rfl) ?_
      | refine ax_q (q_pick rfl rfl) ?_)
    refine ax_gsplit rfl rfl (fun h => absurd h (by omega)) (fun h => ?_)
    repeat (first
      | refine ax_q (q_move rfl) ?_
      | refine ax_ops_nil ?_
      | refine ax_post_code ?_
      | refine ax_guard rfl rfl ?_
      | refine ax_q (q_lss rfl rfl) ?_
      | refine ax_q (q_gtr rfl rfl) ?_
      | refine ax_q (q_pick rfl rfl) ?_)
    refine ax_cond_dec rfl (fun h => absurd h (by omega)) (fun h => ?_)
    repeat (first
      | refine ax_q (q_move rfl) ?_
      | refine ax_post_code ?_
      | refine ax_seq ?_
      | refine ax_region rfl ?_
      | refine ax_skip ?_)
    refine ax_q (q_mul rfl rfl (by rw [hpe]; omega)) ?_
    repeat (first
      | refine ax_q (q_move rfl) ?_
      | refine ax_q (q_assign rfl) ?_
      | refine ax_ops_nil ?_
      | refine ax_post_code ?_
      | refine ax_seq ?_
      | refine ax_region rfl ?_
      | refine ax_q (q_gtr rfl rfl) ?_
      | refine ax_q (q_len rfl rfl rfl) ?_)
    refine ax_slot 10 (.int .i64 ((P * each : Nat) : Int)) rfl (AEq.of_eq (by rw [hpe])) ?_
    skip
    refine ax_cond_dec rfl (fun h => absurd h (by omega)) (fun h => ?_)
    repeat (first
      | refine ax_q (q_move rfl) ?_
      | refine ax_post_code ?_
      | refine ax_seq ?_
      | refine ax_region rfl ?_
      | refine ax_skip ?_)
    refine ax_make rfl rfl rfl rfl rfl rfl rfl rfl (by show 0 ≤ _ ∧ _ ≤ _ ∧ (24 : Int) * _ ≤ _ ∧ _; omega) ?_
    repeat (first
      | refine ax_q (q_assign rfl) ?_
      | refine ax_ops_nil ?_
      | refine ax_post_code ?_)
    refine ax_nilrow 0 P ⟨3, .ints .i64 []⟩ rfl (fun k _ => rfl) rfl ?_
    refine ax_heap_eq (handsH (List.replicate P [])) ?_ ?_
    · simp [handsH]
      funext k j
      have : ((List.replicate P ([] : List Int))[k]?.getD []) = [] := by rw [List.getElem?_replicate]; split <;> rfl
      rw [this, Nat.add_comm]; rfl
    repeat (first
      | refine ax_q (q_move rfl) ?_
      | refine ax_ops_nil ?_
      | refine ax_post_code ?_
      | refine ax_seq ?_
      | refine ax_region rfl ?_
      | refine ax_block ?_
      | refine ax_q (q_len rfl rfl rfl) ?_
      | refine ax_q (q_slice_ro rfl rfl rfl rfl rfl rfl rfl (by omega)) ?_)
    refine ax_loop (ι := Nat) (fun m => [(0, .ro (.ints .i64 l) 0 l.length), (1, .int .i64 P), (10, .int .i64 ((P * each : Nat) : Int)), (11, .sl 0 0 P), (44, .ro (.ints .i64 l) 0 (P * each)), (45, .int .i64 ((P * each : Nat) : Int)), (46, .int .i64 (m : Nat))]) (fun m => handsH (dealGo P l m))
      (fun m => m ≤ P * each) (fun m => P * each - m) 0 ⟨⟨rfl, rfl, rfl, rfl, rfl, rfl, rfl, trivial⟩, rfl, Nat.zero_le _⟩ ?_
    intro m hm
    have hpl0 := dealGo_length P l m
    have hsm := dealGo_small P l m (m % P)
    repeat (first
      | refine ax_ops_nil ?_
      | refine ax_post_code ?_
      | refine ax_seq ?_
      | refine ax_region rfl ?_
      | refine ax_q (q_lss rfl rfl) ?_)
    refine ax_cond_dec rfl (fun h1 => ?_) (fun h1 => ?_)
    · have hm' : m < P * each := by omega
      have hpl : m % P < (dealGo P l m).length := by rw [hpl0]; exact Nat.mod_lt _ (by omega)
      have hstep : dealGo P l (m + 1) = (dealGo P l m).set (m % P) ((dealGo P l m).getD (m % P) [] ++ [l.getD m 0]) := rfl
      have hmod : (m : Int) % (P : Int) = ((m % P : Nat) : Int) := by simp
      generalize dealGo P l m = hs at *
      generalize hpe : m % P = p at *
      have hpP : p < P := by omega
      repeat (first
        | refine ax_q (q_move rfl) ?_
        | refine ax_q (q_assign rfl) ?_
        | refine ax_q (q_loadi_rp rfl rfl rfl) ?_
        | refine ax_ops_nil ?_
        | refine ax_post_code ?_
        | refine ax_seq ?_
        | refine ax_region rfl ?_
        | refine ax_block ?_
        | refine ax_skip ?_
        | refine ax_q (q_index_ro' rfl rfl rfl rfl (by first | (simp only [Nat.zero_add, Int.toNat_natCast, Int.toNat_zero]; exact rfl) | exact rfl) (by omega)) ?_)
      refine ax_regiond (by kernel_rfl) ?_
      refine ax_any_q 0 rfl (by kernel_rfl) (by kernel_rfl) (by kernel_rfl) rfl (q_move rfl) rfl ?_
      refine ax_any_q 1 rfl (by kernel_rfl) (by kernel_rfl) (by kernel_rfl) rfl (q_move rfl) rfl ?_
      refine ax_any_q 2 rfl (by kernel_rfl) (by kernel_rfl) (by kernel_rfl) rfl (q_move rfl) rfl ?_
      refine ax_any_q 3 rfl (by kernel_rfl) (by kernel_rfl) (by kernel_rfl) rfl (q_rem rfl rfl (by omega)) rfl ?_
      refine ax_slot_any 54 (.int .i64 p) rfl (AEq.of_eq (by rw [hmod])) ?_
      refine ax_any_q 4 rfl (by kernel_rfl) (by kernel_rfl) (by kernel_rfl) rfl (q_move rfl) rfl ?_
      refine ax_any_q 5 rfl (by kernel_rfl) (by kernel_rfl) (by kernel_rfl) rfl (q_move rfl) rfl ?_
      refine ax_any_q 6 rfl (by kernel_rfl) (by kernel_rfl) (by kernel_rfl) rfl (q_move rfl) rfl ?_
      refine ax_any_q 7 rfl (by kernel_rfl) (by kernel_rfl) (by kernel_rfl) rfl (q_rem rfl rfl (by omega)) rfl ?_
      refine ax_slot_any 58 (.int .i64 p) rfl (AEq.of_eq (by rw [hmod])) ?_
      refine ax_any_q 8 rfl (by kernel_rfl) (by kernel_rfl) (by kernel_rfl) rfl (q_index_sl' rfl rfl rfl rfl rfl (by first | (simp only [Nat.zero_add, Int.toNat_natCast, Int.toNat_zero]; exact rfl) | exact rfl) (by omega)) rfl ?_
      refine ax_any_q 10 rfl (by kernel_rfl) (by kernel_rfl) (by kernel_rfl) rfl (q_move rfl) rfl ?_
      refine ax_any_step (is := [9, 11]) (by kernel_rfl) (by simp) rfl ⟨fun o ho => ?_, fun o ho => ?_, trivial⟩
      all_goals (cases ho)
      · repeat (first
          | refine ax_ops_nil ?_
          | refine ax_post_any ?_
          | refine ax_q (q_loadf_ptr rfl rfl rfl rfl rfl (by first | assumption | omega)) ?_)
        refine ax_any_step (is := [11]) (by kernel_rfl) (by simp) rfl ⟨fun o ho => ?_, trivial⟩
        all_goals (cases ho)
        repeat (first
          | refine ax_ops_nil ?_
          | refine ax_post_any ?_
          | refine ax_buildSliceRo rfl rfl rfl rfl rfl rfl rfl rfl rfl rfl rfl ?_)
        refine ax_any_step (is := [12]) (by kernel_rfl) (by simp) rfl ⟨fun o ho => ?_, trivial⟩
        all_goals (cases ho)
        refine ax_append rfl rfl rfl rfl rfl rfl rfl (handsH_get hs p hpl) rfl rfl rfl rfl (by show 0 + 1 ≤ 1; omega) rfl (by show ((hs.getD p []).length + 1) * 8 ≤ _ ∧ _; omega) (fun i j _ _ => rfl) (by rw [hfix]; exact fun h => h) ?_
        repeat (first
          | refine ax_ops_nil ?_
          | refine ax_post_any ?_)
        refine ax_any_q 13 rfl (by kernel_rfl) (by kernel_rfl) (by kernel_rfl) rfl (q_index_sl' rfl rfl rfl rfl rfl (by first | (simp only [Nat.zero_add, Int.toNat_natCast, Int.toNat_zero]; exact rfl) | exact rfl) (by omega)) rfl ?_
        refine ax_any_step (is := [14]) (by kernel_rfl) (by simp) rfl ⟨fun o ho => ?_, trivial⟩
        all_goals (cases ho)
        refine ax_store rfl rfl rfl rfl rfl rfl rfl (by show p < hs.length; exact hpl) ?_
        repeat (first
          | refine ax_ops_nil ?_
          | refine ax_post_any ?_)
        refine ax_heap_any (handsH (hs.set p (hs.getD p [] ++ [l.getD m 0]))) ?_ ?_
        · have := handsH_step hs p (l.getD m 0) hpl
          rw [← forgetH_ints (p + 1) hs] at this
          exact this
        refine ax_any_done (by kernel_rfl) ?_
        repeat (first
          | refine ax_q (q_move rfl) ?_
          | refine ax_ops_nil ?_
          | refine ax_post_code ?_
          | refine ax_region rfl ?_
          | refine ax_post_blk ?_
          | refine ax_q (q_add rfl rfl (by omega)) ?_)
        exact ax_post_inv ⟨m + 1, by omega, by omega, ⟨rfl, rfl, rfl, rfl, rfl, rfl, rfl, trivial⟩, by rw [hstep]⟩
      · repeat (first
          | refine ax_ops_nil ?_
          | refine ax_post_any ?_
          | refine ax_buildSliceRo rfl rfl rfl rfl rfl rfl rfl rfl rfl rfl rfl ?_)
        refine ax_any_step (is := [9]) (by kernel_rfl) (by simp) rfl ⟨fun o ho => ?_, trivial⟩
        all_goals (cases ho)
        repeat (first
          | refine ax_ops_nil ?_
          | refine ax_post_any ?_
          | refine ax_q (q_loadf_ptr rfl rfl rfl rfl rfl (by first | assumption | omega)) ?_)
        refine ax_any_step (is := [12]) (by kernel_rfl) (by simp) rfl ⟨fun o ho => ?_, trivial⟩
        all_goals (cases ho)
        refine ax_append rfl rfl rfl rfl rfl rfl rfl (handsH_get hs p hpl) rfl rfl rfl rfl (by show 0 + 1 ≤ 1; omega) rfl (by show ((hs.getD p []).length + 1) * 8 ≤ _ ∧ _; omega) (fun i j _ _ => rfl) (by rw [hfix]; exact fun h => h) ?_
        repeat (first
          | refine ax_ops_nil ?_
          | refine ax_post_any ?_)
        refine ax_any_q 13 rfl (by kernel_rfl) (by kernel_rfl) (by kernel_rfl) rfl (q_index_sl' rfl rfl rfl rfl rfl (by first | (simp only [Nat.zero_add, Int.toNat_natCast, Int.toNat_zero]; exact rfl) | exact rfl) (by omega)) rfl ?_
        refine ax_any_step (is := [14]) (by kernel_rfl) (by simp) rfl ⟨fun o ho => ?_, trivial⟩
        all_goals (cases ho)
        refine ax_store rfl rfl rfl rfl rfl rfl rfl (by show p < hs.length; exact hpl) ?_
        repeat (first
          | refine ax_ops_nil ?_
          | refine ax_post_any ?_)
        refine ax_heap_any (handsH (hs.set p (hs.getD p [] ++ [l.getD m 0]))) ?_ ?_
        · have := handsH_step hs p (l.getD m 0) hpl
          rw [← forgetH_ints (p + 1) hs] at this
          exact this
        refine ax_any_done (by kernel_rfl) ?_
        repeat (first
          | refine ax_q (q_move rfl) ?_
          | refine ax_ops_nil ?_
          | refine ax_post_code ?_
          | refine ax_region rfl ?_
          | refine ax_post_blk ?_
          | refine ax_q (q_add rfl rfl (by omega)) ?_)
        exact ax_post_inv ⟨m + 1, by omega, by omega, ⟨rfl, rfl, rfl, rfl, rfl, rfl, rfl, trivial⟩, by rw [hstep]⟩
    · have hm' : m = P * each := by omega
      subst hm'
      have hdl : (l.drop (P * each)).length = l.length - P * each := by simp
      generalize hhs : dealGo P l (P * each) = hs at *
      have hhl : hs.length = P := hpl0
      refine ax_freeze (none :: hs.map (fun l => some ⟨3, .ints .i64 l⟩)) (some ⟨22, rowsI hs⟩ :: List.replicate P none) [(0, .ro (.ints .i64 l) 0 l.length), (10, .int .i64 ((P * each : Nat) : Int)), (11, .sl 0 0 P)] ?_ ?_ ?_ ?_ ⟨⟨_, rfl, .inl rfl⟩, ⟨_, rfl, .inl rfl⟩, ⟨_, rfl, .inl rfl⟩, trivial⟩ ?_
      · intro h o ho
        cases h with
        | zero => simp at ho
        | succ h => exact ho
      · intro h o ho
        cases h with
        | zero => simp at ho
        | succ h =>
          simp only [List.getElem?_cons_succ, List.getElem?_map, Option.map_eq_some_iff] at ho
          obtain ⟨x, _, h2⟩ := ho
          cases h2
          exact refless_ints
      · simp [handsH, hhl]
      · intro h o' ho'
        cases h with
        | succ h =>
          simp only [List.getElem?_cons_succ, List.getElem?_replicate] at ho'
          split at ho' <;> cases ho'
        | zero =>
          simp only [List.getElem?_cons_zero, Option.some.injEq] at ho'
          subst ho'
          refine ⟨fun o h => by simp at h, _, rfl, rfl, rfl, rfl, fun i j hi hj => .inr (.inr ⟨?_, ?_⟩)⟩
          · simp only [Cells.len] at hi
            simp [rowsI, Cells.at, AV.frz, List.getD, hi]
          · intro o ho
            simp only [Cells.len] at hi
            simp [List.getD, hi] at ho
            subst ho
            simp [Cells.len, List.getD, hi]
      repeat (first
        | refine ax_q (q_move rfl) ?_
        | refine ax_post_code ?_
        | refine ax_seq ?_
        | refine ax_region rfl ?_
        | refine ax_exit ?_
        | refine ax_exit_here ?_
        | refine ax_exit_code ?_
        | refine ax_exit_inv ?_
        | refine ax_q (q_slice_ro rfl rfl rfl rfl rfl rfl rfl (by omega)) ?_)
      refine ax_slot_ops 69 (.ro (.ints .i64 (l.drop (P * each))) 0 (l.drop (P * each)).length) rfl ?_ ?_
      · rw [show 0 + ((P * each : Nat) : Int).toNat = P * each by omega, show ((l.length : Int) - ((P * each : Nat) : Int)).toNat = (l.drop (P * each)).length by omega]
        exact AEq.drop
      refine ax_callf rfl rfl rfl (clone (l.drop (P * each)) (by omega)) ?_
      repeat (first
        | refine ax_q (q_assign rfl) ?_
        | refine ax_ops_nil ?_
        | refine ax_post_code ?_
        | refine ax_return ?_)
      refine ax_ret hR rfl ⟨?_, rfl⟩
      show AV.tup [.sl 0 0 P, .sl (some (⟨22, rowsI hs⟩ : AObj) :: List.replicate P none).length 0 (l.drop (P * each)).length, .int .i64 0] = _
      rw [hdl]; simp
  · rintro r H ⟨rfl, rfl⟩
    have hg : (some ⟨22, rowsI (dealGo P l (P * each))⟩ :: (List.replicate P none ++ [some ⟨3, .ints .i64 (l.drop (P * each))⟩]) : AHeap)[P + 1]? = some (some ⟨3, .ints .i64 (l.drop (P * each))⟩) := by
      simp
    refine ⟨?_, ⟨?_, ?_, trivial, trivial⟩, fun h o ho => ?_⟩
    · show AV.tup [_, _, _] = _
      simp only [AV.frz, hg]
      rfl
    · intro o ho
      simp at ho; subst ho
      show 0 + P ≤ (dealGo P l (P * each)).length
      rw [dealGo_length]; omega
    · intro o ho
      rw [hg] at ho
      simp at ho; subst ho
      show 0 + (l.length - P * each) ≤ (l.drop (P * each)).length
      simp
    · cases h with
      | zero => simp at ho; subst ho; intro i j _ _; rfl
      | succ h =>
        simp only [List.getElem?_cons_succ, List.getElem?_append, List.length_replicate, List.getElem?_replicate] at ho
        split at ho
        · simp at ho
        · have : h - P = 0 := by
            rcases Nat.eq_zero_or_pos (h - P) with h0 | h0
            · exact h0
            · rw [List.getElem?_eq_none (by simp; omega)] at ho; cases ho
          rw [this] at ho
          simp at ho; subst ho
          exact refless_ints
end Go.Proofs.YtmfhdfofmdggaaaDoor

/-
  Texts of cards in plain Lean. No program in sight.
-/
namespace Go.Ax.Cd
open Go.Ax.Idx

/-- A text, cut at each of its bytes b. -/
def splitF (b : UInt8) : List UInt8 → List (List UInt8)
  | [] => [[]]
  | x :: r => if x = b then [] :: splitF b r else
    match splitF b r with
    | [] => [[x]]
    | y :: q => (x :: y) :: q
theorem splitF_ne (b : UInt8) (s : List UInt8) : splitF b s ≠ [] := by
  cases s with
  | nil => simp [splitF]
  | cons x r => simp only [splitF]; split; · simp
                · split <;> simp
theorem splitF_length (b : UInt8) (s : List UInt8) : (splitF b s).length = s.count b + 1 := by
  induction s with
  | nil => rfl
  | cons x r ih =>
    simp only [splitF]
    by_cases h : x = b
    · subst h; simp [ih]
    · have h2 : List.count b (x :: r) = List.count b r := by rw [List.count_cons]; simp [h]
      rw [if_neg h, h2]
      cases hq : splitF b r with
      | nil => exact absurd hq (splitF_ne b r)
      | cons y q => rw [hq] at ih; simpa using ih
theorem splitF_no (b : UInt8) (s : List UInt8) (h : Lib.indexByte s b < 0) : splitF b s = [s] := by
  induction s with
  | nil => rfl
  | cons x r ih =>
    unfold Lib.indexByte at h
    by_cases hx : x = b
    · subst hx; simp at h
    · have hb : (x == b) = false := by simpa using hx
      simp only [hb, Bool.false_eq_true, if_false] at h
      have hr : Lib.indexByte r b < 0 := by
        have := Lib.indexByte_ge r b
        by_cases h1 : Lib.indexByte r b = -1
        · omega
        · have : (Lib.indexByte r b == -1) = false := by simpa using h1
          simp only [this, Bool.false_eq_true, if_false] at h
          omega
      simp only [splitF, hx, if_false, ih hr]
theorem splitF_yes (b : UInt8) (s : List UInt8) (h : 0 ≤ Lib.indexByte s b) : Lib.indexByte s b < s.length ∧ splitF b s = s.take (Lib.indexByte s b).toNat :: splitF b (s.drop ((Lib.indexByte s b).toNat + 1)) := by
  induction s with
  | nil => simp [Lib.indexByte] at h
  | cons x r ih =>
    unfold Lib.indexByte at h ⊢
    by_cases hx : x = b
    · subst hx; simp [splitF]
    · have hb : (x == b) = false := by simpa using hx
      simp only [hb, Bool.false_eq_true, if_false] at h ⊢
      by_cases h1 : Lib.indexByte r b = -1
      · have : (Lib.indexByte r b == -1) = true := by simpa using h1
        simp [this] at h
      · have h2 : (Lib.indexByte r b == -1) = false := by simpa using h1
        simp only [h2, Bool.false_eq_true, if_false] at h ⊢
        have hge := Lib.indexByte_ge r b
        obtain ⟨i1, i2⟩ := ih (by omega)
        refine ⟨by simp; omega, ?_⟩
        simp only [splitF, hx, if_false, i2]
        have e : (Lib.indexByte r b + 1).toNat = (Lib.indexByte r b).toNat + 1 := by omega
        rw [e]; simp
end Go.Ax.Cd
namespace Go.Ax.Cd
def rankL : List UInt8 := [50, 51, 52, 53, 54, 55, 56, 57, 84, 74, 81, 75, 65]
def suitL : List UInt8 := [67, 68, 72, 83]
def cardT (c : Int) : List UInt8 := [rankL.getD (c % 13).toNat 0, suitL.getD (c / 13).toNat 0]
theorem drop_take1 (l : List UInt8) (i j : Nat) (hi : i < l.length) (hj : j = i + 1) : (l.drop i).take (j - i) = [l.getD i 0] := by
  subst hj
  rw [show i + 1 - i = 1 by omega, List.drop_eq_getElem_cons hi, List.take_succ_cons, List.take_zero]
  simp [List.getD, hi]
theorem deckGo_mem {seen l : List Int} (h : deckGo seen l = 0) : ∀ c ∈ l, 0 ≤ c ∧ c < 52 := by
  induction l generalizing seen with
  | nil => intro c hc; simp at hc
  | cons x r ih =>
    rw [deckGo] at h
    split at h
    · omega
    · split at h
      · omega
      · intro c hc
        rcases List.mem_cons.1 hc with rfl | hc
        · omega
        · exact ih h c hc
theorem deckF_mem {l : List Int} (h : deckF l = 0) : ∀ c ∈ l, 0 ≤ c ∧ c < 52 := by
  unfold deckF at h
  split at h
  · omega
  · exact deckGo_mem h
def textF (l : List Int) : List UInt8 := Lib.join (l.map cardT) [32]
theorem lens_cards (l : List Int) : Lib.lens (l.map cardT) = 2 * l.length := by
  induction l with
  | nil => rfl
  | cons x r ih =>
    have : Lib.lens (cardT x :: r.map cardT) = (cardT x).length + Lib.lens (r.map cardT) := by simp [Lib.lens]
    rw [List.map_cons, this, ih]; simp [cardT]; omega
theorem textF_len (l : List Int) : (textF l).length ≤ 3 * l.length := by
  cases l with
  | nil => simp [textF, Lib.join_nil]
  | cons x r =>
    unfold textF
    rw [List.map_cons, Lib.join_length, ← List.map_cons, lens_cards]; simp; omega
/-- One card's text, read. -/
def wordF (w : List UInt8) : Option Int :=
  if w.length ≠ 2 then none else if Lib.indexByte rankL (w.getD 0 0) < 0 ∨ Lib.indexByte suitL (w.getD 1 0) < 0 then none
  else some (13 * Lib.indexByte suitL (w.getD 1 0) + Lib.indexByte rankL (w.getD 0 0))
def readGo (acc : List Int) : List (List UInt8) → Option (List Int)
  | [] => some acc
  | w :: r => match wordF w with
    | none => none
    | some c => readGo (acc ++ [c]) r
def readO (s : List UInt8) : Option (List Int) := if s = [] then some [] else readGo [] (splitF 32 s)
def readE (s : List UInt8) : Int := if 8192 < s.length then 2 else match readO s with
  | none => 5
  | some out => deckF out
theorem indexByte_lt (l : List UInt8) (b : UInt8) : Lib.indexByte l b < l.length := by
  induction l with
  | nil => simp [Lib.indexByte]
  | cons x r ih =>
    unfold Lib.indexByte
    split
    · simp
    · split
      · simp; omega
      · simp; omega
end Go.Ax.Cd

namespace Go.Proofs.YtmfhdfofmdggaaaDoor
open Go.Ax Go.Ax.Idx Go.Ax.Cd
attribute [local irreducible] Ax Post QOp ACall
set_option maxRecDepth 100000
set_option maxHeartbeats 4000000

theorem indexByteI (s : List UInt8) (b : Int) : VCall Tryd.prog 62 [.str s, .int .u8 b] (.int .i64 (Lib.indexByte s b.toNat.toUInt8)) := by
  refine ACall.value0 (acall_of_ax (P := Tryd.prog) (fn := Tryd.f62) rfl rfl (by kernel_rfl) rfl (fun c hR hfix => ?_)) (fix := fun _ => False) (fun _ h => h) rfl rfl
  repeat (first
    | refine ax_q (q_move rfl) ?_
    | refine ax_q (q_assign rfl) ?_
    | refine ax_ops_nil ?_
    | refine ax_post_code ?_
    | refine ax_seq ?_
    | refine ax_region rfl ?_)
  refine ax_q (q_indexByte rfl rfl rfl rfl (by kernel_rfl) (by kernel_rfl) (by kernel_rfl) (by kernel_rfl)) ?_
  repeat (first
    | refine ax_q (q_assign rfl) ?_
    | refine ax_ops_nil ?_
    | refine ax_post_code ?_
    | refine ax_return ?_)
  exact ax_ret hR rfl rfl
theorem indexByteS (s : List UInt8) (b : Int) : VCall Tryd.prog 50 [.str s, .int .u8 b] (.int .i64 (Lib.indexByte s b.toNat.toUInt8)) := by
  refine ACall.value0 (acall_of_ax (P := Tryd.prog) (fn := Tryd.f50) rfl rfl (by kernel_rfl) rfl (fun c hR hfix => ?_)) (fix := fun _ => False) (fun _ h => h) rfl rfl
  repeat (first
    | refine ax_q (q_move rfl) ?_
    | refine ax_q (q_assign rfl) ?_
    | refine ax_ops_nil ?_
    | refine ax_post_code ?_
    | refine ax_seq ?_
    | refine ax_region rfl ?_)
  refine ax_callv rfl rfl rfl (indexByteI s b) ?_
  repeat (first
    | refine ax_q (q_assign rfl) ?_
    | refine ax_ops_nil ?_
    | refine ax_post_code ?_
    | refine ax_return ?_)
  exact ax_ret hR rfl rfl
theorem indexI1 (s : List UInt8) (b : UInt8) : VCall Tryd.prog 75 [.str s, .str [b]] (.int .i64 (Lib.indexByte s b)) := by
  refine ACall.value0 (acall_of_ax (P := Tryd.prog) (fn := Tryd.f75) rfl rfl (by kernel_rfl) rfl (fun c hR hfix => ?_)) (fix := fun _ => False) (fun _ h => h) rfl rfl
  repeat (first
    | refine ax_q (q_move rfl) ?_
    | refine ax_q (q_assign rfl) ?_
    | refine ax_ops_nil ?_
    | refine ax_post_code ?_
    | refine ax_seq ?_
    | refine ax_region rfl ?_
    | refine ax_guard rfl rfl ?_
    | refine ax_block ?_
    | refine ax_q (q_eql rfl rfl) ?_
    | refine ax_q (q_pick rfl rfl) ?_
    | refine ax_q (q_lenstr rfl rfl) ?_
    | refine ax_q (q_streql rfl rfl) ?_)
  refine ax_cond_dec rfl (fun h => ?_) (fun h => ?_)
  · repeat (first
      | refine ax_q (q_assign rfl) ?_
      | refine ax_ops_nil ?_
      | refine ax_post_code ?_
      | refine ax_seq ?_
      | refine ax_region rfl ?_
      | refine ax_return ?_
      | refine ax_ret_code ?_
      | refine ax_ret_blk ?_)
    refine ax_ret hR rfl ?_
    subst h
    simp [tupOf, Lib.indexByte]
  repeat (first
    | refine ax_q (q_move rfl) ?_
    | refine ax_q (q_assign rfl) ?_
    | refine ax_ops_nil ?_
    | refine ax_post_code ?_
    | refine ax_seq ?_
    | refine ax_region rfl ?_
    | refine ax_cond_true rfl ?_
    | refine ax_q (q_eql rfl rfl) ?_
    | refine ax_q (q_stridx rfl rfl rfl (by first | assumption | omega | simp)) ?_)
  refine ax_callv rfl rfl rfl (indexByteI s b.toNat) ?_
  repeat (first
    | refine ax_q (q_assign rfl) ?_
    | refine ax_ops_nil ?_
    | refine ax_post_code ?_
    | refine ax_return ?_
    | refine ax_ret_code ?_
    | refine ax_ret_blk ?_)
  refine ax_ret hR rfl ?_
  simp [tupOf]
theorem indexS1 (s : List UInt8) (b : UInt8) : VCall Tryd.prog 68 [.str s, .str [b]] (.int .i64 (Lib.indexByte s b)) := by
  refine ACall.value0 (acall_of_ax (P := Tryd.prog) (fn := Tryd.f68) rfl rfl (by kernel_rfl) rfl (fun c hR hfix => ?_)) (fix := fun _ => False) (fun _ h => h) rfl rfl
  repeat (first
    | refine ax_q (q_move rfl) ?_
    | refine ax_q (q_assign rfl) ?_
    | refine ax_ops_nil ?_
    | refine ax_post_code ?_
    | refine ax_seq ?_
    | refine ax_region rfl ?_)
  refine ax_callv rfl rfl rfl (indexI1 s b) ?_
  repeat (first
    | refine ax_q (q_assign rfl) ?_
    | refine ax_ops_nil ?_
    | refine ax_post_code ?_
    | refine ax_return ?_)
  exact ax_ret hR rfl rfl
theorem countS1 (s : List UInt8) (b : UInt8) : VCall Tryd.prog 67 [.str s, .str [b]] (.int .i64 (s.count b : Nat)) := by
  refine ACall.value0 (acall_of_ax (P := Tryd.prog) (fn := Tryd.f67) rfl rfl (by kernel_rfl) rfl (fun c hR hfix => ?_)) (fix := fun _ => False) (fun _ h => h) rfl rfl
  repeat (first
    | refine ax_q (q_move rfl) ?_
    | refine ax_q (q_assign rfl) ?_
    | refine ax_ops_nil ?_
    | refine ax_post_code ?_
    | refine ax_seq ?_
    | refine ax_region rfl ?_
    | refine ax_cond_true rfl ?_
    | refine ax_cond_false rfl ?_
    | refine ax_skip ?_
    | refine ax_q (q_eql rfl rfl) ?_
    | refine ax_q (q_lenstr rfl rfl) ?_
    | refine ax_q (q_stridx rfl rfl rfl (by first | assumption | omega | simp)) ?_)
  refine ax_q (q_countByte rfl rfl rfl rfl (by kernel_rfl) (by kernel_rfl) (by kernel_rfl) (by kernel_rfl)) ?_
  repeat (first
    | refine ax_q (q_assign rfl) ?_
    | refine ax_ops_nil ?_
    | refine ax_post_code ?_
    | refine ax_return ?_
    | refine ax_ret_code ?_)
  refine ax_ret hR rfl ?_
  simp [tupOf]

/-- The memory that genSplit writes. -/
theorem genSplit1 (s : List UInt8) (b : UInt8) (hs : s.length ≤ 1000000) :
    VCall Tryd.prog 61 [.str s, .str [b], .int .i64 0, .int .i64 (-1)] (.ro (.strs (splitF b s)) 0 (splitF b s).length) := by
  have hc := List.count_le_length (a := b) (l := s)
  refine ACall.value (K := fun r H => r = .sl 0 0 (splitF b s).length ∧ H = [some ⟨9, .strs (splitF b s)⟩]) (acall_of_ax (P := Tryd.prog) (fn := Tryd.f61) rfl rfl (by kernel_rfl) rfl (fun c hR hfix => ?_)) (fix := fun _ => False) (fun _ h => h) rfl ?_
  · repeat (first
      | refine ax_q (q_move rfl) ?_
      | refine ax_q (q_assign rfl) ?_
      | refine ax_ops_nil ?_
      | refine ax_post_code ?_
      | refine ax_seq ?_
      | refine ax_region rfl ?_
      | refine ax_cond_true rfl ?_
      | refine ax_cond_false rfl ?_
      | refine ax_skip ?_
      | refine ax_q (q_lss rfl rfl) ?_
      | refine ax_q (q_eql rfl rfl) ?_
      | refine ax_q (q_streql rfl rfl) ?_)
    refine ax_callv rfl rfl rfl (countS1 s b) ?_
    repeat (first
      | refine ax_q (q_move rfl) ?_
      | refine ax_q (q_assign rfl) ?_
      | refine ax_ops_nil ?_
      | refine ax_post_code ?_
      | refine ax_seq ?_
      | refine ax_region rfl ?_
      | refine ax_q (q_lenstr rfl rfl) ?_
      | refine ax_q (q_add rfl rfl (by omega)) ?_
      | refine ax_q (q_min rfl rfl) ?_)
    have hmin : (if (s.length : Int) + 1 < (s.count b : Nat) + 1 then (s.length : Int) + 1 else (s.count b : Nat) + 1) = ((s.count b + 1 : Nat) : Int) := by rw [if_neg (by omega)]; simp
    rw [hmin]
    refine ax_make rfl rfl rfl rfl rfl rfl rfl rfl (by show 0 ≤ _ ∧ _ ≤ _ ∧ (16 : Int) * _ ≤ _ ∧ _; omega) ?_
    repeat (first
      | refine ax_q (q_move rfl) ?_
      | refine ax_q (q_assign rfl) ?_
      | refine ax_ops_nil ?_
      | refine ax_post_code ?_
      | refine ax_seq ?_
      | refine ax_region rfl ?_
      | refine ax_q (q_sub rfl rfl (by omega)) ?_)
    have hsl := splitF_length b s
    refine ax_block ?_
    refine ax_loop (ι := Nat × List UInt8 × List (List UInt8)) (fun x => [(0, .str x.2.1), (1, .str [b]), (2, .int .i64 0), (3, .int .i64 (s.count b : Nat)), (9, .sl 0 0 (s.count b + 1)), (10, .int .i64 x.1)]) (fun x => [some ⟨9, .strs x.2.2⟩])
      (fun x => x.2.2.length = s.count b + 1 ∧ x.1 + (splitF b x.2.1).length = s.count b + 1 ∧ x.2.2.take x.1 ++ splitF b x.2.1 = splitF b s ∧ x.2.1.length ≤ 1000000) (fun x => s.count b + 1 - x.1) (0, s, List.replicate (s.count b + 1) [])
      ⟨⟨rfl, rfl, rfl, by show some (AV.int _ _) = _; congr 2; simp, rfl, rfl, trivial⟩, rfl, by simp, by simp only; omega, by simp, hs⟩ ?_
    rintro ⟨i, r, out⟩ ⟨ho, hi, hsp, hrl⟩
    simp only at *
    have hrs := splitF_length b r
    have hge := Lib.indexByte_ge r b
    repeat (first
      | refine ax_q (q_move rfl) ?_
      | refine ax_ops_nil ?_
      | refine ax_post_code ?_
      | refine ax_seq ?_
      | refine ax_region rfl ?_
      | refine ax_q (q_lss rfl rfl) ?_)
    refine ax_cond_dec rfl (fun h1 => ?_) (fun h1 => ?_)
    · repeat (first
        | refine ax_q (q_move rfl) ?_
        | refine ax_post_code ?_
        | refine ax_seq ?_
        | refine ax_region rfl ?_
        | refine ax_block ?_
        | refine ax_skip ?_)
      refine ax_callv rfl rfl rfl (indexS1 r b) ?_
      repeat (first
        | refine ax_q (q_move rfl) ?_
        | refine ax_q (q_assign rfl) ?_
        | refine ax_ops_nil ?_
        | refine ax_post_code ?_
        | refine ax_seq ?_
        | refine ax_region rfl ?_
        | refine ax_q (q_lss rfl rfl) ?_)
      refine ax_cond_dec rfl (fun h2 => ?_) (fun h2 => ?_)
      · exfalso
        have := splitF_no b r h2
        rw [this] at hi
        simp at hi; omega
      · obtain ⟨g1, g2⟩ := splitF_yes b r (by omega)
        rw [g2] at hi hsp
        simp only [List.length_cons] at hi
        generalize Lib.indexByte r b = m at *
        have hio : i < out.length := by omega
        repeat (first
          | refine ax_q (q_move rfl) ?_
          | refine ax_ops_nil ?_
          | refine ax_post_code ?_
          | refine ax_seq ?_
          | refine ax_region rfl ?_
          | refine ax_skip ?_
          | refine ax_q (q_lenstr rfl rfl) ?_
          | refine ax_q (q_add rfl rfl (by omega)) ?_
          | refine ax_q (q_index_sl' rfl rfl rfl rfl rfl (by first | (simp only [Nat.zero_add, Int.toNat_natCast, Int.toNat_zero]; exact rfl) | exact rfl) (by omega)) ?_
          | refine ax_q (q_strslice rfl rfl rfl rfl rfl rfl (by omega)) ?_
          | refine ax_store rfl rfl rfl rfl rfl rfl rfl (by first | assumption | (show _ < List.length _; first | assumption | omega)) ?_)
        refine ax_q (q_add rfl rfl (by simp only [List.length_cons, List.length_nil]; omega)) ?_
        refine ax_slot_ops 54 (.int .i64 (m + 1)) rfl AEq.rfl' ?_
        repeat (first
          | refine ax_q (q_move rfl) ?_
          | refine ax_q (q_assign rfl) ?_
          | refine ax_ops_nil ?_
          | refine ax_post_code ?_
          | refine ax_region rfl ?_
          | refine ax_post_blk ?_
          | refine ax_q (q_add rfl rfl (by omega)) ?_
          | refine ax_q (q_strslice rfl rfl rfl rfl rfl rfl (by omega)) ?_)
        have e1 : (m + 0).toNat - (0 : Int).toNat = m.toNat := by omega
        refine ax_post_inv ⟨(i + 1, r.drop (m.toNat + 1), out.set i (r.take m.toNat)), ⟨by simp only [List.length_set]; exact ho, by simp only; omega, ?_, by simp only [List.length_drop]; omega⟩, by simp only; omega, ⟨?_, rfl, rfl, rfl, rfl, rfl, trivial⟩, ?_⟩
        · simp only
          rw [← hsp, List.take_succ_eq_append_getElem (by simpa using hio)]
          simp [List.take_set_of_le (Nat.le_refl i)]
        · show some (AV.str (List.take (r.length - (m + 1).toNat) (List.drop (m + 1).toNat r))) = _
          rw [show (m + 1).toNat = m.toNat + 1 by omega, List.take_of_length_le (by simp)]
        · show ([some ⟨9, .strs (out.set i (List.take ((m + 0).toNat - (0 : Int).toNat) r))⟩] : AHeap) = _
          rw [e1]
    · have hi1 : i = s.count b := by omega
      subst hi1
      have h0 : splitF b r = [r] := by
        rcases Int.lt_or_le (Lib.indexByte r b) 0 with hq | hq
        · exact splitF_no b r hq
        · obtain ⟨_, g2⟩ := splitF_yes b r hq
          have := splitF_ne b (r.drop ((Lib.indexByte r b).toNat + 1))
          rw [g2] at hi
          cases hz : splitF b (r.drop ((Lib.indexByte r b).toNat + 1)) with
          | nil => exact absurd hz this
          | cons y q => rw [hz] at hi; simp at hi
      rw [h0] at hsp
      have hio : s.count b < out.length := by omega
      have hset : out.set (s.count b) r = splitF b s := by
        rw [← hsp, List.set_eq_take_append_cons_drop, if_pos hio, List.drop_eq_nil_of_le (by omega)]
      repeat (first
        | refine ax_q (q_move rfl) ?_
        | refine ax_q (q_assign rfl) ?_
        | refine ax_ops_nil ?_
        | refine ax_post_code ?_
        | refine ax_seq ?_
        | refine ax_region rfl ?_
        | refine ax_exit ?_
        | refine ax_exit_here ?_
        | refine ax_exit_code ?_
        | refine ax_exit_inv ?_
        | refine ax_return ?_
        | refine ax_q (q_add rfl rfl (by omega)) ?_
        | refine ax_q (q_index_sl' rfl rfl rfl rfl rfl (by first | (simp only [Nat.zero_add, Int.toNat_natCast, Int.toNat_zero]; exact rfl) | exact rfl) (by omega)) ?_
        | refine ax_q (q_slice_sl rfl rfl rfl rfl rfl rfl rfl rfl (by omega)) ?_
        | refine ax_store rfl rfl rfl rfl rfl rfl rfl (by first | assumption | (show _ < List.length _; first | assumption | omega)) ?_)
      refine ax_ret hR rfl ⟨?_, ?_⟩
      · show AV.sl 0 0 ((s.count b : Int) + 1 - (0 : Nat)).toNat = _
        rw [hsl]; congr 1
      · show ([some ⟨9, .strs (out.set (s.count b) r)⟩] : AHeap) = _
        rw [hset]
  · rintro r H ⟨rfl, rfl⟩
    refine ⟨rfl, ?_, fun h o ho => refl1 refless_strs h o ho⟩
    intro o ho; simp at ho; subst ho
    show 0 + (splitF b s).length ≤ (splitF b s).length
    omega
theorem split1 (s : List UInt8) (b : UInt8) (hs : s.length ≤ 1000000) : VCall Tryd.prog 49 [.str s, .str [b]] (.ro (.strs (splitF b s)) 0 (splitF b s).length) := by
  intro H
  refine acall_of_ax (P := Tryd.prog) (fn := Tryd.f49) rfl rfl (by kernel_rfl) rfl (fun c hR hfix => ?_)
  repeat (first
    | refine ax_q (q_move rfl) ?_
    | refine ax_q (q_assign rfl) ?_
    | refine ax_ops_nil ?_
    | refine ax_post_code ?_
    | refine ax_seq ?_
    | refine ax_region rfl ?_)
  refine ax_callv rfl rfl rfl (genSplit1 s b hs) ?_
  repeat (first
    | refine ax_q (q_assign rfl) ?_
    | refine ax_ops_nil ?_
    | refine ax_post_code ?_
    | refine ax_return ?_)
  exact ax_ret hR rfl ⟨rfl, rfl⟩
end Go.Proofs.YtmfhdfofmdggaaaDoor

/-
  DERIVED: THE SHELF's CONTRACTS AT THIS DUMP, IN PLAIN WORDS (tools/lay-plain.mjs out of 'TrydShelf.lean', which tools/lay-shelf.mjs wrote): THE SAME DECLARATIONS UNDER THE SAME NAMES: 'import', 'namespace', 'open', 'def', 'theorem' AND NOTHING ELSE: no command of the shelf's: FOR A HAND-IN. Each laying: the table of numbers ('.._ren') and one theorem, a field a fact of the dump's own or the kernel's comparison; each contract: ONE APPLICATION.
-/
namespace Go.Proofs
open Go.Shelf
def Tryd.lays156_ren : Go.Shelf.Ren := ⟨fun | 156 => 48 | 165 => 58 | 166 => 59 | 169 => 60 | 240 => 64 | 241 => 65 | 276 => 70 | 277 => 71 | n => n, fun | 31 => 74 | 9 => 9 | 3 => 3 | 4 => 4 | 0 => 0 | 20 => 20 | 72 => 93 | 76 => 97 | 70 => 90 | 37 => 91 | 75 => 96 | 127 => 102 | 164 => 105 | 5 => 5 | 80 => 99 | n => n, fun | n => n⟩
theorem Tryd.lays156 : Go.Proofs.Lays.n156 Tryd.prog Tryd.lays156_ren := {
  mixed := by kernel_rfl
  f156 := Tryd.func48.trans (congrArg some (by kernel_rfl))
  f165 := Tryd.func58.trans (congrArg some (by kernel_rfl))
  f166 := Tryd.func59.trans (congrArg some (by kernel_rfl))
  f169 := Tryd.func60.trans (congrArg some (by kernel_rfl))
  f240 := Tryd.func64.trans (congrArg some (by kernel_rfl))
  f241 := Tryd.func65.trans (congrArg some (by kernel_rfl))
  f276 := Tryd.func70.trans (congrArg some (by kernel_rfl))
  f277 := Tryd.func71.trans (congrArg some (by kernel_rfl))
  t0 := Tryd.underlying0
  a0 := Tryd.isAgg0
  z0 := Tryd.sizeOf0
  v0 := Tryd.zeroValue0
  t3 := Tryd.underlying3
  a3 := Tryd.isAgg3
  z3 := Tryd.sizeOf3
  v3 := Tryd.zeroValue3
  t4 := Tryd.underlying4
  a4 := Tryd.isAgg4
  z4 := Tryd.sizeOf4
  v4 := Tryd.zeroValue4
  t9 := Tryd.underlying9
  a9 := Tryd.isAgg9
  z9 := Tryd.sizeOf9
  v9 := Tryd.zeroValue9
  t20 := Tryd.underlying20
  a20 := Tryd.isAgg20
  z20 := Tryd.sizeOf20
  v20 := Tryd.zeroValue20
  t31 := Tryd.underlying74
  a31 := Tryd.isAgg74
  z31 := Tryd.sizeOf74
  v31 := Tryd.zeroValue74
  t37 := Tryd.underlying91
  a37 := Tryd.isAgg91
  z37 := Tryd.sizeOf91
  v37 := Tryd.zeroValue91
  t70 := Tryd.underlying90
  a70 := Tryd.isAgg90
  z70 := Tryd.sizeOf90
  v70 := Tryd.zeroValue90
  t72 := Tryd.underlying93
  a72 := Tryd.isAgg93
  z72 := Tryd.sizeOf93
  v72 := Tryd.zeroValue93
  t75 := Tryd.underlying96
  a75 := Tryd.isAgg96
  z75 := Tryd.sizeOf96
  v75 := Tryd.zeroValue96
  t76 := Tryd.underlying97
  a76 := Tryd.isAgg97
  z76 := Tryd.sizeOf97
  v76 := Tryd.zeroValue97
  t127 := Tryd.underlying102
  a127 := Tryd.isAgg102
  z127 := Tryd.sizeOf102
  v127 := Tryd.zeroValue102
  t164 := Tryd.underlying105
  a164 := Tryd.isAgg105
  z164 := Tryd.sizeOf105
  v164 := Tryd.zeroValue105 }
theorem Tryd.Builder_Extra_156 : Builder.Extra Tryd.prog Tryd.lays156_ren := {
  sizeBuilder := by kernel_rfl
  liesBuilder := by kernel_rfl
  t5 := Tryd.underlying5
  a5 := Tryd.isAgg5
  z5 := Tryd.sizeOf5
  v5 := Tryd.zeroValue5
  infoByte := by kernel_rfl
  cellsByte := by kernel_rfl
  sizeByte := by kernel_rfl
  neB5 := by decide }
open Go.RowKit in
/-- No element: the empty string; the world is as it was. (Whatever the slice's address and capacity: a nil slice too.) (LAID: no walk: one application.) -/
theorem Tryd.strings_Join_none (a : Option Addr) (c : Nat) (sep : ByteArray) (w : World) :
    Calls Tryd.prog 48 #[.slice a 0 c, .string sep] w fun e w' => e = .returned (.string ⟨#[]⟩) ∧ w' = w := Any.strings_Join_none Tryd.lays156 Tryd.Builder_Extra_156 a c sep w
open Go.RowKit in
/-- strings.Join: "Join concatenates the elements of its first argument to create a single string. The separator string sep is placed between elements in the resulting string.": HOWEVER MANY ELEMENTS. Below the heap's end the world is as it was. (LAID: no walk: one application.) -/
theorem Tryd.strings_Join (bk o c : Nat) (xs : List ByteArray) (sep : ByteArray) (w : World) (hcells : ∀ (j : Nat) x, xs[j]? = some x → w.cell? ⟨bk, o + j, none⟩ = some (.string x)) (hbk : bk < w.heap.size) (hN : xs.length ≤ 140737488355328) (hcap : xs.length ≤ c) (hlen : (Lib.join (xs.map (·.data.toList)) sep.data.toList).length ≤ 140737488355328) :
    Calls Tryd.prog 48 #[.slice (some ⟨bk, o, none⟩) xs.length c, .string sep] w fun e w' => e = .returned (.string ⟨(Lib.join (xs.map (·.data.toList)) sep.data.toList).toArray⟩) ∧ Below w.heap.size w w' := Any.strings_Join Tryd.lays156 Tryd.Builder_Extra_156 bk o c xs sep w hcells hbk hN hcap hlen
end Go.Proofs

namespace Go.Proofs.YtmfhdfofmdggaaaDoor
open Go.Ax Go.Ax.Idx Go.Ax.Cd Go.RowKit
set_option maxRecDepth 100000
set_option maxHeartbeats 4000000

theorem join (ls : List (List UInt8)) (sep : List UInt8) (hN : ls.length ≤ 140737488355328) (hj : (Lib.join ls sep).length ≤ 140737488355328) : VCall Tryd.prog 48 [.ro (.strs ls) 0 ls.length, .str sep] (.str (Lib.join ls sep)) := by
  refine VCall.of_below ⟨Tryd.f48, rfl, by kernel_rfl, rfl⟩ rfl rfl (fun w S vals hS hv => ?_)
  obtain ⟨h1, h2⟩ := hv
  have a := h2 0 (by simp)
  have b := h2 1 (by simp)
  obtain ⟨x, y, rfl⟩ : ∃ x y, vals = #[x, y] := by
    have : vals.toList.length = 2 := by simpa using h1
    match hq : vals.toList, this with
    | [x, y], _ => exact ⟨x, y, by rw [← Array.toArray_toList (xs := vals), hq]⟩
  simp at a b
  have hy : y = strV sep := by cases b; rfl
  subst hy
  have hsep : (⟨sep.toArray⟩ : ByteArray).data.toList = sep := by simp
  have hbyte : ∀ l : List UInt8, (⟨l.toArray⟩ : ByteArray).data.toList = l := fun l => by simp
  generalize hn : ls.length = n at a
  cases a with
  | ro0 _ _ _ ad cap =>
    have : ls = [] := List.length_eq_zero_iff.mp hn
    subst this
    refine (Tryd.strings_Join_none ad cap ⟨sep.toArray⟩ w).mono ?_
    rintro e w' ⟨rfl, rfl⟩
    exact ⟨_, rfl, Below.refl _ _, .str _ []⟩
  | ro _ _ _ _ bk o cap val hSb hlen hc hv h1' =>
    subst hn
    have hxs : (ls.map (fun l => (⟨l.toArray⟩ : ByteArray))).length = ls.length := by simp
    have c := Tryd.strings_Join bk o cap (ls.map (fun l => (⟨l.toArray⟩ : ByteArray))) ⟨sep.toArray⟩ w (fun j x hx => ?_) (hS _ hSb) (by simpa using hN) (by simpa using hlen) ?_
    · rw [hxs] at c
      refine c.mono ?_
      rintro e w' ⟨rfl, hb⟩
      have e2 : ((ls.map (fun l => (⟨l.toArray⟩ : ByteArray))).map (fun x => x.data.toList)) = ls := by rw [List.map_map]; exact (List.map_congr_left (fun x _ => rfl)).trans (List.map_id _)
      rw [e2, hsep]
      exact ⟨_, rfl, hb, .str _ _⟩
    · simp only [List.getElem?_map, Option.map_eq_some_iff] at hx
      obtain ⟨l, hl, rfl⟩ := hx
      have hlt : j < ls.length := (List.getElem?_eq_some_iff.1 hl).1
      have q := hc j 0 hlt (by simp [Cells.sz])
      have v := hv j 0 hlt (by simp [Cells.sz])
      simp only [Cells.sz, Nat.mul_one, Nat.add_zero] at q
      simp only [Cells.at, Nat.zero_add, List.getD, hl, Option.getD_some] at v
      rw [q]
      generalize val j 0 = z at v
      cases v; rfl
    · have e2 : ((ls.map (fun l => (⟨l.toArray⟩ : ByteArray))).map (fun x => x.data.toList)) = ls := by rw [List.map_map]; exact (List.map_congr_left (fun x _ => rfl)).trans (List.map_id _)
      rw [e2, hsep]; exact hj
end Go.Proofs.YtmfhdfofmdggaaaDoor

namespace Go.Proofs.YtmfhdfofmdggaaaDoor
open Go.Ax Go.Ax.Idx Go.Ax.Cd
attribute [local irreducible] Ax Post QOp ACall
set_option maxRecDepth 100000
set_option maxHeartbeats 4000000

theorem Text_no (l : List Int) (hl : l.length ≤ 9223372036854775807) {e : Int} (he : deckF l = e) (h : e ≠ 0) : VCall Tryd.prog 22 [.ro (.ints .i64 l) 0 l.length] (.tup [.str [], .int .i64 e]) := by
  refine ACall.value0 (acall_of_ax (P := Tryd.prog) (fn := Tryd.f22) rfl rfl (by kernel_rfl) rfl (fun c hR hfix => ?_)) (fix := fun _ => False) (fun _ h => h) rfl rfl
  repeat (first
    | refine ax_q (q_move rfl) ?_
    | refine ax_q (q_assign rfl) ?_
    | refine ax_ops_nil ?_
    | refine ax_post_code ?_
    | refine ax_seq ?_
    | refine ax_region rfl ?_)
  refine ax_callv rfl rfl rfl (check l hl) ?_
  rw [he]
  repeat (first
    | refine ax_q (q_move rfl) ?_
    | refine ax_q (q_assign rfl) ?_
    | refine ax_ops_nil ?_
    | refine ax_post_code ?_
    | refine ax_seq ?_
    | refine ax_region rfl ?_
    | refine ax_q (q_neq rfl rfl) ?_)
  refine ax_cond_dec rfl (fun h2 => ?_) (fun h2 => absurd h h2)
  repeat (first
    | refine ax_q (q_move rfl) ?_
    | refine ax_q (q_assign rfl) ?_
    | refine ax_ops_nil ?_
    | refine ax_post_code ?_
    | refine ax_seq ?_
    | refine ax_region rfl ?_
    | refine ax_return ?_
    | refine ax_ret_code ?_)
  exact ax_ret hR rfl rfl
theorem Text_ok (l : List Int) (hd : deckF l = 0) : VCall Tryd.prog 22 [.ro (.ints .i64 l) 0 l.length] (.tup [.str (textF l), .int .i64 0]) := by
  have hlen := deckF_len hd
  have hmem := deckF_mem hd
  refine ACall.value (K := fun r H => r = .tup [.str (textF l), .int .i64 0] ∧ H = [some ⟨9, .strs (l.map cardT)⟩]) (acall_of_ax (P := Tryd.prog) (fn := Tryd.f22) rfl rfl (by kernel_rfl) rfl (fun c hR hfix => ?_)) (fix := fun _ => False) (fun _ h => h) rfl ?_
  · repeat (first
      | refine ax_q (q_move rfl) ?_
      | refine ax_q (q_assign rfl) ?_
      | refine ax_ops_nil ?_
      | refine ax_post_code ?_
      | refine ax_seq ?_
      | refine ax_region rfl ?_)
    refine ax_callv rfl rfl rfl (check l (by omega)) ?_
    rw [hd]
    repeat (first
      | refine ax_q (q_move rfl) ?_
      | refine ax_q (q_assign rfl) ?_
      | refine ax_ops_nil ?_
      | refine ax_post_code ?_
      | refine ax_seq ?_
      | refine ax_region rfl ?_
      | refine ax_cond_false rfl ?_
      | refine ax_skip ?_
      | refine ax_q (q_neq rfl rfl) ?_
      | refine ax_q (q_len rfl rfl rfl) ?_)
    refine ax_nilobj 5 ⟨9, .strs []⟩ rfl rfl ?_
    repeat (refine ax_block ?_)
    refine ax_loop (ι := Nat) (fun k => [(5, .sl 0 0 k), (13, .ro (.ints .i64 l) 0 l.length), (14, .int .i64 (l.length : Nat)), (15, .int .i64 (k : Nat))]) (fun k => [some ⟨9, .strs ((l.take k).map cardT)⟩])
      (fun k => k ≤ l.length) (fun k => l.length - k) 0 ⟨⟨rfl, rfl, rfl, rfl, trivial⟩, rfl, Nat.zero_le _⟩ ?_
    intro k hk
    repeat (first
      | refine ax_ops_nil ?_
      | refine ax_post_code ?_
      | refine ax_seq ?_
      | refine ax_region rfl ?_
      | refine ax_q (q_lss rfl rfl) ?_)
    refine ax_cond_dec rfl (fun h1 => ?_) (fun h1 => ?_)
    · have hk' : k < l.length := by omega
      have hx := hmem _ (getD_mem 0 hk')
      have hts := take_succ_getD l 0 k hk'
      have htl : ((l.take k).map cardT).length = k := by simp; omega
      have hc1 := drop_take1 rankL (l.getD k 0 % 13).toNat (l.getD k 0 % 13 + 1).toNat (by show _ < 13; omega) (by omega)
      have hc2 := drop_take1 suitL (l.getD k 0 / 13).toNat (l.getD k 0 / 13 + 1).toNat (by show _ < 4; omega) (by omega)
      repeat (first
        | refine ax_q (q_assign rfl) ?_
        | refine ax_q (q_loadi_rp rfl rfl rfl) ?_
        | refine ax_ops_nil ?_
        | refine ax_post_code ?_
        | refine ax_seq ?_
        | refine ax_region rfl ?_
        | refine ax_block ?_
        | refine ax_skip ?_
        | refine ax_q (q_index_ro' rfl rfl rfl rfl (by first | (simp only [Nat.zero_add, Int.toNat_natCast, Int.toNat_zero]; exact rfl) | exact rfl) (by omega)) ?_)
      generalize hcc : l.getD k 0 = x at *
      refine ax_regiond (by kernel_rfl) ?_
      refine ax_any_q 0 rfl (by kernel_rfl) (by kernel_rfl) (by kernel_rfl) rfl (q_move rfl) rfl ?_
      refine ax_any_q 1 rfl (by kernel_rfl) (by kernel_rfl) (by kernel_rfl) rfl (q_move rfl) rfl ?_
      refine ax_any_q 2 rfl (by kernel_rfl) (by kernel_rfl) (by kernel_rfl) rfl (q_rem rfl rfl (by omega)) rfl ?_
      refine ax_any_q 3 rfl (by kernel_rfl) (by kernel_rfl) (by kernel_rfl) rfl (q_move rfl) rfl ?_
      refine ax_any_q 4 rfl (by kernel_rfl) (by kernel_rfl) (by kernel_rfl) rfl (q_rem rfl rfl (by omega)) rfl ?_
      refine ax_any_q 5 rfl (by kernel_rfl) (by kernel_rfl) (by kernel_rfl) rfl (q_add rfl rfl (by omega)) rfl ?_
      refine ax_any_q 6 rfl (by kernel_rfl) (by kernel_rfl) (by kernel_rfl) rfl (q_strslice rfl rfl rfl rfl rfl rfl (by show 0 ≤ _ ∧ _ ≤ _ ∧ _ ≤ (13 : Int); omega)) rfl ?_
      refine ax_slot_any 25 (.str [rankL.getD (x % 13).toNat 0]) rfl (AEq.of_eq (congrArg AV.str hc1)) ?_
      refine ax_any_q 7 rfl (by kernel_rfl) (by kernel_rfl) (by kernel_rfl) rfl (q_move rfl) rfl ?_
      refine ax_any_q 8 rfl (by kernel_rfl) (by kernel_rfl) (by kernel_rfl) rfl (q_quo rfl rfl (by omega)) rfl ?_
      refine ax_any_q 9 rfl (by kernel_rfl) (by kernel_rfl) (by kernel_rfl) rfl (q_move rfl) rfl ?_
      refine ax_any_q 10 rfl (by kernel_rfl) (by kernel_rfl) (by kernel_rfl) rfl (q_quo rfl rfl (by omega)) rfl ?_
      refine ax_any_q 11 rfl (by kernel_rfl) (by kernel_rfl) (by kernel_rfl) rfl (q_add rfl rfl (by omega)) rfl ?_
      refine ax_any_q 12 rfl (by kernel_rfl) (by kernel_rfl) (by kernel_rfl) rfl (q_strslice rfl rfl rfl rfl rfl rfl (by show 0 ≤ _ ∧ _ ≤ _ ∧ _ ≤ (4 : Int); omega)) rfl ?_
      refine ax_slot_any 31 (.str [suitL.getD (x / 13).toNat 0]) rfl (AEq.of_eq (congrArg AV.str hc2)) ?_
      refine ax_any_q 13 rfl (by kernel_rfl) (by kernel_rfl) (by kernel_rfl) rfl (q_concat rfl rfl (by simp)) rfl ?_
      refine ax_any_step (is := [14]) (by kernel_rfl) (by simp) rfl ⟨fun o ho => ?_, trivial⟩
      all_goals (cases ho)
      repeat (first
        | refine ax_ops_nil ?_
        | refine ax_post_any ?_
        | refine ax_buildSliceRo rfl rfl rfl rfl rfl rfl rfl rfl rfl rfl rfl ?_)
      refine ax_any_step (is := [15]) (by kernel_rfl) (by simp) rfl ⟨fun o ho => ?_, trivial⟩
      all_goals (cases ho)
      refine ax_append rfl rfl rfl rfl rfl rfl rfl rfl rfl htl rfl rfl (by show 0 + 1 ≤ 1; omega) rfl (by show (k + 1) * 16 ≤ _ ∧ _; omega) (fun i j _ _ => rfl) (by rw [hfix]; exact fun h => h) ?_
      repeat (first
        | refine ax_ops_nil ?_
        | refine ax_post_any ?_)
      refine ax_any_q 16 rfl (by kernel_rfl) (by kernel_rfl) (by kernel_rfl) rfl (q_assign rfl) rfl ?_
      refine ax_any_done (by kernel_rfl) ?_
      repeat (first
        | refine ax_q (q_move rfl) ?_
        | refine ax_ops_nil ?_
        | refine ax_post_code ?_
        | refine ax_region rfl ?_
        | refine ax_post_blk ?_
        | refine ax_q (q_add rfl rfl (by omega)) ?_)
      refine ax_post_inv ⟨k + 1, by omega, by omega, ⟨rfl, rfl, rfl, rfl, trivial⟩, ?_⟩
      rw [hts, List.map_append]
      rfl
    · have hk' : k = l.length := by omega
      subst hk'
      simp only [List.take_length] at *
      repeat (first
        | refine ax_q (q_move rfl) ?_
        | refine ax_post_code ?_
        | refine ax_seq ?_
        | refine ax_region rfl ?_
        | refine ax_exit ?_
        | refine ax_exit_here ?_
        | refine ax_exit_code ?_
        | refine ax_exit_inv ?_)
      have hj := join (l.map cardT) [32] (by simp; omega) (by have := textF_len l; unfold textF at this; omega)
      rw [List.length_map] at hj
      refine ax_calll rfl rfl rfl rfl hj (fun h o ho => refl1 refless_strs h o ho) (by simp [inBs, inB, Cells.len]) rfl rfl rfl ?_
      repeat (first
        | refine ax_q (q_assign rfl) ?_
        | refine ax_ops_nil ?_
        | refine ax_post_code ?_
        | refine ax_return ?_)
      exact ax_ret hR rfl ⟨rfl, rfl⟩
  · rintro r H ⟨rfl, rfl⟩
    exact ⟨rfl, ⟨trivial, trivial, trivial⟩, fun h o ho => refl1 refless_strs h o ho⟩

/-- What Read hands back. -/
def ReadR (s : List UInt8) (r : AV) (H : AHeap) : Prop :=
  (readE s ≠ 0 ∧ r = .tup [.nil, .int .i64 (readE s)] ∧ ∀ (h : Nat) (o : AObj), H[h]? = some (some o) → refless o.c) ∨
  (readE s = 0 ∧ ∃ out, readO s = some out ∧ ((s ≠ [] ∧ r = .tup [.sl 0 0 out.length, .int .i64 0] ∧ H = [some ⟨3, .ints .i64 out⟩]) ∨ (s = [] ∧ r = .tup [.nil, .int .i64 0] ∧ H = [])))
theorem Read_walk (s : List UInt8) (hs : s.length ≤ 9223372036854775807) : ACall Tryd.prog 23 [.str s] [] (fun _ => False) (ReadR s) := by
  refine acall_of_ax (P := Tryd.prog) (fn := Tryd.f23) rfl rfl (by kernel_rfl) rfl (fun c hR hfix => ?_)
  have hnone : ∀ (h : Nat) (o : AObj), ([] : AHeap)[h]? = some (some o) → refless o.c := fun h o ho => by simp at ho
  repeat (first
    | refine ax_q (q_move rfl) ?_
    | refine ax_q (q_assign rfl) ?_
    | refine ax_ops_nil ?_
    | refine ax_post_code ?_
    | refine ax_seq ?_
    | refine ax_region rfl ?_
    | refine ax_q (q_gtr rfl rfl) ?_
    | refine ax_q (q_lenstr rfl rfl) ?_)
  refine ax_cond_dec rfl (fun h => ?_) (fun h => ?_)
  · repeat (first
      | refine ax_q (q_assign rfl) ?_
      | refine ax_ops_nil ?_
      | refine ax_post_code ?_
      | refine ax_seq ?_
      | refine ax_region rfl ?_
      | refine ax_return ?_
      | refine ax_ret_code ?_)
    have h' : 8192 < s.length := by omega
    have he : readE s = 2 := if_pos h'
    refine ax_ret hR rfl (.inl ⟨by omega, ?_, hnone⟩)
    rw [he]; try rfl
  have hs2 : ¬ 8192 < s.length := by omega
  have hE : readE s = match readO s with
    | none => 5
    | some out => deckF out := by unfold readE; rw [if_neg hs2]; try (cases readO s <;> rfl)
  repeat (first
    | refine ax_q (q_move rfl) ?_
    | refine ax_q (q_assign rfl) ?_
    | refine ax_ops_nil ?_
    | refine ax_post_code ?_
    | refine ax_seq ?_
    | refine ax_region rfl ?_
    | refine ax_skip ?_
    | refine ax_q (q_strneq rfl rfl) ?_)
  refine ax_cond_dec rfl (fun h0 => ?_) (fun h0 => ?_)
  rotate_left
  · have hs0 : s = [] := by
      by_cases hq : s = []
      · exact hq
      · exact absurd hq h0
    subst hs0
    have h5 : readE [] = 0 := by rw [hE]; rfl
    repeat (first
      | refine ax_q (q_move rfl) ?_
      | refine ax_post_code ?_
      | refine ax_seq ?_
      | refine ax_region rfl ?_
      | refine ax_skip ?_)
    refine ax_slot_ops 45 (.ro (.ints .i64 []) 0 0) rfl AEq.nil ?_
    refine ax_callv rfl rfl rfl (check [] (by simp)) ?_
    repeat (first
      | refine ax_q (q_move rfl) ?_
      | refine ax_q (q_assign rfl) ?_
      | refine ax_ops_nil ?_
      | refine ax_post_code ?_
      | refine ax_seq ?_
      | refine ax_region rfl ?_
      | refine ax_cond_false rfl ?_
      | refine ax_skip ?_
      | refine ax_return ?_
      | refine ax_q (q_neq rfl rfl) ?_)
    exact ax_ret hR rfl (.inr ⟨h5, [], rfl, .inr ⟨rfl, rfl, rfl⟩⟩)
  have hs0 : s ≠ [] := h0
  have hO : readO s = readGo [] (splitF 32 s) := by unfold readO; rw [if_neg hs0]
  refine ax_nilobj 4 ⟨3, .ints .i64 []⟩ rfl rfl ?_
  repeat (first
    | refine ax_q (q_move rfl) ?_
    | refine ax_seq ?_
    | refine ax_region rfl ?_)
  refine ax_callv rfl rfl rfl (split1 s 32 (by omega)) ?_
  have hwl := splitF_length 32 s
  have hcl := List.count_le_length (a := 32) (l := s)
  generalize splitF 32 s = ws at *
  repeat (first
    | refine ax_q (q_move rfl) ?_
    | refine ax_ops_nil ?_
    | refine ax_post_code ?_
    | refine ax_block ?_
    | refine ax_q (q_len rfl rfl rfl) ?_)
  refine ax_loop (ι := Nat × List Int) (fun x => [(4, .sl 0 0 x.2.length), (16, .ro (.strs ws) 0 ws.length), (17, .int .i64 (ws.length : Nat)), (18, .int .i64 (x.1 : Nat))]) (fun x => [some ⟨3, .ints .i64 x.2⟩])
    (fun x => x.1 ≤ ws.length ∧ x.2.length = x.1 ∧ readGo [] ws = readGo x.2 (ws.drop x.1)) (fun x => ws.length - x.1) (0, []) ⟨⟨rfl, rfl, rfl, rfl, trivial⟩, rfl, Nat.zero_le _, rfl, rfl⟩ ?_
  rintro ⟨k, out⟩ ⟨hk, hol, hgo⟩
  simp only at *
  have href : ∀ (h : Nat) (o : AObj), ([some ⟨3, .ints .i64 out⟩] : AHeap)[h]? = some (some o) → refless o.c := fun h o ho => refl1 refless_ints h o ho
  repeat (first
    | refine ax_ops_nil ?_
    | refine ax_post_code ?_
    | refine ax_seq ?_
    | refine ax_region rfl ?_
    | refine ax_q (q_lss rfl rfl) ?_)
  refine ax_cond_dec rfl (fun h1 => ?_) (fun h1 => ?_)
  · have hk' : k < ws.length := by omega
    rw [drop_getD ws [] k hk'] at hgo
    generalize hw : ws.getD k [] = x at *
    repeat (first
      | refine ax_q (q_move rfl) ?_
      | refine ax_q (q_assign rfl) ?_
      | refine ax_ops_nil ?_
      | refine ax_post_code ?_
      | refine ax_seq ?_
      | refine ax_region rfl ?_
      | refine ax_block ?_
      | refine ax_skip ?_
      | refine ax_q (q_loads_rp rfl rfl rfl) ?_
      | refine ax_q (q_neq rfl rfl) ?_
      | refine ax_q (q_lenstr rfl rfl) ?_
      | refine ax_q (q_index_ro' rfl rfl rfl rfl (by first | (simp only [Nat.zero_add, Int.toNat_natCast, Int.toNat_zero]; exact rfl) | exact rfl) (by omega)) ?_)
    rw [hw]
    refine ax_cond_dec rfl (fun h2 => ?_) (fun h2 => ?_)
    · have h3 : wordF x = none := by unfold wordF; rw [if_pos (by omega)]
      have he : readE s = 5 := by rw [hE, hO, hgo, readGo, h3]
      repeat (first
        | refine ax_q (q_assign rfl) ?_
        | refine ax_ops_nil ?_
        | refine ax_post_code ?_
        | refine ax_seq ?_
        | refine ax_region rfl ?_
        | refine ax_return ?_
        | refine ax_ret_code ?_
        | refine ax_ret_blk ?_
        | refine ax_ret_inv ?_)
      refine ax_ret hR rfl (.inl ⟨by omega, by rw [he]; rfl, href⟩)
    · have hx2 : x.length = 2 := by omega
      have hrl := Lib.indexByte_ge rankL (x.getD 0 0)
      have hsl := Lib.indexByte_ge suitL (x.getD 1 0)
      have hrl2 : Lib.indexByte rankL (x.getD 0 0) < 13 := indexByte_lt rankL _
      have hsl2 : Lib.indexByte suitL (x.getD 1 0) < 4 := indexByte_lt suitL _
      repeat (first
        | refine ax_post_code ?_
        | refine ax_seq ?_
        | refine ax_skip ?_)
      have hi1 := indexByteS rankL (x.getD 0 0).toNat
      rw [show (((x.getD 0 0).toNat : Nat) : Int).toNat.toUInt8 = x.getD 0 0 by simp] at hi1
      have hi2 := indexByteS suitL (x.getD 1 0).toNat
      rw [show (((x.getD 1 0).toNat : Nat) : Int).toNat.toUInt8 = x.getD 1 0 by simp] at hi2
      have hwf : wordF x = if Lib.indexByte rankL (x.getD 0 0) < 0 ∨ Lib.indexByte suitL (x.getD 1 0) < 0 then none else some (13 * Lib.indexByte suitL (x.getD 1 0) + Lib.indexByte rankL (x.getD 0 0)) := by unfold wordF; rw [if_neg (by omega)]
      refine ax_regiond (by kernel_rfl) ?_
      refine ax_any_q 0 rfl (by kernel_rfl) (by kernel_rfl) (by kernel_rfl) rfl (q_move rfl) rfl ?_
      refine ax_any_q 1 rfl (by kernel_rfl) (by kernel_rfl) (by kernel_rfl) rfl (q_stridx rfl rfl rfl (by first | assumption | omega | simp)) rfl ?_
      refine ax_any_q 3 rfl (by kernel_rfl) (by kernel_rfl) (by kernel_rfl) rfl (q_move rfl) rfl ?_
      refine ax_any_q 4 rfl (by kernel_rfl) (by kernel_rfl) (by kernel_rfl) rfl (q_stridx rfl rfl rfl (by first | assumption | omega | simp)) rfl ?_
      refine ax_any_step (is := [2]) (by kernel_rfl) (by simp) rfl ⟨fun o ho => ?_, trivial⟩
      all_goals (cases ho)
      refine ax_callv rfl rfl rfl hi1 ?_
      repeat (first
        | refine ax_ops_nil ?_
        | refine ax_post_any ?_)
      refine ax_any_step (is := [5]) (by kernel_rfl) (by simp) rfl ⟨fun o ho => ?_, trivial⟩
      all_goals (cases ho)
      refine ax_callv rfl rfl rfl hi2 ?_
      repeat (first
        | refine ax_ops_nil ?_
        | refine ax_post_any ?_)
      refine ax_any_q 6 rfl (by kernel_rfl) (by kernel_rfl) (by kernel_rfl) rfl (q_assign rfl) rfl ?_
      refine ax_any_q 7 rfl (by kernel_rfl) (by kernel_rfl) (by kernel_rfl) rfl (q_assign rfl) rfl ?_
      refine ax_any_done (by kernel_rfl) ?_
      generalize Lib.indexByte rankL (x.getD 0 0) = a at *
      generalize Lib.indexByte suitL (x.getD 1 0) = b at *
      repeat (first
        | refine ax_q (q_move rfl) ?_
        | refine ax_post_code ?_
        | refine ax_seq ?_
        | refine ax_region rfl ?_
        | refine ax_q (q_lss rfl rfl) ?_)
      refine ax_gsplit rfl rfl (fun h3 => ?_) (fun h3 => ?_)
      · have h3 : wordF x = none := by rw [hwf, if_pos (.inl h3)]
        have he : readE s = 5 := by rw [hE, hO, hgo, readGo, h3]
        repeat (first
          | refine ax_q (q_assign rfl) ?_
          | refine ax_ops_nil ?_
          | refine ax_post_code ?_
          | refine ax_seq ?_
          | refine ax_region rfl ?_
          | refine ax_guard_not rfl rfl rfl ?_
          | refine ax_cond_true rfl ?_
          | refine ax_return ?_
          | refine ax_ret_code ?_
          | refine ax_ret_blk ?_
          | refine ax_ret_inv ?_
          | refine ax_q (q_pick rfl rfl) ?_)
        refine ax_ret hR rfl (.inl ⟨by omega, by rw [he]; rfl, href⟩)
      · repeat (first
          | refine ax_q (q_move rfl) ?_
          | refine ax_ops_nil ?_
          | refine ax_post_code ?_
          | refine ax_guard rfl rfl ?_
          | refine ax_q (q_lss rfl rfl) ?_
          | refine ax_q (q_pick rfl rfl) ?_)
        refine ax_cond_dec rfl (fun h4 => ?_) (fun h4 => ?_)
        · have h3 : wordF x = none := by rw [hwf, if_pos (.inr h4)]
          have he : readE s = 5 := by rw [hE, hO, hgo, readGo, h3]
          repeat (first
            | refine ax_q (q_assign rfl) ?_
            | refine ax_ops_nil ?_
            | refine ax_post_code ?_
            | refine ax_seq ?_
            | refine ax_region rfl ?_
            | refine ax_return ?_
            | refine ax_ret_code ?_
            | refine ax_ret_blk ?_
            | refine ax_ret_inv ?_)
          refine ax_ret hR rfl (.inl ⟨by omega, by rw [he]; rfl, href⟩)
        · have h5 : wordF x = some (13 * b + a) := by rw [hwf, if_neg (by omega)]
          rw [readGo, h5] at hgo
          simp only at hgo
          repeat (first
            | refine ax_q (q_move rfl) ?_
            | refine ax_post_code ?_
            | refine ax_region rfl ?_
            | refine ax_skip ?_)
          refine ax_q (q_mul rfl rfl (by omega)) ?_
          repeat (first
            | refine ax_q (q_move rfl) ?_
            | refine ax_q (q_add rfl rfl (by omega)) ?_
            | refine ax_buildSliceRo rfl rfl rfl rfl rfl rfl rfl rfl rfl rfl rfl ?_)
          refine ax_append rfl rfl rfl rfl rfl rfl rfl rfl rfl rfl rfl rfl (by show 0 + 1 ≤ 1; omega) rfl (by show (out.length + 1) * 8 ≤ _ ∧ _; omega) (fun i j _ _ => rfl) (by rw [hfix]; exact fun h => h) ?_
          repeat (first
            | refine ax_q (q_move rfl) ?_
            | refine ax_q (q_assign rfl) ?_
            | refine ax_ops_nil ?_
            | refine ax_post_code ?_
            | refine ax_region rfl ?_
            | refine ax_post_blk ?_
            | refine ax_q (q_add rfl rfl (by omega)) ?_)
          exact ax_post_inv ⟨(k + 1, out ++ [13 * b + a]), ⟨by simp only; omega, by simp [hol], hgo⟩, by simp only; omega, ⟨by simp only [List.length_append, List.length_cons, List.length_nil]; rfl, rfl, rfl, rfl, trivial⟩, rfl⟩
  · have hk' : k = ws.length := by omega
    subst hk'
    rw [List.drop_length, readGo] at hgo
    have hE2 : readE s = deckF out := by rw [hE, hO, hgo]
    repeat (first
      | refine ax_q (q_move rfl) ?_
      | refine ax_post_code ?_
      | refine ax_seq ?_
      | refine ax_region rfl ?_
      | refine ax_exit ?_
      | refine ax_exit_here ?_
      | refine ax_exit_code ?_
      | refine ax_exit_inv ?_)
    refine ax_calll rfl rfl rfl rfl (check out (by omega)) href (by simp [inBs, inB, Cells.len]) rfl rfl rfl ?_
    repeat (first
      | refine ax_q (q_move rfl) ?_
      | refine ax_q (q_assign rfl) ?_
      | refine ax_ops_nil ?_
      | refine ax_post_code ?_
      | refine ax_seq ?_
      | refine ax_region rfl ?_
      | refine ax_q (q_neq rfl rfl) ?_)
    refine ax_cond_dec rfl (fun h3 => ?_) (fun h3 => ?_)
    · repeat (first
        | refine ax_q (q_move rfl) ?_
        | refine ax_q (q_assign rfl) ?_
        | refine ax_ops_nil ?_
        | refine ax_post_code ?_
        | refine ax_seq ?_
        | refine ax_region rfl ?_
        | refine ax_return ?_
        | refine ax_ret_code ?_)
      exact ax_ret hR rfl (.inl ⟨by omega, by rw [hE2]; rfl, href⟩)
    · repeat (first
        | refine ax_q (q_move rfl) ?_
        | refine ax_q (q_assign rfl) ?_
        | refine ax_ops_nil ?_
        | refine ax_post_code ?_
        | refine ax_seq ?_
        | refine ax_region rfl ?_
        | refine ax_skip ?_
        | refine ax_return ?_)
      exact ax_ret hR rfl (.inr ⟨by omega, out, by rw [hO, hgo], .inl ⟨hs0, rfl, rfl⟩⟩)
theorem Read_no (s : List UInt8) (hs : s.length ≤ 9223372036854775807) {e : Int} (he : readE s = e) (h : e ≠ 0) : VCall Tryd.prog 23 [.str s] (.tup [.nil, .int .i64 e]) := by
  refine ACall.value (Read_walk s hs) (fun _ h => h) rfl ?_
  rintro r H (⟨h1, rfl, h3⟩ | ⟨h1, _⟩)
  · rw [he]
    exact ⟨rfl, ⟨trivial, trivial, trivial⟩, h3⟩
  · omega
theorem Read_ok (s : List UInt8) (hs : s.length ≤ 9223372036854775807) (he : readE s = 0) {out : List Int} (ho : readO s = some out) : VCall Tryd.prog 23 [.str s] (.tup [.ro (.ints .i64 out) 0 out.length, .int .i64 0]) := by
  by_cases h0 : s = []
  · subst h0
    cases ho
    refine VCall.res (r := .tup [.nil, .int .i64 0]) ?_ (AEq.tup2 AEq.nil)
    refine ACall.value (Read_walk [] hs) (fun _ h => h) rfl ?_
    rintro r H (⟨h1, _⟩ | ⟨h1, out', h2, h3 | h3⟩)
    · exact absurd he h1
    · exact absurd rfl h3.1
    · obtain ⟨_, rfl, rfl⟩ := h3
      exact ⟨rfl, ⟨trivial, trivial, trivial⟩, fun h o ho => by simp at ho⟩
  · refine ACall.value (Read_walk s hs) (fun _ h => h) rfl ?_
    rintro r H (⟨h1, _⟩ | ⟨h1, out', h2, h3 | h3⟩)
    · exact absurd he h1
    · obtain ⟨_, rfl, rfl⟩ := h3
      rw [ho] at h2
      cases h2
      refine ⟨rfl, ⟨?_, trivial, trivial⟩, fun h o ho => refl1 refless_ints h o ho⟩
      intro o ho; simp at ho; subst ho; show 0 + out.length ≤ out.length; omega
    · exact absurd h3.1 h0
end Go.Proofs.YtmfhdfofmdggaaaDoor

namespace Go.Proofs.YtmfhdfofmdggaaaDoor
open Go.Ax Go.Ax.Idx Go.Ax.Cd
attribute [local irreducible] Ax Post QOp ACall
set_option maxRecDepth 100000
set_option maxHeartbeats 4000000

def pickF (a n : Int) : Int := IntKind.u64.wrap a % n
theorem pickF_bd (a n : Int) (hn : 0 < n) : 0 ≤ pickF a n ∧ pickF a n < n := ⟨Int.emod_nonneg _ (by omega), Int.emod_lt_of_pos _ hn⟩
theorem pick (a n : Int) (hn : 0 < n ∧ n ≤ 1000000) : VCall Tryd.prog 15 [.int .i64 a, .int .i64 n] (.int .i64 (pickF a n)) := by
  refine ACall.value0 (acall_of_ax (P := Tryd.prog) (fn := Tryd.f15) rfl rfl (by kernel_rfl) rfl (fun c hR hfix => ?_)) (fix := fun _ => False) (fun _ h => h) rfl rfl
  have hw : 0 ≤ IntKind.u64.wrap a := by rw [IntKind.wrap_u64]; omega
  have hwn : IntKind.u64.wrap n = n := by rw [IntKind.wrap_u64]; omega
  have hb := pickF_bd a n hn.1
  repeat (first
    | refine ax_q (q_move rfl) ?_
    | refine ax_q (q_assign rfl) ?_
    | refine ax_ops_nil ?_
    | refine ax_post_code ?_
    | refine ax_seq ?_
    | refine ax_region rfl ?_)
  refine ax_q (q_conv (k' := .u64) rfl rfl rfl) ?_
  repeat (refine ax_q (q_move rfl) ?_)
  refine ax_q (q_conv (k' := .u64) rfl rfl rfl) ?_
  rw [hwn]
  generalize hz : IntKind.u64.wrap a = z at *
  have hpf : pickF a n = z % n := by unfold pickF; rw [hz]
  refine ax_q (q_rem rfl rfl (by omega)) ?_
  rw [← hpf]
  refine ax_q (q_conv64 rfl rfl rfl (by omega)) ?_
  repeat (first
    | refine ax_q (q_assign rfl) ?_
    | refine ax_ops_nil ?_
    | refine ax_post_code ?_
    | refine ax_return ?_)
  exact ax_ret hR rfl rfl

theorem f_fresh : VCall Tryd.prog 16 [.int .i64 3] (.tup [.ro (.ints .i64 [0, 1, 2]) 0 3, .int .i64 0]) := Fresh_ok 3 (by decide)
theorem f_shuf : VCall Tryd.prog 11 [.ro (.ints .i64 [0, 1, 2]) 0 3, .ro (.ints .i64 [0, 0]) 0 2] (.tup [.ro (.ints .i64 [1, 2, 0]) 0 3, .int .i64 0]) := by
  have := Shuffle_ok [0, 1, 2] [0, 0] (by decide) (by decide)
  rwa [show shufF [0, 1, 2] [0, 0] = [1, 2, 0] by decide] at this
theorem f_draws : VCall Tryd.prog 12 [.ro (.ints .i64 [0, 1, 2]) 0 3, .ro (.ints .i64 [1, 2, 0]) 0 3] (.tup [.ro (.ints .i64 [0, 0]) 0 2, .int .i64 0]) := by
  have := Draws_ok [0, 1, 2] [1, 2, 0] (by decide) (by decide) (by decide)
  rwa [show drawsF [0, 1, 2] [1, 2, 0] = [0, 0] by decide] at this
theorem f_cut : VCall Tryd.prog 20 [.ro (.ints .i64 [4, 5, 6]) 0 3, .int .i64 1] (.tup [.ro (.ints .i64 [5, 6, 4]) 0 3, .int .i64 0]) := by
  have := Cut_ok [4, 5, 6] 1 (by decide) (by decide) (by decide)
  rwa [show cutF [4, 5, 6] 1 = [5, 6, 4] by decide] at this
theorem f_deal : VCall Tryd.prog 21 [.ro (.ints .i64 [5, 6, 7]) 0 3, .int .i64 2, .int .i64 1] (.tup [.ro (rowsI [[5], [6]]) 0 2, .ro (.ints .i64 [7]) 0 1, .int .i64 0]) := by
  have := Deal_ok [5, 6, 7] 2 1 (by decide) (by decide) (by decide) (by decide) (by decide)
  rwa [show dealGo 2 [5, 6, 7] (2 * 1) = [[5], [6]] by decide] at this
theorem f_text : VCall Tryd.prog 22 [.ro (.ints .i64 [0, 51]) 0 2] (.tup [.str [50, 67, 32, 65, 83], .int .i64 0]) := by
  have := Text_ok [0, 51] (by decide)
  rwa [show textF [0, 51] = [50, 67, 32, 65, 83] by decide] at this
theorem f_read : VCall Tryd.prog 23 [.str [50, 67, 32, 65, 83]] (.tup [.ro (.ints .i64 [0, 51]) 0 2, .int .i64 0]) := Read_ok [50, 67, 32, 65, 83] (by decide) (by decide) (by decide)
theorem f_fine7 : VCall Tryd.prog 13 [.ro (.ints .i64 [0, 0, 0, 0, 0, 0, 0]) 0 7] (.bool true) := fineI [0, 0, 0, 0, 0, 0, 0] (by decide)
theorem f_eq (l : List Int) (h : l.length ≤ 1000) : VCall Tryd.prog 14 [.ro (.ints .i64 l) 0 l.length, .ro (.ints .i64 l) 0 l.length] (.bool true) := by
  have := equalI l l (by omega) (by omega)
  rwa [decide_eq_true rfl] at this
theorem f_check : VCall Tryd.prog 19 [.ro (.ints .i64 [1, 1]) 0 2] (.int .i64 7) := check [1, 1] (by decide)
theorem f_fits : VCall Tryd.prog 26 [.int .i64 2, .nil] (.int .i64 3) := VCall.args (fits 2 [] (by decide)) ⟨AEq.rfl', AEq.nil, trivial⟩

theorem cardsFact : VCall Tryd.prog 10 [] (.bool true) := by
  refine ACall.value0 (acall_of_ax (P := Tryd.prog) (fn := Tryd.f10) rfl rfl (by kernel_rfl) rfl (fun c hR hfix => ?_)) (fix := fun _ => False) (fun _ h => h) rfl rfl
  repeat (first
    | refine ax_q (q_assign rfl) ?_
    | refine ax_ops_nil ?_
    | refine ax_post_code ?_
    | refine ax_seq ?_
    | refine ax_region rfl ?_)
  refine ax_callv rfl rfl rfl f_fresh ?_
  repeat (first
    | refine ax_q (q_move rfl) ?_
    | refine ax_q (q_assign rfl) ?_
    | refine ax_ops_nil ?_
    | refine ax_post_code ?_
    | refine ax_seq ?_
    | refine ax_region rfl ?_
    | refine ax_q (q_extract rfl rfl) ?_
    | refine ax_buildSliceRo rfl rfl rfl rfl rfl rfl rfl rfl rfl rfl rfl ?_)
  refine ax_callv rfl rfl rfl f_shuf ?_
  repeat (first
    | refine ax_q (q_move rfl) ?_
    | refine ax_q (q_assign rfl) ?_
    | refine ax_ops_nil ?_
    | refine ax_post_code ?_
    | refine ax_seq ?_
    | refine ax_region rfl ?_
    | refine ax_q (q_extract rfl rfl) ?_
    | refine ax_buildSliceRo rfl rfl rfl rfl rfl rfl rfl rfl rfl rfl rfl ?_)
  refine ax_callv rfl rfl rfl f_draws ?_
  repeat (first
    | refine ax_q (q_move rfl) ?_
    | refine ax_q (q_assign rfl) ?_
    | refine ax_ops_nil ?_
    | refine ax_post_code ?_
    | refine ax_seq ?_
    | refine ax_region rfl ?_
    | refine ax_q (q_extract rfl rfl) ?_
    | refine ax_buildSliceRo rfl rfl rfl rfl rfl rfl rfl rfl rfl rfl rfl ?_)
  refine ax_callv rfl rfl rfl f_cut ?_
  repeat (first
    | refine ax_q (q_move rfl) ?_
    | refine ax_q (q_assign rfl) ?_
    | refine ax_ops_nil ?_
    | refine ax_post_code ?_
    | refine ax_seq ?_
    | refine ax_region rfl ?_
    | refine ax_q (q_extract rfl rfl) ?_
    | refine ax_buildSliceRo rfl rfl rfl rfl rfl rfl rfl rfl rfl rfl rfl ?_)
  refine ax_callv rfl rfl rfl f_deal ?_
  repeat (first
    | refine ax_q (q_move rfl) ?_
    | refine ax_q (q_assign rfl) ?_
    | refine ax_ops_nil ?_
    | refine ax_post_code ?_
    | refine ax_seq ?_
    | refine ax_region rfl ?_
    | refine ax_q (q_extract rfl rfl) ?_
    | refine ax_buildSliceRo rfl rfl rfl rfl rfl rfl rfl rfl rfl rfl rfl ?_)
  refine ax_callv rfl rfl rfl f_text ?_
  repeat (first
    | refine ax_q (q_move rfl) ?_
    | refine ax_q (q_assign rfl) ?_
    | refine ax_ops_nil ?_
    | refine ax_post_code ?_
    | refine ax_seq ?_
    | refine ax_region rfl ?_
    | refine ax_q (q_extract rfl rfl) ?_)
  refine ax_callv rfl rfl rfl f_read ?_
  repeat (first
    | refine ax_q (q_move rfl) ?_
    | refine ax_q (q_assign rfl) ?_
    | refine ax_ops_nil ?_
    | refine ax_post_code ?_
    | refine ax_seq ?_
    | refine ax_region rfl ?_
    | refine ax_q (q_extract rfl rfl) ?_
    | refine ax_buildSliceRo rfl rfl rfl rfl rfl rfl rfl rfl rfl rfl rfl ?_)
  refine ax_callv rfl rfl rfl f_fine7 ?_
  repeat (first
    | refine ax_q (q_move rfl) ?_
    | refine ax_guard rfl rfl ?_
    | refine ax_buildSliceRo rfl rfl rfl rfl rfl rfl rfl rfl rfl rfl rfl ?_)
  refine ax_callv rfl rfl rfl (f_eq [0, 1, 2] (by decide)) ?_
  repeat (first
    | refine ax_q (q_move rfl) ?_
    | refine ax_guard rfl rfl ?_
    | refine ax_q (q_pick rfl rfl) ?_
    | refine ax_buildSliceRo rfl rfl rfl rfl rfl rfl rfl rfl rfl rfl rfl ?_)
  refine ax_callv rfl rfl rfl (f_eq [1, 2, 0] (by decide)) ?_
  repeat (first
    | refine ax_q (q_move rfl) ?_
    | refine ax_guard rfl rfl ?_
    | refine ax_q (q_pick rfl rfl) ?_
    | refine ax_buildSliceRo rfl rfl rfl rfl rfl rfl rfl rfl rfl rfl rfl ?_)
  refine ax_callv rfl rfl rfl (f_eq [0, 0] (by decide)) ?_
  repeat (first
    | refine ax_q (q_move rfl) ?_
    | refine ax_guard rfl rfl ?_
    | refine ax_q (q_pick rfl rfl) ?_
    | refine ax_buildSliceRo rfl rfl rfl rfl rfl rfl rfl rfl rfl rfl rfl ?_)
  refine ax_callv rfl rfl rfl (f_eq [5, 6, 4] (by decide)) ?_
  repeat (first
    | refine ax_q (q_move rfl) ?_
    | refine ax_guard rfl rfl ?_
    | refine ax_q (q_loadf_rp rfl rfl rfl rfl) ?_
    | refine ax_q (q_eql rfl rfl) ?_
    | refine ax_q (q_pick rfl rfl) ?_
    | refine ax_q (q_len rfl rfl rfl) ?_
    | refine ax_q (q_index_ro' rfl rfl rfl rfl (by first | (simp only [Nat.zero_add, Int.toNat_natCast, Int.toNat_zero]; exact rfl) | exact rfl) (by omega)) ?_
    | refine ax_buildSliceRo rfl rfl rfl rfl rfl rfl rfl rfl rfl rfl rfl ?_)
  refine ax_callv rfl rfl rfl (f_eq [6] (by decide)) ?_
  repeat (first
    | refine ax_q (q_move rfl) ?_
    | refine ax_guard rfl rfl ?_
    | refine ax_q (q_pick rfl rfl) ?_
    | refine ax_buildSliceRo rfl rfl rfl rfl rfl rfl rfl rfl rfl rfl rfl ?_)
  refine ax_callv rfl rfl rfl (f_eq [7] (by decide)) ?_
  repeat (first
    | refine ax_q (q_move rfl) ?_
    | refine ax_guard rfl rfl ?_
    | refine ax_q (q_pick rfl rfl) ?_
    | refine ax_q (q_streql rfl rfl) ?_
    | refine ax_buildSliceRo rfl rfl rfl rfl rfl rfl rfl rfl rfl rfl rfl ?_)
  refine ax_callv rfl rfl rfl (f_eq [0, 51] (by decide)) ?_
  repeat (first
    | refine ax_q (q_move rfl) ?_
    | refine ax_guard rfl rfl ?_
    | refine ax_q (q_pick rfl rfl) ?_
    | refine ax_buildSliceRo rfl rfl rfl rfl rfl rfl rfl rfl rfl rfl rfl ?_)
  refine ax_callv rfl rfl rfl f_check ?_
  repeat (first
    | refine ax_q (q_move rfl) ?_
    | refine ax_guard rfl rfl ?_
    | refine ax_q (q_eql rfl rfl) ?_
    | refine ax_q (q_pick rfl rfl) ?_)
  refine ax_callv rfl rfl rfl f_fits ?_
  repeat (first
    | refine ax_q (q_assign rfl) ?_
    | refine ax_ops_nil ?_
    | refine ax_post_code ?_
    | refine ax_guard rfl rfl ?_
    | refine ax_return ?_
    | refine ax_q (q_eql rfl rfl) ?_
    | refine ax_q (q_pick rfl rfl) ?_)
  exact ax_ret hR rfl rfl
end Go.Proofs.YtmfhdfofmdggaaaDoor

/-
  The laws of decks, in plain Lean: shuffling and its draws. No program in sight.
-/
namespace Go.Ax.Cd
open Go.Ax.Idx

def Inj (l : List Int) : Prop := ∀ i j, i < l.length → j < l.length → l.getD i 0 = l.getD j 0 → i = j
theorem Inj.cons {x : Int} {r : List Int} : Inj (x :: r) ↔ x ∉ r ∧ Inj r := by
  constructor
  · intro h
    refine ⟨fun hx => ?_, fun i j hi hj e => ?_⟩
    · obtain ⟨i, hi, e⟩ := List.getElem_of_mem hx
      have := h 0 (i + 1) (by simp) (by simpa using hi) (by simp [List.getD, hi, e])
      omega
    · have := h (i + 1) (j + 1) (by simpa using hi) (by simpa using hj) (by simpa using e)
      omega
  · rintro ⟨hx, h⟩ i j hi hj e
    cases i with
    | zero => cases j with
      | zero => rfl
      | succ j =>
        exfalso; apply hx
        simp only [List.getD_cons_zero, List.getD_cons_succ] at e
        rw [e]; exact getD_mem 0 (by simpa using hj)
    | succ i => cases j with
      | zero =>
        exfalso; apply hx
        simp only [List.getD_cons_zero, List.getD_cons_succ] at e
        rw [← e]; exact getD_mem 0 (by simpa using hi)
      | succ j =>
        have := h i j (by simpa using hi) (by simpa using hj) (by simpa using e)
        omega
theorem deckGo_iff {seen l : List Int} : deckGo seen l = 0 ↔ (∀ c ∈ l, 0 ≤ c ∧ c < 52) ∧ (∀ c ∈ l, c ∉ seen) ∧ Inj l := by
  induction l generalizing seen with
  | nil => simp [deckGo, Inj]
  | cons x r ih =>
    rw [deckGo, Inj.cons]
    by_cases h1 : x < 0 ∨ 52 ≤ x
    · rw [if_pos h1]
      constructor
      · intro h; omega
      · rintro ⟨h, _⟩; have := h x (by simp); omega
    · rw [if_neg h1]
      by_cases h2 : seen.any (eqp x) = true
      · rw [if_pos h2]
        constructor
        · intro h; omega
        · rintro ⟨_, h, _⟩; exact absurd (any_eqp.1 h2) (h x (by simp))
      · rw [if_neg h2, ih]
        have h3 : x ∉ seen := fun h => h2 (any_eqp.2 h)
        constructor
        · rintro ⟨a, b, c⟩
          refine ⟨fun y hy => ?_, fun y hy => ?_, fun hx => ?_, c⟩
          · rcases List.mem_cons.1 hy with rfl | hy
            · omega
            · exact a y hy
          · rcases List.mem_cons.1 hy with rfl | hy
            · exact h3
            · exact fun hs => b y hy (List.mem_append_left _ hs)
          · exact b x hx (by simp)
        · rintro ⟨a, b, d, e⟩
          refine ⟨fun y hy => a y (by simp [hy]), fun y hy hs => ?_, e⟩
          rcases List.mem_append.1 hs with hs | hs
          · exact b y (by simp [hy]) hs
          · have : y = x := by simpa using hs
            subst this; exact d hy
theorem deckF_iff {l : List Int} : deckF l = 0 ↔ l.length ≤ 52 ∧ (∀ c ∈ l, 0 ≤ c ∧ c < 52) ∧ Inj l := by
  unfold deckF
  by_cases h : 52 < l.length
  · rw [if_pos h]; constructor
    · intro h; omega
    · rintro ⟨h, _⟩; omega
  · rw [if_neg h, deckGo_iff]
    constructor
    · rintro ⟨a, _, c⟩; exact ⟨by omega, a, c⟩
    · rintro ⟨_, a, c⟩; exact ⟨a, fun _ _ h => by simp at h, c⟩
theorem getD_swapF {l : List Int} {i k j : Nat} (hi : i < l.length) (hk : k < l.length) : (swapF l i k).getD j 0 = l.getD (if j = k then i else if j = i then k else j) 0 := by
  unfold swapF
  by_cases h1 : j = k
  · subst h1
    rw [if_pos rfl]; simp [List.getD, hk]
  · have h1' : ¬ k = j := fun e => h1 e.symm
    rw [if_neg h1]
    by_cases h2 : j = i
    · subst h2
      rw [if_pos rfl]; simp [List.getD, h1', hi]
    · have h2' : ¬ i = j := fun e => h2 e.symm
      rw [if_neg h2]; simp [List.getD, List.getElem?_set, h1', h2']
theorem Inj.swap {l : List Int} (h : Inj l) {i k : Nat} (hi : i < l.length) (hk : k < l.length) : Inj (swapF l i k) := by
  intro p q hp hq e
  rw [swapF_length] at hp hq
  rw [getD_swapF hi hk, getD_swapF hi hk] at e
  have := h _ _ (by split <;> (try split) <;> omega) (by split <;> (try split) <;> omega) e
  split at this <;> split at this <;> (try split at this) <;> (try split at this) <;> omega
theorem Inj.idx {l : List Int} (h : Inj l) {d : Nat} (hd : d < l.length) : idxF (eqp (l.getD d 0)) l = d := by
  induction l generalizing d with
  | nil => simp at hd
  | cons x r ih =>
    obtain ⟨hx, hr⟩ := Inj.cons.1 h
    cases d with
    | zero => simp [idxF, eqp]
    | succ d =>
      have hd' : d < r.length := by simpa using hd
      have hm := getD_mem 0 hd' (l := r)
      have hne : ¬ (eqp (r.getD d 0) x = true) := by
        simp only [eqp, decide_eq_true_eq]
        intro e; exact hx (e ▸ hm)
      simp only [List.getD_cons_succ, idxF, if_neg hne]
      rw [ih hr hd', if_neg (by omega)]; omega
/-- What a step of the shuffle may be. -/
def Fit (n j : Nat) (ds : List Int) : Prop := ds.length + j + 1 = n ∧ ∀ i, i < ds.length → 0 ≤ ds.getD i 0 ∧ ds.getD i 0 ≤ n - 1 - (j + i : Nat)
theorem Fit.cons {n j : Nat} {d : Int} {r : List Int} (h : Fit n j (d :: r)) : (0 ≤ d ∧ d ≤ n - 1 - j) ∧ Fit n (j + 1) r ∧ j + 1 < n := by
  obtain ⟨h1, h2⟩ := h
  have h0 := h2 0 (by simp)
  refine ⟨by simpa using h0, ⟨by simp at h1; omega, fun i hi => ?_⟩, by simp at h1; omega⟩
  have := h2 (i + 1) (by simpa using hi)
  simp only [List.getD_cons_succ] at this
  rw [show j + 1 + i = j + (i + 1) by omega]; exact this
theorem shufGo_keeps {l : List Int} {j : Nat} {ds : List Int} (h : Fit l.length j ds) : (Inj l → Inj (shufGo l j ds)) ∧ (∀ c, c ∈ shufGo l j ds ↔ c ∈ l) ∧ ∀ p, l.length - 1 - j < p → p < l.length → (shufGo l j ds).getD p 0 = l.getD p 0 := by
  induction ds generalizing l j with
  | nil => exact ⟨id, fun _ => Iff.rfl, fun _ _ _ => rfl⟩
  | cons d r ih =>
    obtain ⟨h1, h2, h3⟩ := h.cons
    have hi : l.length - 1 - j < l.length := by omega
    have hk : d.toNat < l.length := by omega
    have hl := swapF_length l (l.length - 1 - j) d.toNat
    rw [← hl] at h2
    obtain ⟨a, b, c⟩ := ih h2
    rw [hl] at c
    refine ⟨fun hI => a (hI.swap hi hk), fun x => (b x).trans (mem_swapF hi hk x), fun p hp hp2 => ?_⟩
    rw [shufGo, c p (by omega) hp2, getD_swapF hi hk, if_neg (by omega), if_neg (by omega)]
/-- The draws of a shuffle are read off the two decks. -/
theorem draws_shuf {l : List Int} (hI : Inj l) {j : Nat} {ds : List Int} (h : Fit l.length j ds) : drawsGo (shufGo l j ds) (l.length - 1 - j) l = ds := by
  induction ds generalizing l j with
  | nil =>
    have : l.length - 1 - j = 0 := by have := h.1; simp at this; omega
    rw [this]; rfl
  | cons d r ih =>
    obtain ⟨h1, h2, h3⟩ := h.cons
    have hi : l.length - 1 - j < l.length := by omega
    have hk : d.toNat < l.length := by omega
    have hl := swapF_length l (l.length - 1 - j) d.toNat
    obtain ⟨q, hq⟩ : ∃ q, l.length - 1 - j = q + 1 := ⟨l.length - 1 - j - 1, by omega⟩
    have h2' := h2
    rw [← hl] at h2'
    have hsi := hI.swap hi hk
    have hkeep := (shufGo_keeps h2').2.2 (q + 1) (by rw [hl]; omega) (by rw [hl]; omega)
    have hv : (shufGo (swapF l (l.length - 1 - j) d.toNat) (j + 1) r).getD (q + 1) 0 = l.getD d.toNat 0 := by
      rw [hkeep, hq, getD_swapF (by omega) hk]
      by_cases hz : q + 1 = d.toNat
      · rw [if_pos hz, hz]
      · rw [if_neg hz, if_pos rfl]
    have hrec := ih hsi h2'
    rw [hl, show l.length - 1 - (j + 1) = q by omega] at hrec
    rw [shufGo]
    rw [hq] at hv hrec ⊢
    rw [drawsGo, hv, hI.idx hk]
    rw [show ((d.toNat : Nat) : Int).toNat = d.toNat by omega, hrec, show ((d.toNat : Nat) : Int) = d by omega]
/-- The draws between two decks lead from one to the other. -/
theorem shuf_draws {to : List Int} (hT : Inj to) : ∀ (i : Nat) (now : List Int), Inj now → now.length = to.length → i < to.length → (∀ c ∈ to, c ∈ now) → (∀ p, i < p → p < to.length → now.getD p 0 = to.getD p 0) →
    shufGo now (to.length - 1 - i) (drawsGo to i now) = to ∧ Fit to.length (to.length - 1 - i) (drawsGo to i now) := by
  intro i
  induction i with
  | zero =>
    intro now hN hl hi hm hp
    refine ⟨?_, by simp [drawsGo, Fit]; omega⟩
    have h0 : now.getD 0 0 = to.getD 0 0 := by
      have hmem := hm _ (getD_mem 0 hi)
      obtain ⟨p, hpl, e⟩ := List.getElem_of_mem hmem
      have e' : now.getD p 0 = to.getD 0 0 := by rw [getD_lt 0 hpl, e]
      by_cases hp0 : p = 0
      · subst hp0; exact e'
      · have := hp p (by omega) (by omega)
        have := hT p 0 (by omega) hi (by rw [← this, e'])
        omega
    show now = to
    apply List.ext_getElem hl
    intro p h1 h2
    have : now.getD p 0 = to.getD p 0 := by
      by_cases hp0 : p = 0
      · subst hp0; exact h0
      · exact hp p (by omega) h2
    rwa [getD_lt 0 h1, getD_lt 0 h2] at this
  | succ i ih =>
    intro now hN hl hi hm hp
    have hmem := hm _ (getD_mem 0 hi)
    have hix := idxF_lt hmem
    have hval : now.getD (idxF (eqp (to.getD (i + 1) 0)) now).toNat 0 = to.getD (i + 1) 0 := by
      obtain ⟨p, hpl, e⟩ := List.getElem_of_mem hmem
      have e' : now.getD p 0 = to.getD (i + 1) 0 := by rw [getD_lt 0 hpl, e]
      rw [← e', hN.idx hpl]; simp
    generalize hd : idxF (eqp (to.getD (i + 1) 0)) now = d at *
    have hdi : d.toNat ≤ i + 1 := by
      rcases Nat.lt_or_ge (i + 1) d.toNat with h | h
      · have h1 := hp d.toNat h (by omega)
        have := hT d.toNat (i + 1) (by omega) hi (by rw [← h1, hval])
        omega
      · exact h
    have hk : d.toNat < now.length := by omega
    have hi' : i + 1 < now.length := by omega
    have hs := ih (swapF now (i + 1) d.toNat) (hN.swap hi' hk) (by rw [swapF_length]; exact hl) (by omega) (fun c hc => (mem_swapF hi' hk c).2 (hm c hc)) (fun p h1 h2 => by
      rw [getD_swapF hi' hk]
      by_cases e1 : p = d.toNat
      · have : p = i + 1 := by omega
        rw [if_pos e1, this, ← hval]
        congr 1; omega
      · rw [if_neg e1]
        by_cases e2 : p = i + 1
        · rw [if_pos e2, hval, e2]
        · rw [if_neg e2]; exact hp p (by omega) h2)
    have hn : to.length - 1 - i = to.length - 1 - (i + 1) + 1 := by omega
    rw [hn] at hs
    rw [drawsGo, hd]
    refine ⟨?_, ?_, ?_⟩
    · rw [shufGo, hl, show to.length - 1 - (to.length - 1 - (i + 1)) = i + 1 by omega]
      exact hs.1
    · have := hs.2.1; simp; omega
    · intro j hj
      cases j with
      | zero => simp; omega
      | succ j =>
        have := hs.2.2 j (by simpa using hj)
        simp only [List.getD_cons_succ]
        rw [show to.length - 1 - (i + 1) + (j + 1) = to.length - 1 - (i + 1) + 1 + j by omega]
        exact this
end Go.Ax.Cd
namespace Go.Ax.Cd
open Go.Ax.Idx
theorem fitsGo_iff {n : Int} {j : Nat} {l : List Int} : fitsGo n j l = 0 ↔ ∀ i, i < l.length → 0 ≤ l.getD i 0 ∧ l.getD i 0 ≤ n - 1 - (j + i : Nat) := by
  refine ⟨fitsGo_zero j, fun h => ?_⟩
  induction l generalizing j with
  | nil => rfl
  | cons d r ih =>
    have h0 := h 0 (by simp)
    simp only [List.getD_cons_zero, Nat.add_zero] at h0
    rw [fitsGo, if_neg (by omega)]
    refine ih (fun i hi => ?_)
    have := h (i + 1) (by simpa using hi)
    simp only [List.getD_cons_succ] at this
    rw [show j + 1 + i = j + (i + 1) by omega]; exact this
theorem fitsF_iff {n : Nat} {ds : List Int} (hn : 0 < n) : fitsF n ds = 0 ↔ Fit n 0 ds := by
  unfold fitsF Fit
  have e : (if (1 : Int) > n then 1 else (n : Int)) = n := by rw [if_neg (by omega)]
  rw [e]
  by_cases h : (ds.length : Int) ≠ (n : Int) - 1
  · rw [if_pos h]
    constructor
    · intro h; omega
    · rintro ⟨a, _⟩; omega
  · rw [if_neg h, fitsGo_iff]
    constructor
    · intro a; exact ⟨by omega, a⟩
    · rintro ⟨_, a⟩; exact a
theorem fits0 {ds : List Int} : fitsF 0 ds = 0 ↔ ds = [] := by
  unfold fitsF
  have e : (if (1 : Int) > 0 then (1 : Int) else 0) = 1 := rfl
  rw [e]
  constructor
  · intro h
    by_cases h1 : (ds.length : Int) ≠ 1 - 1
    · rw [if_pos h1] at h; omega
    · exact List.length_eq_zero_iff.mp (by omega)
  · rintro rfl; rfl
/-- What CardsBack asks. -/
theorem cardsBack_plain {l ds : List Int} (hd : deckF l = 0) (hf : fitsF l.length ds = 0) :
    deckF (shufF l ds) = 0 ∧ (∀ c, c ∈ shufF l ds ↔ c ∈ l) ∧ (shufF l ds).length = l.length ∧ drawsF l (shufF l ds) = ds ∧ fitsF l.length (drawsF (shufF l ds) l) = 0 ∧ shufF (shufF l ds) (drawsF (shufF l ds) l) = l := by
  obtain ⟨d1, d2, d3⟩ := deckF_iff.1 hd
  have hlen : (shufF l ds).length = l.length := shufGo_length _ _ _
  rcases Nat.eq_zero_or_pos l.length with h0 | hpos
  · have hl : l = [] := List.length_eq_zero_iff.mp h0
    subst hl
    have : ds = [] := fits0.1 hf
    subst this
    exact ⟨rfl, fun _ => Iff.rfl, rfl, rfl, rfl, rfl⟩
  · have hfit := (fitsF_iff hpos).1 hf
    obtain ⟨k1, k2, k3⟩ := shufGo_keeps hfit
    have hI := k1 d3
    refine ⟨deckF_iff.2 ⟨by rw [hlen]; exact d1, fun c hc => d2 c ((k2 c).1 hc), hI⟩, k2, hlen, ?_, ?_⟩
    · have := draws_shuf d3 hfit
      rwa [Nat.sub_zero] at this
    · have hs := shuf_draws d3 (l.length - 1) (shufF l ds) hI hlen (by omega) (fun c hc => (k2 c).2 hc) (fun p h1 h2 => by omega)
      rw [show l.length - 1 - (l.length - 1) = 0 by omega] at hs
      unfold drawsF
      rw [hlen]
      exact ⟨(fitsF_iff hpos).2 hs.2, hs.1⟩
end Go.Ax.Cd

/-
  The deal among players, in plain Lean. No program in sight.
-/
namespace Go.Ax.Dl
open Go.Ax.Idx Go.Ax.Cd

/-- deal.Seal -/
def sealB (v h : Int) (i : Nat) : Int := IntKind.u64.wrap (xorB .u64 h (andB .u64 (shrB .u64 (IntKind.u64.wrap v) (8 * (i : Int))) 255) * 1099511628211)
def sealW (v : Int) : Nat → Int → Int
  | 0, h => h
  | i + 1, h => sealB v (sealW v i h) i
def sealGo : List Int → Int → Int
  | [], h => h
  | v :: r, h => sealGo r (sealW v 8 h)
def sealF (l : List Int) (salt : Int) : Int := sealGo (salt :: (l.length : Int) :: l) 14695981039346656037
theorem sealGo_snoc (l : List Int) (v h : Int) : sealGo (l ++ [v]) h = sealW v 8 (sealGo l h) := by
  induction l generalizing h with
  | nil => rfl
  | cons x r ih => simp only [List.cons_append, sealGo, ih]

/-- deal.Combine: the sums of the draws. -/
def addF (n : Int) : Nat → List Int → List Int → List Int
  | _, out, [] => out
  | i, out, d :: r => addF n (i + 1) (out.set i ((out.getD i 0 + d) % (n - i))) r
def combF (n : Int) (ls : List (List Int)) : List Int := ls.foldl (addF n 0) (List.replicate ((if 1 > n then 1 else n) - 1).toNat 0)
theorem addF_length (n : Int) (i : Nat) (out d : List Int) : (addF n i out d).length = out.length := by
  induction d generalizing i out with
  | nil => rfl
  | cons x r ih => rw [addF, ih, List.length_set]
theorem addF_append (n : Int) (i : Nat) (out a b : List Int) : addF n i out (a ++ b) = addF n (i + a.length) (addF n i out a) b := by
  induction a generalizing i out with
  | nil => rfl
  | cons x r ih => simp only [List.cons_append, addF, ih, List.length_cons]; rw [show i + 1 + r.length = i + (r.length + 1) by omega]
theorem foldl_addF_length (n : Int) (ls : List (List Int)) (out : List Int) : (ls.foldl (addF n 0) out).length = out.length := by
  induction ls generalizing out with
  | nil => rfl
  | cons l r ih => rw [List.foldl_cons, ih, addF_length]
/-- Every sum is a draw again. -/
def InR (n : Int) (out : List Int) : Prop := ∀ i, i < out.length → 0 ≤ out.getD i 0 ∧ out.getD i 0 ≤ n - 1 - i
theorem addF_in {n : Int} {i : Nat} {out d : List Int} (h : InR n out) (hn : (out.length : Int) + 1 ≤ n) (hl : i + d.length ≤ out.length) : InR n (addF n i out d) := by
  induction d generalizing i out with
  | nil => exact h
  | cons x r ih =>
    simp only [List.length_cons] at hl
    refine ih (out := out.set i ((out.getD i 0 + x) % (n - i))) (fun k hk => ?_) (by simpa using hn) (by simp; omega)
    simp only [List.length_set] at hk
    rw [getD_set (by omega)]
    split
    · rename_i e; subst e
      have h1 := Int.emod_nonneg (out.getD k 0 + x) (show n - (k : Int) ≠ 0 by omega)
      have h2 := Int.emod_lt_of_pos (out.getD k 0 + x) (show 0 < n - (k : Int) by omega)
      omega
    · exact h k hk
/-- A player at the table. -/
structure Pl where
  com : Bool
  op : Bool
  sl : Int
  dr : List Int
def pl0 : Pl := ⟨false, false, 0, []⟩
def plA (p : Pl) : List AV := [.bool p.com, .bool p.op, .int .u64 p.sl, .ro (.ints .i64 p.dr) 0 p.dr.length]
def plsC (ps : List Pl) : Cells := .fn ps.length 4 (fun i j => (plA (ps.getD i pl0)).getD j .any)
theorem plsC_row (ps : List Pl) (i : Nat) : (List.range (plsC ps).sz).map ((plsC ps).at i) = plA (ps.getD i pl0) := rfl
def idxP (q : Pl → Bool) : List Pl → Nat → Int
  | [], _ => -1
  | p :: r, i => if q p then (i : Int) else idxP q r (i + 1)
theorem idxP_ge (q : Pl → Bool) (ps : List Pl) (i : Nat) : decide (0 ≤ idxP q ps i) = ps.any q := by
  induction ps generalizing i with
  | nil => rfl
  | cons p r ih =>
    rw [idxP, List.any_cons]
    split
    · rename_i h; rw [h]; simp
    · rename_i h
      rw [ih]
      simp only [Bool.not_eq_true] at h
      rw [h]; rfl
theorem idxP_drop (q : Pl → Bool) (ps : List Pl) (i : Nat) (h : i < ps.length) : idxP q (ps.drop i) i = if q (ps.getD i pl0) then (i : Int) else idxP q (ps.drop (i + 1)) (i + 1) := by
  rw [List.drop_eq_getElem_cons h, idxP]
  simp [List.getD, h]
theorem pls_set (ps : List Pl) (i : Nat) (q : Pl) (hi : i < ps.length) (i' j' : Nat) : (plA ((ps.set i q).getD i' pl0)).getD j' .any = if i' = i then (plA q).getD j' .any else (plA (ps.getD i' pl0)).getD j' .any := by
  by_cases h : i' = i
  · subst h; rw [if_pos rfl]; simp [List.getD, hi]
  · rw [if_neg h]
    have h' : ¬ i = i' := fun e => h e.symm
    simp [List.getD, h']
end Go.Ax.Dl

namespace Go.Proofs.YtmfhdfofmdggaaaDoor
open Go.Ax Go.Ax.Idx Go.Ax.Cd Go.Ax.Dl
attribute [local irreducible] Ax Post QOp ACall
set_option maxRecDepth 100000
set_option maxHeartbeats 4000000

theorem seal_ (l : List Int) (salt : Int) (hl : l.length ≤ 100000) : VCall Tryd.prog 35 [.ro (.ints .i64 l) 0 l.length, .int .i64 salt] (.int .u64 (sealF l salt)) := by
  have hcon := concat [[salt, (l.length : Int)], l] (show 2 ≤ 1000000 by decide) (by simp [lensum]; omega)
  have hfl : ([[salt, (l.length : Int)], l].flatten : List Int) = salt :: (l.length : Int) :: l := by simp
  rw [hfl] at hcon
  have hsf : sealF l salt = sealGo (salt :: (l.length : Int) :: l) 14695981039346656037 := rfl
  generalize hm : salt :: (l.length : Int) :: l = m at *
  have hml : m.length = l.length + 2 := by rw [← hm]; rfl
  refine ACall.value (K := fun r H => r = .int .u64 (sealF l salt) ∧ H = [some ⟨3, .ints .i64 m⟩]) (acall_of_ax (P := Tryd.prog) (fn := Tryd.f35) rfl rfl (by kernel_rfl) rfl (fun c hR hfix => ?_)) (fix := fun _ => False) (fun _ h => h) rfl ?_
  · repeat (first
      | refine ax_q (q_move rfl) ?_
      | refine ax_q (q_assign rfl) ?_
      | refine ax_ops_nil ?_
      | refine ax_post_code ?_
      | refine ax_seq ?_
      | refine ax_region rfl ?_
      | refine ax_q (q_len rfl rfl rfl) ?_
      | refine ax_buildSliceRo rfl rfl rfl rfl rfl rfl rfl rfl rfl rfl rfl ?_)
    refine ax_slot_ops 14 (.ro (rowsI [[salt, (l.length : Int)], l]) 0 2) rfl (AEq.ro rfl (fun d j hd hj => ?_)) ?_
    · have hj0 : j = 0 := Nat.lt_one_iff.1 hj
      subst hj0
      match d, hd with
      | 0, _ => rfl
      | 1, _ => rfl
    refine ax_callf rfl rfl rfl hcon ?_
    repeat (first
      | refine ax_q (q_move rfl) ?_
      | refine ax_ops_nil ?_
      | refine ax_post_code ?_
      | refine ax_block ?_
      | refine ax_q (q_len rfl rfl rfl) ?_)
    refine ax_loop (ι := Nat) (fun i => [(15, .sl 0 0 m.length), (16, .int .i64 (m.length : Nat)), (17, .int .i64 (i : Nat)), (5, .int .u64 (sealGo (m.take i) 14695981039346656037))]) (fun _ => [some ⟨3, .ints .i64 m⟩])
      (fun i => i ≤ m.length) (fun i => m.length - i) 0 ⟨⟨rfl, rfl, rfl, rfl, trivial⟩, rfl, Nat.zero_le _⟩ ?_
    rintro i hi
    repeat (first
      | refine ax_ops_nil ?_
      | refine ax_post_code ?_
      | refine ax_seq ?_
      | refine ax_region rfl ?_
      | refine ax_q (q_lss rfl rfl) ?_)
    refine ax_cond_dec rfl (fun h1 => ?_) (fun h1 => ?_)
    · have him : i < m.length := by omega
      have htk := take_succ_getD m 0 i him
      have hst : sealGo (m.take (i + 1)) 14695981039346656037 = sealW (m.getD i 0) 8 (sealGo (m.take i) 14695981039346656037) := by rw [htk, sealGo_snoc]
      generalize sealGo (m.take i) 14695981039346656037 = h0 at *
      repeat (first
        | refine ax_q (q_move rfl) ?_
        | refine ax_q (q_assign rfl) ?_
        | refine ax_ops_nil ?_
        | refine ax_post_code ?_
        | refine ax_seq ?_
        | refine ax_region rfl ?_
        | refine ax_block ?_
        | refine ax_skip ?_
        | refine ax_q (q_index_sl' rfl rfl rfl rfl rfl (by first | (simp only [Nat.zero_add, Int.toNat_natCast, Int.toNat_zero]; exact rfl) | exact rfl) (by omega)) ?_
        | refine ax_q (q_loadi_ptr rfl rfl rfl rfl (by first | assumption | omega)) ?_)
      refine ax_loop (ι := Nat) (fun j => [(7, .int .i64 (m.getD i 0)), (15, .sl 0 0 m.length), (16, .int .i64 (m.length : Nat)), (17, .int .i64 (i : Nat)), (21, .int .i64 (j : Nat)), (5, .int .u64 (sealW (m.getD i 0) j h0))]) (fun _ => [some ⟨3, .ints .i64 m⟩])
        (fun j => j ≤ 8) (fun j => 8 - j) 0 ⟨⟨rfl, rfl, rfl, rfl, rfl, rfl, trivial⟩, rfl, Nat.zero_le _⟩ ?_
      rintro j hj
      repeat (first
        | refine ax_ops_nil ?_
        | refine ax_post_code ?_
        | refine ax_seq ?_
        | refine ax_region rfl ?_
        | refine ax_q (q_lss rfl rfl) ?_)
      refine ax_cond_dec rfl (fun h2 => ?_) (fun h2 => ?_)
      · repeat (first
          | refine ax_q (q_move rfl) ?_
          | refine ax_q (q_assign rfl) ?_
          | refine ax_ops_nil ?_
          | refine ax_post_code ?_
          | refine ax_seq ?_
          | refine ax_region rfl ?_
          | refine ax_block ?_
          | refine ax_skip ?_)
        refine ax_q (q_conv rfl rfl rfl) ?_
        repeat (refine ax_q (q_move rfl) ?_)
        refine ax_q (q_mul rfl rfl (by omega)) ?_
        refine ax_q (q_shr rfl rfl (by omega)) ?_
        refine ax_q (q_and rfl rfl) ?_
        refine ax_q (q_xor rfl rfl) ?_
        refine ax_q (q_arith rfl rfl rfl) ?_
        repeat (first
          | refine ax_q (q_move rfl) ?_
          | refine ax_q (q_assign rfl) ?_
          | refine ax_ops_nil ?_
          | refine ax_post_code ?_
          | refine ax_region rfl ?_
          | refine ax_post_blk ?_
          | refine ax_q (q_add rfl rfl (by omega)) ?_)
        exact ax_post_inv ⟨j + 1, by omega, by omega, ⟨rfl, rfl, rfl, rfl, rfl, rfl, trivial⟩, rfl⟩
      · have hj8 : j = 8 := by omega
        subst hj8
        rw [← hst]
        repeat (first
          | refine ax_q (q_move rfl) ?_
          | refine ax_ops_nil ?_
          | refine ax_post_code ?_
          | refine ax_region rfl ?_
          | refine ax_post_blk ?_
          | refine ax_exit ?_
          | refine ax_exit_here ?_
          | refine ax_exit_code ?_
          | refine ax_exit_inv ?_
          | refine ax_q (q_add rfl rfl (by omega)) ?_)
        exact ax_post_inv ⟨i + 1, by omega, by omega, ⟨rfl, rfl, rfl, rfl, trivial⟩, rfl⟩
    · have him : i = m.length := by omega
      subst him
      rw [List.take_length, ← hsf]
      repeat (first
        | refine ax_q (q_move rfl) ?_
        | refine ax_q (q_assign rfl) ?_
        | refine ax_ops_nil ?_
        | refine ax_post_code ?_
        | refine ax_seq ?_
        | refine ax_region rfl ?_
        | refine ax_exit ?_
        | refine ax_exit_here ?_
        | refine ax_exit_code ?_
        | refine ax_exit_inv ?_
        | refine ax_return ?_)
      exact ax_ret hR rfl ⟨rfl, rfl⟩
  · rintro r H ⟨rfl, rfl⟩
    exact ⟨rfl, trivial, refl1 refless_ints⟩
end Go.Proofs.YtmfhdfofmdggaaaDoor

