/-
  More rules: arrays and structs in memory and as values.
-/
import Derived.Test.YtmfhdfofmdggaaaAxMore6
import Derived.Laws.CopyRow
set_option linter.unusedVariables false
set_option linter.unusedSimpArgs false
namespace Go.Ax
open Go.RowKit

section
variable {ind : Bool} {P : Program} {fn : Func} {c : Ctx} {fr : Fr} {H : AHeap} {k : List It}
variable {d : Option Nat} {ty : TypeId} {pos : String} {after : Array Edge} {g : Option (Nat × Bool)}

/-- The address of an array's element (of one cell). -/
theorem q_idxarr_ptr {x ix : Operand} {t e : TypeId} {n h i j jx : Nat} {kk : IntKind} {m : Int} (ht : P.underlying t = some (.array n e)) (hs : (P.info? e).map (·.size) = some 1) (hx : ev fr x = some (.ptr h i j)) (hi : ev fr ix = some (.int kk m)) (hj : j + m.toNat = jx) (hb : 0 ≤ m ∧ m < n) :
    QOp ind P fn c fr H ⟨d, .indexAddr t x ix, ty, pos, after, g⟩ (.ptr h i jx) := by
  intro w a σ S hr
  have h1 := hr.evAt hx
  have h2 := hr.evInt hi
  subst hj
  generalize hz : a.eval x = z at h1
  cases h1 with
  | ptr _ _ _ _ b s C hσ =>
    refine ⟨_, .ptr _ h i (j + m.toNat) b s C hσ, fun w' _ => ?_⟩
    cases hq : P.info? e with
    | none => simp [hq] at hs
    | some inf =>
      have hsz : inf.size = 1 := by simpa [hq] using hs
      simp [execOp, hz, h2, Instr.indexAt, Instr.sureAddr, asIntOf, run_underlying ht, hb, sizeOf, typeInfo, hq, hsz, Addr.add_lit, Nat.add_assoc]
theorem q_idxarr_rp {x ix : Operand} {t e : TypeId} {n i j jx : Nat} {cl : Cells} {kk : IntKind} {m : Int} (ht : P.underlying t = some (.array n e)) (hs : (P.info? e).map (·.size) = some 1) (hx : ev fr x = some (.rp cl i j)) (hi : ev fr ix = some (.int kk m)) (hj : j + m.toNat = jx) (hb : 0 ≤ m ∧ m < n) :
    QOp ind P fn c fr H ⟨d, .indexAddr t x ix, ty, pos, after, g⟩ (.rp cl i jx) := by
  intro w a σ S hr
  have h1 := hr.evAt hx
  have h2 := hr.evInt hi
  subst hj
  generalize hz : a.eval x = z at h1
  cases h1 with
  | rp _ _ _ _ b o val hS hc hvv h1' =>
    refine ⟨.pointer (some ⟨b, o + m.toNat, none⟩), .rp _ _ _ _ _ _ (fun e => val (m.toNat + e)) hS (fun e he => ?_) (fun e he => ?_) (fun e he => h1' _ (by omega)), fun w' _ => ?_⟩
    · have := hc (m.toNat + e) (by omega)
      rwa [← Nat.add_assoc] at this
    · have := hvv (m.toNat + e) (by omega)
      rwa [← Nat.add_assoc] at this
    · cases hq : P.info? e with
      | none => simp [hq] at hs
      | some inf =>
        have hsz : inf.size = 1 := by simpa [hq] using hs
        simp [execOp, hz, h2, Instr.indexAt, Instr.sureAddr, asIntOf, run_underlying ht, hb, sizeOf, typeInfo, hq, hsz, Addr.add_lit]

/-- Reading a whole struct or array. -/
theorem q_loadagg_ptr {x : Operand} {t : TypeId} {u : TypeDesc} {h i : Nat} {ob : AObj} {inf : TypeInfo} {L : List AV} (ht : P.underlying t = some u) (hu : isAggD u = true) (hinf : P.info? t = some inf) (hsz : inf.size = ob.c.sz) (hx : ev fr x = some (.ptr h i 0)) (hh : H[h]? = some (some ob))
    (hL : (List.range ob.c.sz).map (ob.c.at i) = L) (hi : i < ob.c.len) : QOp false P fn c fr H ⟨d, .load t x, ty, pos, after, g⟩ (.agg L) := by
  intro w a σ S hr
  have h1 := hr.evAt hx
  subst hL
  generalize hz : a.eval x = z at h1
  cases h1 with
  | ptr _ _ _ _ b s C hσ =>
    obtain ⟨hs', cur, g1, g2, g3, g4, g5, g6⟩ := hr.obj hh hσ
    subst hs'
    have hcell : ∀ w' : World, w'.heap = w.heap → ∀ j, j < ob.c.sz → ∃ y, w'.cell? ⟨b, i * ob.c.sz + j, none⟩ = some y ∧ VR w S σ (ob.c.at i j) y ∧ y.oneCell' = true := by
      intro w' hw j hj
      obtain ⟨y, e1, e2, e3⟩ := g6 i j hi hj
      exact ⟨y, by simp [World.cell?, hw, g1, e1], e2, e3⟩
    let cs : List Value := (List.range ob.c.sz).map (fun j => (w.cell? ⟨b, i * ob.c.sz + j, none⟩).getD undef)
    refine ⟨.agg cs.toArray, .agg _ _ _ (by simp [cs]) (fun j hj => ?_) (fun j hj => ?_), fun w' hw => ?_⟩
    · have hj' : j < ob.c.sz := by simpa using hj
      obtain ⟨y, e1, e2, _⟩ := hcell w rfl j hj'
      simpa [cs, Array.getD, hj', e1, List.getD] using e2
    · have hj' : j < ob.c.sz := by simpa using hj
      obtain ⟨y, e1, _, e3⟩ := hcell w rfl j hj'
      simpa [cs, Array.getD, hj', e1] using e3
    · have hw := hw.resolve_left (by decide)
      have hl := run_loadCells_list (P := P) w' ⟨b, i * ob.c.sz, none⟩ cs (fun j v hv => by
        have hj : j < ob.c.sz := by simpa [cs] using (List.getElem?_eq_some_iff.1 hv).1
        obtain ⟨y, e1, _, _⟩ := hcell w rfl j hj
        simp only [cs, List.getElem?_map, List.getElem?_range hj, Option.map_some, Option.some.injEq] at hv
        subst hv
        rw [e1, Addr.add_lit]
        have := World.cell?_of_block (w := w) (w' := w') (a := ⟨b, i * ob.c.sz + j, none⟩) (by rw [hw])
        rw [this, e1]; rfl)
      have hcl : cs.length = inf.size := by simp [cs, hsz]
      rw [hcl] at hl
      have hz' : a.eval x = .pointer (some ⟨b, i * ob.c.sz, none⟩) := by rw [hz]; simp
      simp [execOp, hz', Instr.loadAt, Instr.sureAddr, loadVar, run_isAgg ht, hu, sizeOf, typeInfo, hinf, hl]
theorem q_loadagg_rp {x : Operand} {t : TypeId} {u : TypeDesc} {i : Nat} {cl : Cells} {inf : TypeInfo} {L : List AV} (ht : P.underlying t = some u) (hu : isAggD u = true) (hinf : P.info? t = some inf) (hsz : inf.size = cl.sz) (hx : ev fr x = some (.rp cl i 0))
    (hL : (List.range cl.sz).map (cl.at i) = L) : QOp false P fn c fr H ⟨d, .load t x, ty, pos, after, g⟩ (.agg L) := by
  intro w a σ S hr
  have h1 := hr.evAt hx
  subst hL
  generalize hz : a.eval x = z at h1
  cases h1 with
  | rp _ _ _ _ b o val hS hc hvv h1' =>
    let cs : List Value := (List.range cl.sz).map val
    refine ⟨.agg cs.toArray, .agg _ _ _ (by simp [cs]) (fun j hj => ?_) (fun j hj => ?_), fun w' hw => ?_⟩
    · have hj' : j < cl.sz := by simpa using hj
      have := (hvv j (by omega)).mono (w' := w) (fun _ h => h) (fun _ _ => rfl) σ (fun _ _ h => by cases h)
      simpa [cs, Array.getD, hj', List.getD] using this
    · have hj' : j < cl.sz := by simpa using hj
      have := h1' j (by omega)
      simpa [cs, Array.getD, hj'] using this
    · have hw := hw.resolve_left (by decide)
      have hl := run_loadCells_list (P := P) w' ⟨b, o, none⟩ cs (fun j v hv => by
        have hj : j < cl.sz := by simpa [cs] using (List.getElem?_eq_some_iff.1 hv).1
        simp only [cs, List.getElem?_map, List.getElem?_range hj, Option.map_some, Option.some.injEq] at hv
        subst hv
        rw [Addr.add_lit]
        have := World.cell?_of_block (w := w) (w' := w') (a := ⟨b, o + j, none⟩) (by rw [hw])
        rw [this]; exact hc j (by omega))
      have hcl : cs.length = inf.size := by simp [cs, hsz]
      rw [hcl] at hl
      simp [execOp, hz, Instr.loadAt, Instr.sureAddr, loadVar, run_isAgg ht, hu, sizeOf, typeInfo, hinf, hl]

/-- An element of an array value. -/
theorem q_idxagg {x ix : Operand} {t e : TypeId} {u : TypeDesc} {n : Nat} {L : List AV} {v : AV} {kk : IntKind} {m : Int} (ht : P.underlying t = some (.array n e)) (hs : (P.info? e).map (·.size) = some 1) (hu : P.underlying e = some u) (hua : isAggD u = false) (hx : ev fr x = some (.agg L)) (hi : ev fr ix = some (.int kk m))
    (hv : L.getD m.toNat .any = v) (hb : 0 ≤ m ∧ m < n ∧ m < L.length) : QOp ind P fn c fr H ⟨d, .index t x ix, ty, pos, after, g⟩ v := by
  intro w a σ S hr
  have h1 := hr.evAt hx
  have h2 := hr.evInt hi
  subst hv
  generalize hz : a.eval x = z at h1
  cases h1 with
  | agg _ _ vs hl hv h1' =>
    have hlt : m.toNat < L.length := by omega
    have h3 := hv m.toNat hlt
    have h4 : vs[m.toNat]? = some (vs.getD m.toNat undef) := by simp [Array.getD, hl, hlt]
    generalize vs.getD m.toNat undef = y at h3 h4
    refine ⟨y, h3, fun w' _ => ?_⟩
    cases hq : P.info? e with
    | none => simp [hq] at hs
    | some inf =>
      have hsz : inf.size = 1 := by simpa [hq] using hs
      simp [execOp, hz, h2, Instr.index, asIntOf, run_underlying ht, hb.1, hb.2.1, sizeOf, typeInfo, hq, hsz, part, run_isAgg hu, hua, h4]
/-- A field of a struct value (of one cell). -/
theorem q_fieldv {x : Operand} {t : TypeId} {fs : Array Field} {f : Nat} {fd : Field} {u : TypeDesc} {L : List AV} {v : AV} (ht : P.underlying t = some (.struct fs)) (hf : fs[f]? = some fd) (hu : P.underlying fd.type = some u) (hua : isAggD u = false) (hx : ev fr x = some (.agg L)) (hv : L[fd.offset]? = some v) :
    QOp ind P fn c fr H ⟨d, .field t x f, ty, pos, after, g⟩ v := by
  intro w a σ S hr
  have h1 := hr.evAt hx
  generalize hz : a.eval x = z at h1
  cases h1 with
  | agg _ _ vs hl hvv h1' =>
    have hlt : fd.offset < L.length := (List.getElem?_eq_some_iff.1 hv).1
    have h3 := hvv fd.offset hlt
    have e : L.getD fd.offset .any = v := by simp [List.getD, hv]
    rw [e] at h3
    have h4 : vs[fd.offset]? = some (vs.getD fd.offset undef) := by simp [Array.getD, hl, hlt]
    generalize vs.getD fd.offset undef = y at h3 h4
    refine ⟨y, h3, fun w' _ => ?_⟩
    simp [execOp, hz, Instr.field, run_underlying ht, hf, asAgg, part, run_isAgg hu, hua, h4]
/-- The address of a field. -/
theorem q_field_ptr {x : Operand} {s : TypeId} {fs : Array Field} {f h i j jx : Nat} {fd : Field} {inf : TypeInfo} (ht : P.underlying s = some (.struct fs)) (hf : fs[f]? = some fd) (hi : P.info? fd.type = some inf) (hne : Nat.beq inf.size 0 = false) (hx : ev fr x = some (.ptr h i j)) (hj : j + fd.offset = jx) :
    QOp ind P fn c fr H ⟨d, .fieldAddr s x f, ty, pos, after, g⟩ (.ptr h i jx) := by
  intro w a σ S hr
  have h1 := hr.evAt hx
  subst hj
  have hne' : ¬ inf.size = 0 := fun e => by rw [e] at hne; cases hne
  generalize hz : a.eval x = z at h1
  cases h1 with
  | ptr _ _ _ _ b sz C hσ =>
    refine ⟨_, .ptr _ h i (j + fd.offset) b sz C hσ, fun w' _ => ?_⟩
    simp [execOp, hz, Instr.fieldAt, run_underlying ht, hf, Instr.sureAddr, fieldPlace, sizeOf, typeInfo, hi, hne', Addr.add_lit, Nat.add_assoc]
theorem q_field_rp {x : Operand} {s : TypeId} {fs : Array Field} {f i j jx : Nat} {cl : Cells} {fd : Field} {inf : TypeInfo} (ht : P.underlying s = some (.struct fs)) (hf : fs[f]? = some fd) (hi : P.info? fd.type = some inf) (hne : Nat.beq inf.size 0 = false) (hx : ev fr x = some (.rp cl i j)) (hj : j + fd.offset = jx) :
    QOp ind P fn c fr H ⟨d, .fieldAddr s x f, ty, pos, after, g⟩ (.rp cl i jx) := by
  intro w a σ S hr
  have h1 := hr.evAt hx
  subst hj
  have hne' : ¬ inf.size = 0 := fun e => by rw [e] at hne; cases hne
  generalize hz : a.eval x = z at h1
  cases h1 with
  | rp _ _ _ _ b o val hS hc hvv h1' =>
    refine ⟨.pointer (some ⟨b, o + fd.offset, none⟩), .rp _ _ _ _ _ _ (fun e => val (fd.offset + e)) hS (fun e he => ?_) (fun e he => ?_) (fun e he => h1' _ (by omega)), fun w' _ => ?_⟩
    · have := hc (fd.offset + e) (by omega)
      rwa [← Nat.add_assoc] at this
    · have := hvv (fd.offset + e) (by omega)
      rwa [← Nat.add_assoc] at this
    · simp [execOp, hz, Instr.fieldAt, run_underlying ht, hf, Instr.sureAddr, fieldPlace, sizeOf, typeInfo, hi, hne', Addr.add_lit]
/-- A pointer that is not nil. -/
theorem q_nilcheck_ptr {x : Operand} {h i j : Nat} (hx : ev fr x = some (.ptr h i j)) : QOp ind P fn c fr H ⟨d, .nilCheck x, ty, pos, after, g⟩ (.ptr h i j) := by
  intro w a σ S hr
  have h1 := hr.evAt hx
  generalize hz : a.eval x = z at h1
  cases h1 with
  | ptr _ _ _ _ b s C hσ => exact ⟨_, .ptr _ h i j b s C hσ, fun w' _ => by simp [execOp, hz]⟩
theorem q_nilcheck_rp {x : Operand} {cl : Cells} {i j : Nat} (hx : ev fr x = some (.rp cl i j)) : QOp ind P fn c fr H ⟨d, .nilCheck x, ty, pos, after, g⟩ (.rp cl i j) := by
  intro w a σ S hr
  have h1 := hr.evAt hx
  generalize hz : a.eval x = z at h1
  cases h1 with
  | rp _ _ _ _ b o val hS hc hvv h1' => exact ⟨_, .rp _ _ _ _ _ _ val hS hc hvv h1', fun w' _ => by simp [execOp, hz]⟩

/-- A store of a whole struct or array. -/
theorem ax_storeagg {all : Array Oper} {t : TypeId} {x y : Operand} {ty : TypeId} {pos : String} {after : Array Edge} {rest : List Oper} {h i : Nat} {ob : AObj} {L : List AV} {c' : Cells}
    (hx : ev fr x = some (.ptr h i 0)) (hy : ev fr y = some (.agg L)) (hs : (P.info? t).map (·.size) = some ob.c.sz) (hh : H[h]? = some (some ob)) (hl : L.length = ob.c.sz) (hi : i < ob.c.len)
    (h1 : c'.len = ob.c.len) (h2 : c'.sz = ob.c.sz) (h3 : ∀ i' j', i' < ob.c.len → j' < ob.c.sz → c'.at i' j' = if i' = i then L.getD j' .any else ob.c.at i' j')
    (hk : Ax P fn c (.ops false all rest k) fr (H.set h (some ⟨ob.ty, c'⟩))) : Ax P fn c (.ops false all (⟨none, .store t x y, ty, pos, after, none⟩ :: rest) k) fr H := by
  refine ax_w0 (fun w a σ S hr => ?_) hk
  have e1 := hr.evAt hx
  have e2 := hr.evAt hy
  generalize hz : a.eval x = z at e1
  generalize hzy : a.eval y = u at e2
  cases e2 with
  | agg _ _ vs hvl hvv hv1 =>
    cases e1 with
    | ptr _ _ _ _ b s C hσ =>
      obtain ⟨hs', cur, g1, g2, g3, g4, g5, g6⟩ := hr.obj hh hσ
      subst hs'
      have hfit : i * ob.c.sz + ob.c.sz ≤ cur.size := by
        rw [g2]
        have : (i + 1) * ob.c.sz ≤ C * ob.c.sz := Nat.mul_le_mul_right _ (by omega)
        rw [Nat.add_mul] at this; omega
      have hvsz : vs.size = ob.c.sz := by rw [hvl, hl]
      have hst := run_storeCells_at (P := P) b (i * ob.c.sz) ob.ty vs.toList 0 cur w g1 (by simp [hvsz]; exact hfit) (fun v hv => by
        obtain ⟨j, hj, rfl⟩ := List.getElem_of_mem hv
        have hj' : j < vs.size := by simpa using hj
        have := hv1 j (by rw [← hvl]; exact hj')
        simpa [Array.getD, hj'] using this)
      simp only [Nat.add_zero] at hst
      generalize hcur : (cur.toList.take (i * ob.c.sz) ++ vs.toList ++ cur.toList.drop (i * ob.c.sz + vs.toList.length)).toArray = cur' at hst
      have hlen' : cur'.size = cur.size := by rw [← hcur]; simp [hvsz]; omega
      have hat : ∀ p, p < cur.size → cur'[p]? = if i * ob.c.sz ≤ p ∧ p < i * ob.c.sz + ob.c.sz then vs[p - i * ob.c.sz]? else cur[p]? := by
        intro p hp
        rw [← hcur]
        simp only [List.getElem?_toArray, List.append_assoc]
        by_cases c1 : p < i * ob.c.sz
        · rw [List.getElem?_append_left (by simp; omega), List.getElem?_take, if_pos c1, if_neg (by omega)]; simp
        · rw [List.getElem?_append_right (by simp; omega)]
          have ht : (cur.toList.take (i * ob.c.sz)).length = i * ob.c.sz := by simp; omega
          rw [ht]
          by_cases c2 : p < i * ob.c.sz + ob.c.sz
          · rw [List.getElem?_append_left (by simp [hvsz]; omega), if_pos ⟨by omega, c2⟩]; simp
          · rw [List.getElem?_append_right (by simp [hvsz]; omega), if_neg (by omega)]
            simp only [Array.length_toList, hvsz, List.getElem?_drop, Array.getElem?_toList]
            congr 1; omega
      refine ⟨w.setRow b cur', σ, S, ?_, hr.setRow hh hσ h2 (by omega) (by rw [hlen', g2]) (fun i' j' hi' hj' => ?_)⟩
      · simp only [Nat.add_zero] at hz
        simp only [execOp, hz, hzy, Instr.storeAt, Instr.sureAddr, storeVar, Sem.run_bind, Sem.run_pure, Result.andThen_ok, size_of hs, Value.cells, hvsz]
        simp [hst]
      · rw [h1] at hi'
        rw [h2] at hj' ⊢
        rw [h3 i' j' hi' hj']
        have hp : i' * ob.c.sz + j' < cur.size := by
          rw [g2]
          have : (i' + 1) * ob.c.sz ≤ C * ob.c.sz := Nat.mul_le_mul_right _ (by omega)
          rw [Nat.add_mul] at this; omega
        rw [hat _ hp]
        by_cases he : i' = i
        · subst he
          rw [if_pos rfl, if_pos ⟨by omega, by omega⟩]
          have hjv : j' < vs.size := by omega
          refine ⟨vs.getD j' undef, by simp [Array.getD, hjv], hvv j' (by omega), hv1 j' (by omega)⟩
        · rw [if_neg he]
          have hne : ¬ (i * ob.c.sz ≤ i' * ob.c.sz + j' ∧ i' * ob.c.sz + j' < i * ob.c.sz + ob.c.sz) := by
            rintro ⟨q1, q2⟩
            rcases Nat.lt_or_gt_of_ne he with hlt | hlt
            · have : (i' + 1) * ob.c.sz ≤ i * ob.c.sz := Nat.mul_le_mul_right _ hlt
              rw [Nat.add_mul] at this; omega
            · have : (i + 1) * ob.c.sz ≤ i' * ob.c.sz := Nat.mul_le_mul_right _ hlt
              rw [Nat.add_mul] at this; omega
          rw [if_neg hne]
          exact g6 i' j' hi' hj'
end
end Go.Ax
