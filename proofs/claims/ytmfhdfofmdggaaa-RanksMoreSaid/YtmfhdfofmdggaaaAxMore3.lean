/-
  More rules: strings, max, min, boxes, variables, function values, an append of zeros; contracts out of 'Below'.
-/
import Derived.Test.YtmfhdfofmdggaaaAxLaw
import Derived.Lib.AppendZeros
import Derived.Lib.Strings
set_option linter.unusedVariables false
set_option linter.unusedSimpArgs false
namespace Go.Ax
open Go.RowKit

section
variable {ind : Bool} {P : Program} {fn : Func} {c : Ctx} {fr : Fr} {H : AHeap} {k : List It}
variable {d : Option Nat} {ty : TypeId} {pos : String} {after : Array Edge} {g : Option (Nat × Bool)}

theorem run_eqGuard_str {op : BinOp} {t : TypeId} {x y : Operand} {a b : ByteArray} {w : World} : (eqGuard op t x y (.string a) (.string b)).run P w = .ok () w := by
  unfold eqGuard
  split <;> rfl

theorem toList_strB (s : List UInt8) : (⟨s.toArray⟩ : ByteArray).toList = s := ByteArray.toList_mk s

theorem q_streql {x y : Operand} {t t' : TypeId} {a b : List UInt8} (hx : ev fr x = some (.str a)) (hy : ev fr y = some (.str b)) : QOp ind P fn c fr H ⟨d, .binOp .eql t x y t', ty, pos, after, g⟩ (.bool (decide (a = b))) := by
  intro w ac σ S hr
  refine ⟨_, .bool _ _, fun w' _ => ?_⟩
  have h1 := hr.evStr hx
  have h2 := hr.evStr hy
  have e : (a == b) = decide (a = b) := by rw [Bool.eq_iff_iff]; simp
  simp [execOp, h1, h2, strV, run_eqGuard_str, binOp, Op.stringOp, e]
theorem q_strneq {x y : Operand} {t t' : TypeId} {a b : List UInt8} (hx : ev fr x = some (.str a)) (hy : ev fr y = some (.str b)) : QOp ind P fn c fr H ⟨d, .binOp .neq t x y t', ty, pos, after, g⟩ (.bool (decide (¬ a = b))) := by
  intro w ac σ S hr
  refine ⟨_, .bool _ _, fun w' _ => ?_⟩
  have h1 := hr.evStr hx
  have h2 := hr.evStr hy
  have e : (a == b) = decide (a = b) := by rw [Bool.eq_iff_iff]; simp
  simp [execOp, h1, h2, strV, run_eqGuard_str, binOp, Op.stringOp, e]
theorem q_concat {x y : Operand} {t t' : TypeId} {a b : List UInt8} (hx : ev fr x = some (.str a)) (hy : ev fr y = some (.str b)) (hb : a.length + b.length ≤ 9223372036854775807) : QOp ind P fn c fr H ⟨d, .binOp .add t x y t', ty, pos, after, g⟩ (.str (a ++ b)) := by
  intro w ac σ S hr
  refine ⟨_, .str _ _, fun w' _ => ?_⟩
  have h1 := hr.evStr hx
  have h2 := hr.evStr hy
  have e1 : (⟨a.toArray⟩ : ByteArray).size = a.length := size_mk a
  have e2 : (⟨b.toArray⟩ : ByteArray).size = b.length := size_mk b
  have e3 : (⟨a.toArray⟩ ++ ⟨b.toArray⟩ : ByteArray) = ⟨(a ++ b).toArray⟩ := by
    apply WideShapes.bytes_inj; simp
  have e4 : ¬ ((IntKind.i64.max) < ((a.length + b.length : Nat) : Int)) := by
    have : IntKind.i64.max = 9223372036854775807 := by decide
    rw [this]; omega
  have e5 : ¬ (IntKind.i64.max < (a.length : Int) + (b.length : Int)) := by simpa using e4
  simp [execOp, h1, h2, strV, run_eqGuard_str, binOp, Op.stringOp, e1, e2, e3]
  omega

theorem q_stridx {x i : Operand} {t : TypeId} {s : List UInt8} {kk : IntKind} {m : Int} (ht : P.underlying t = some .string) (hx : ev fr x = some (.str s)) (hi : ev fr i = some (.int kk m)) (hb : 0 ≤ m ∧ m < s.length) :
    QOp ind P fn c fr H ⟨d, .index t x i, ty, pos, after, g⟩ (.int .u8 ((s.getD m.toNat 0).toNat : Nat)) := by
  intro w ac σ S hr
  refine ⟨_, .int _ _ _, fun w' _ => ?_⟩
  have h1 := hr.evStr hx
  have h2 := hr.evInt hi
  have hlt : m.toNat < s.length := by omega
  have e : (⟨s.toArray⟩ : ByteArray)[m.toNat]? = some (s.getD m.toNat 0) := by
    have hsz : (⟨s.toArray⟩ : ByteArray).size = s.length := size_mk s
    have : m.toNat < (⟨s.toArray⟩ : ByteArray).size := by rw [hsz]; exact hlt
    rw [getElem?_pos (⟨s.toArray⟩ : ByteArray) m.toNat this]
    congr 1
    show s.toArray[m.toNat] = _
    simp [List.getD, hlt]
  simp [execOp, h1, h2, strV, Instr.index, asIntOf, run_underlying ht, hb.1, e]

theorem run_strBounds {a : Act} {w0 w : World} {σ : Nat → Option Blk} {S : Nat → Prop} {n : Nat} (hr : Rep c w0 a σ S n fr H) {lo hi : Option Operand} {lo' hi' : Option AV} {len : Nat} {l h : Int} (h1 : evo fr lo = some lo') (h2 : evo fr hi = some hi')
    (h3 : sbnd 0 lo' = some l) (h4 : sbnd len hi' = some h) (hb : 0 ≤ l ∧ l ≤ h ∧ h ≤ len) :
    (Instr.sliceBounds false len len (lo.map a.eval) (hi.map a.eval) none).run P w = .ok (l.toNat, h.toNat, len) w :=
  run_sliceBounds hr h1 h2 h3 h4 ⟨hb.1, hb.2.1, hb.2.2⟩

theorem q_strslice {x : Operand} {t : TypeId} {lo hi : Option Operand} {lo' hi' : Option AV} {s : List UInt8} {l h : Int} (ht : P.underlying t = some .string) (hx : ev fr x = some (.str s)) (h1 : evo fr lo = some lo') (h2 : evo fr hi = some hi')
    (h3 : sbnd 0 lo' = some l) (h4 : sbnd s.length hi' = some h) (hb : 0 ≤ l ∧ l ≤ h ∧ h ≤ s.length) :
    QOp ind P fn c fr H ⟨d, .slice t x lo hi none, ty, pos, after, g⟩ (.str ((s.drop l.toNat).take (h.toNat - l.toNat))) := by
  intro w ac σ S hr
  refine ⟨_, .str _ _, fun w' _ => ?_⟩
  have e1 := hr.evStr hx
  have hsz : (⟨s.toArray⟩ : ByteArray).size = s.length := size_mk s
  have e2 := run_strBounds (P := P) (w := w') hr h1 h2 h3 h4 hb
  have e3 : (⟨s.toArray⟩ : ByteArray).extract l.toNat h.toNat = ⟨((s.drop l.toNat).take (h.toNat - l.toNat)).toArray⟩ := by
    apply WideShapes.bytes_inj
    rw [Lib.extract_data]
  simp [execOp, Instr.sliceAt, run_underlying ht, e1, strV, Instr.slice, hsz, e2, e3]

theorem q_max {x y : Operand} {ats : Array TypeId} {k1 k2 : IntKind} {m n : Int} (hx : ev fr x = some (.int k1 m)) (hy : ev fr y = some (.int k2 n)) :
    QOp ind P fn c fr H ⟨d, .call { callee := .builtin .max, args := #[x, y], argTypes := ats }, ty, pos, after, g⟩ (.int k1 (if n > m then n else m)) := by
  intro w ac σ S hr
  refine ⟨_, .int _ _ _, fun w' _ => ?_⟩
  simp [execOp, resolve, hr.evInt hx, hr.evInt hy, invoke, builtin, Builtin.max_, Builtin.max2]
theorem q_min {x y : Operand} {ats : Array TypeId} {k1 k2 : IntKind} {m n : Int} (hx : ev fr x = some (.int k1 m)) (hy : ev fr y = some (.int k2 n)) :
    QOp ind P fn c fr H ⟨d, .call { callee := .builtin .min, args := #[x, y], argTypes := ats }, ty, pos, after, g⟩ (.int k1 (if n < m then n else m)) := by
  intro w ac σ S hr
  refine ⟨_, .int _ _ _, fun w' _ => ?_⟩
  simp [execOp, resolve, hr.evInt hx, hr.evInt hy, invoke, builtin, Builtin.min_, Builtin.min2]

/-- cap, of a nil slice -/
theorem q_capnil {x : Operand} {t e : TypeId} (ht : P.underlying t = some (.slice e)) (hx : ev fr x = some .nil) :
    QOp ind P fn c fr H ⟨d, .call { callee := .builtin .cap, args := #[x], argTypes := #[t] }, ty, pos, after, g⟩ (.int .i64 0) := by
  intro w ac σ S hr
  have h1 := hr.evAt hx
  generalize hz : ac.eval x = z at h1
  cases h1
  refine ⟨_, .int _ _ _, fun w' _ => ?_⟩
  simp [execOp, resolve, hz, invoke, builtin, Builtin.cap_, run_underlying ht, goInt]
/-- nil[:0] -/
theorem q_slicenil {x : Operand} {t e : TypeId} {lo hi : Option Operand} {lo' hi' : Option AV} {s : Nat} (ht : P.underlying t = some (.slice e)) (hs : (P.info? e).map (·.size) = some s) (hx : ev fr x = some .nil) (h1 : evo fr lo = some lo') (h2 : evo fr hi = some hi')
    (h3 : sbnd 0 lo' = some 0) (h4 : sbnd 0 hi' = some 0) : QOp ind P fn c fr H ⟨d, .slice t x lo hi none, ty, pos, after, g⟩ .nil := by
  intro w ac σ S hr
  have hv := hr.evAt hx
  generalize hz : ac.eval x = z at hv
  cases hv
  refine ⟨_, .nil _, fun w' _ => ?_⟩
  have e2 := run_sliceBounds (P := P) (w := w') (isS := true) (len := 0) (cap := 0) hr h1 h2 h3 h4 ⟨by omega, by omega, by omega⟩
  cases hq : P.info? e with
  | none => simp [hq] at hs
  | some inf => simp [execOp, Instr.sliceAt, run_underlying ht, hz, Instr.slice, e2, sizeOf, typeInfo, hq]

/-- A function value. -/
theorem q_makefn {f : FuncId} {caps : List Operand} {l : List AV} (hl : evs fr caps = some l) :
    QOp ind P fn c fr H ⟨d, .makeFunc (.func f) #[] caps.toArray, ty, pos, after, g⟩ (.fn f l) := by
  intro w ac σ S hr
  obtain ⟨e1, e2⟩ := evs_spec hr caps l hl
  refine ⟨.func (.func f) #[] (caps.map ac.eval).toArray, .fn _ _ _ _ (by simp [e1]) (fun i hi => ?_), fun w' _ => ?_⟩
  · have := e2 i hi
    have hlt : i < caps.length := by omega
    have e : (caps.map ac.eval).toArray.getD i undef = (caps.map ac.eval).getD i undef := by simp [List.getD, hlt]
    rw [e]; exact this
  · simp [execOp, Instr.makeFunc]

/-- Reading a variable that is only read. -/
theorem q_loadb_rp {x : Operand} {t : TypeId} {u : TypeDesc} {l : List AV} {i j : Nat} {v : AV} (ht : P.underlying t = some u) (hu : isAggD u = false) (hx : ev fr x = some (.rp (.box l) i j)) (hv : l[j]? = some v) :
    QOp false P fn c fr H ⟨d, .load t x, ty, pos, after, g⟩ v :=
  q_load_rp ht hu hx (Nat.ble_eq_true_of_le (List.getElem?_eq_some_iff.1 hv).1) (by simp [Cells.at, List.getD, hv])

theorem box_cells {w : World} {S : Nat → Prop} {σ : Nat → Option Blk} {cs : Array Value} {L : List AV} (h : Arr w S σ cs L) : ∀ i j, i < (Cells.box L).len → j < (Cells.box L).sz → ∃ v, cs[i * (Cells.box L).sz + j]? = some v ∧ VR w S σ ((Cells.box L).at i j) v ∧ v.oneCell' = true := by
  intro i j hi hj
  simp only [Cells.len, Cells.sz] at hi hj
  have : i = 0 := by omega
  subst this
  obtain ⟨h1, h2⟩ := h.2 j hj
  have hlt : j < cs.size := by rw [h.1]; exact hj
  exact ⟨cs.getD j undef, by simp [hlt], h1, h2⟩

/-- A new variable, with a value in it. -/
theorem ax_box {all : Array Oper} {d : Nat} {t : TypeId} {x : Operand} {ty : TypeId} {pos : String} {after : Array Edge} {rest : List Oper} {v : AV} {L : List AV}
    (hx : ev fr x = some v) (hc : v.cellsA = some L)
    (hk : Ax P fn c (.ops false all rest k) ((d, .ptr H.length 0 0) :: fr) (H ++ [some ⟨t, .box L⟩])) : Ax P fn c (.ops false all (⟨some d, .box t x, ty, pos, after, none⟩ :: rest) k) fr H := by
  refine ax_w (fun w a σ S hr => ?_) hk
  have h1 := hr.evAt hx
  have ha := arr_cells h1 hc
  have hrun : (execOp a.eval ⟨some d, .box t x, ty, pos, after, none⟩).run P w = .ok (.value (.pointer (some ⟨w.heap.size, 0, none⟩))) (w.alloc (.cells (a.eval x).cells t (0, 0))) := by
    simp [execOp, Instr.box, newVar, newRow]
  refine ⟨_, _, _, S, hrun, hr.alloc (o := ⟨t, .box L⟩) (C := 1) (cur := (a.eval x).cells) (Nat.le_refl _) (by unfold maxLen; omega) (by simp [Cells.sz, ha.1]) (box_cells ha), ?_⟩
  have := VR.ptr (w := w.alloc (.cells (a.eval x).cells t (0, 0))) (S := S) (upσ σ H.length (.at w.heap.size (Cells.box L).sz 1)) H.length 0 0 w.heap.size (Cells.box L).sz 1 (by simp [upσ])
  simpa using this

/-- A new variable, zero. -/
theorem ax_alloc {all : Array Oper} {d : Nat} {t : TypeId} {ty : TypeId} {pos : String} {after : Array Edge} {rest : List Oper} {inf : TypeInfo} {z : Value} {zs : List AV}
    (hi : P.info? t = some inf) (hz : inf.zero = some z) (hzs : zav z = some zs)
    (hk : Ax P fn c (.ops false all rest k) ((d, .ptr H.length 0 0) :: fr) (H ++ [some ⟨t, .box zs⟩])) : Ax P fn c (.ops false all (⟨some d, .alloc t, ty, pos, after, none⟩ :: rest) k) fr H := by
  refine ax_w (fun w a σ S hr => ?_) hk
  have ha : Arr w S σ z.cells zs := zav_spec hzs
  have hrun : (execOp a.eval ⟨some d, .alloc t, ty, pos, after, none⟩).run P w = .ok (.value (.pointer (some ⟨w.heap.size, 0, none⟩))) (w.alloc (.cells z.cells t (0, 0))) := by
    simp [execOp, Instr.alloc, newVar, newRow, zeroValue, typeInfo, hi, hz]
  refine ⟨_, _, _, S, hrun, hr.alloc (o := ⟨t, .box zs⟩) (C := 1) (cur := z.cells) (Nat.le_refl _) (by unfold maxLen; omega) (by simp [Cells.sz, ha.1]) (box_cells ha), ?_⟩
  have := VR.ptr (w := w.alloc (.cells z.cells t (0, 0))) (S := S) (upσ σ H.length (.at w.heap.size (Cells.box zs).sz 1)) H.length 0 0 w.heap.size (Cells.box zs).sz 1 (by simp [upσ])
  simpa using this

/-- append(nil, make([]T, n)...) -/
theorem ax_growz {all : Array Oper} {d : Nat} {t tn e : TypeId} {x y : Operand} {ty : TypeId} {pos : String} {after : Array Edge} {rest : List Oper} {inf : TypeInfo} {z : Value} {zs : List AV} {n : Int} {k1 kn : IntKind}
    (ht : P.underlying t = some (.slice e)) (htn : P.underlying tn = some (.int kn)) (hi : P.info? e = some inf) (hz : inf.zero = some z) (hsz : inf.size = zs.length) (hzs : zav z = some zs) (hpos : Nat.blt 0 zs.length = true)
    (hx : ev fr x = some .nil) (hy : ev fr y = some (.int k1 n)) (hb : 0 < n ∧ (n : Int) * inf.bytes ≤ 140737488355328 ∧ n ≤ 9223372036854775807)
    (hk : Ax P fn c (.ops false all rest k) ((d, .sl H.length 0 n.toNat) :: fr) (H ++ [some ⟨e, zeroCellsOf n.toNat zs⟩])) : Ax P fn c (.ops false all (⟨some d, .call { callee := .builtin .append, args := #[x, y], argTypes := #[t, tn] }, ty, pos, after, none⟩ :: rest) k) fr H := by
  refine ax_w (fun w a σ S hr => ?_) hk
  obtain ⟨z1, z2, z3⟩ := zeroCellsOf_spec n.toNat zs
  obtain ⟨y1, y2⟩ := zav_spec (w := w) (S := S) (σ := σ) hzs
  have hpos' : 0 < zs.length := Nat.le_of_ble_eq_true hpos
  have h1 := hr.evAt hx
  have h2 := hr.evInt hy
  generalize hzx : a.eval x = vx at h1
  cases h1
  obtain ⟨m, rfl⟩ : ∃ m : Nat, n = m := ⟨n.toNat, by omega⟩
  simp only [Int.toNat_natCast] at *
  have hbb : m * inf.bytes ≤ 140737488355328 := by
    have := hb.2.1
    rw [← Int.natCast_mul] at this
    omega
  have hrun := Lib.run_append_nil_zeros (P := P) w t tn ty e inf z k1 kn ht htn hi hz m (by omega) (by omega) (by omega) (by omega)
  have hexec : (execOp a.eval ⟨some d, .call { callee := .builtin .append, args := #[x, y], argTypes := #[t, tn] }, ty, pos, after, none⟩).run P w = .ok (.value (.slice (some ⟨w.heap.size, 0, none⟩) m (grownCap w m 0 e))) (w.drew.alloc (.cells (Builtin.zeroCells z.cells m ++ Builtin.zeroCells z.cells (grownCap w m 0 e - m)) e)) := by
    simp [execOp, resolve, hzx, h2, invoke, builtin, hrun]
  have hge := grownCap_ge w m 0 e
  have hle := grownCap_le_maxLen w m 0 e (by unfold maxLen; omega)
  generalize grownCap w m 0 e = G at hexec hge hle
  have hd : Rep c w.drew a σ S fn.ntmps fr H := hr.drewN (m := 1)
  refine ⟨_, _, _, S, hexec, hd.alloc (o := ⟨e, zeroCellsOf m zs⟩) (C := G) (cur := Builtin.zeroCells z.cells m ++ Builtin.zeroCells z.cells (G - m)) (by rw [z1]; exact hge) hle (by
    simp only [Array.size_append, size_zeroCells, z2, y1, ← Nat.add_mul]; congr 1; omega) (fun i j hi hj => ?_), ?_⟩
  · simp only [z1] at hi
    simp only [z2] at hj ⊢
    rw [z3 i j hi hj]
    have hlt : i * zs.length + j < m * zs.length := by
      have : (i + 1) * zs.length ≤ m * zs.length := Nat.mul_le_mul_right _ (by omega)
      rw [Nat.add_mul] at this; omega
    have hm : (i * zs.length + j) % zs.length = j := by rw [Nat.mul_comm, Nat.mul_add_mod]; exact Nat.mod_eq_of_lt hj
    refine ⟨z.cells.getD j undef, ?_, ?_, (y2 j hj).2⟩
    · rw [Array.getElem?_append_left (by simp [size_zeroCells, y1]; exact hlt)]
      have hlt2 : i * zs.length + j < m * z.cells.size := by rw [y1]; exact hlt
      have hjz : j < z.cells.size := by rw [y1]; exact hj
      simp [Builtin.zeroCells, y1, hm, Array.getD, hlt, hj]
    · exact VR.mono (w := w) (w' := w.drew) (S := S) (S' := S) (σ := σ) (fun _ h => h) (fun _ _ => rfl) (y2 j hj).1 _ (fun _ _ h => h)
  · have := VR.sl (w := w.drew.alloc (.cells (Builtin.zeroCells z.cells m ++ Builtin.zeroCells z.cells (G - m)) e)) (S := S) (upσ σ H.length (.at w.heap.size (zeroCellsOf m zs).sz G)) H.length 0 m w.heap.size (zeroCellsOf m zs).sz G G (by simp [upσ]) (by omega) (by omega)
    simpa using this
end

/-- Less is told: some last elements of an object are passed over. -/
def CTrunc (a b : Cells) : Prop := b.len ≤ a.len ∧ b.sz = a.sz ∧ ∀ i j, i < b.len → j < a.sz → b.at i j = a.at i j
theorem Rep.trunc {c : Ctx} {w : World} {a : Act} {σ : Nat → Option Blk} {S : Nat → Prop} {n : Nat} {fr : Fr} {H : AHeap} (hr : Rep c w a σ S n fr H) {h : Nat} {o : AObj} (hh : H[h]? = some (some o)) {c' : Cells} (ht : CTrunc o.c c') : Rep c w a σ S n fr (H.set h (some ⟨o.ty, c'⟩)) := by
  obtain ⟨t1, t2, t3⟩ := ht
  have hlt : h < H.length := (List.getElem?_eq_some_iff.1 hh).1
  have hset : ∀ (h' : Nat) (o' : AObj), (H.set h (some ⟨o.ty, c'⟩))[h']? = some (some o') → ∃ o0 : AObj, H[h']? = some (some o0) ∧ o'.ty = o0.ty ∧ CTrunc o0.c o'.c := by
    intro h' o' ho
    by_cases he : h' = h
    · subst he
      simp only [List.getElem?_set_self hlt, Option.some.injEq] at ho
      subst ho
      exact ⟨o, hh, rfl, t1, t2, t3⟩
    · rw [List.getElem?_set_ne (Ne.symm he)] at ho
      exact ⟨o', ho, rfl, Nat.le_refl _, rfl, fun _ _ _ _ => rfl⟩
  refine ⟨⟨fun h' o' ho => ?_, fun h1 h2 o1 o2 b s C s' C' q1 q2 e1 e2 => ?_, hr.hr.small, fun h' hl => hr.hr.dom h' (by simpa using hl)⟩, ⟨hr.kp.os, hr.kp.output, hr.kp.tape, hr.kp.size, hr.kp.block, hr.kp.S1, hr.kp.S2, hr.kp.fixed, fun h' hf => by simpa using hr.kp.fixlt h' hf, fun h' o' b s C q e => ?_⟩, hr.defers, hr.size, hr.slots⟩
  · obtain ⟨o0, h1, h2, h3, h4, h5⟩ := hset h' o' ho
    rw [h2, h4]
    rcases hr.hr.live h' o0 h1 with g | ⟨b, C, cur, g1, g2, g3, g4, g5, g6, g7⟩
    · exact .inl ⟨g.1, by have := g.2; omega⟩
    · exact .inr ⟨b, C, cur, g1, g2, g3, g4, by omega, g6, fun i j hi hj => by rw [h5 i j hi hj]; exact g7 i j (by omega) hj⟩
  · obtain ⟨p, p1, _⟩ := hset h1 o1 q1
    obtain ⟨p', p1', _⟩ := hset h2 o2 q2
    exact hr.hr.dist h1 h2 p p' b s C s' C' p1 p1' e1 e2
  · obtain ⟨p, p1, _⟩ := hset h' o' q
    exact hr.kp.own h' p b s C p1 e
section
variable {P : Program} {fn : Func} {c : Ctx} {fr : Fr} {H : AHeap} {k : List It}
theorem ax_trunc {x : Code} (h : Nat) {o : AObj} (c' : Cells) (hh : H[h]? = some (some o)) (ht : CTrunc o.c c') (hk : Ax P fn c (.code x k) fr (H.set h (some ⟨o.ty, c'⟩))) : Ax P fn c (.code x k) fr H :=
  fun w a σ S hr => hk w a σ S (hr.trunc hh ht)
theorem ax_trunc_ops {q : Bool} {all : Array Oper} {rest : List Oper} (h : Nat) {o : AObj} (c' : Cells) (hh : H[h]? = some (some o)) (ht : CTrunc o.c c') (hk : Ax P fn c (.ops q all rest k) fr (H.set h (some ⟨o.ty, c'⟩))) : Ax P fn c (.ops q all rest k) fr H := by
  cases q with
  | true => exact fun hd w a σ S hr => hk hd w a σ S (hr.trunc hh ht)
  | false => exact fun hd w a σ S hr => hk hd w a σ S (hr.trunc hh ht)
end

/-- What the first stands for, the second does too. -/
def AEq (x y : AV) : Prop := ∀ (w : World) (S : Nat → Prop) (σ : Nat → Option Blk) (v : Value), VR w S σ x v → VR w S σ y v
theorem AEq.ro {c c' : Cells} {i i' n : Nat} (hs : c'.sz = c.sz) (h : ∀ d j, d < n → j < c.sz → c'.at (i' + d) j = c.at (i + d) j) : AEq (.ro c i n) (.ro c' i' n) := by
  intro w S σ v hv
  cases hv with
  | ro0 => exact .ro0 _ _ _ _ _
  | ro _ _ _ _ b o cap val hS hlen hc hv h1 =>
    refine .ro _ _ _ _ b o cap val hS hlen (fun d j hd hj => ?_) (fun d j hd hj => ?_) (fun d j hd hj => h1 d j hd (by rwa [hs] at hj))
    · rw [hs] at hj ⊢; exact hc d j hd hj
    · rw [hs] at hj
      rw [h d j hd hj]; exact hv d j hd hj
theorem AEq.of_eq {x y : AV} (h : x = y) : AEq x y := fun _ _ _ _ hv => h ▸ hv
theorem AEq.rfl' {x : AV} : AEq x x := fun _ _ _ _ hv => hv
theorem AEq.trans {x y z : AV} (h : AEq x y) (h' : AEq y z) : AEq x z := fun _ _ _ _ hv => h' _ _ _ _ (h _ _ _ _ hv)
theorem AEq.ro_in {c c' : Cells} {i i' n : Nat} (hs : c'.sz = c.sz) (h : ∀ d j, d < n → j < c.sz → AEq (c.at (i + d) j) (c'.at (i' + d) j)) : AEq (.ro c i n) (.ro c' i' n) := by
  intro w S σ v hv
  cases hv with
  | ro0 => exact .ro0 _ _ _ _ _
  | ro _ _ _ _ b o cap val hS hlen hc hv h1 =>
    refine .ro _ _ _ _ b o cap val hS hlen (fun d j hd hj => ?_) (fun d j hd hj => ?_) (fun d j hd hj => h1 d j hd (by rwa [hs] at hj))
    · rw [hs] at hj ⊢; exact hc d j hd hj
    · rw [hs] at hj
      exact h d j hd hj _ _ _ _ (hv d j hd hj)
/-- Rows of integers. -/
def rowsI (ls : List (List Int)) : Cells := .fn ls.length 1 (fun i _ => .ro (.ints .i64 (ls.getD i [])) 0 (ls.getD i []).length)
theorem AEq.take {k : IntKind} {l : List Int} {n : Nat} : AEq (.ro (.ints k l) 0 n) (.ro (.ints k (l.take n)) 0 n) :=
  AEq.ro rfl (fun d j hd _ => by simp only [Cells.at, Nat.zero_add, List.getD, List.getElem?_take, hd, if_true])
theorem AEq.drop {k : IntKind} {l : List Int} {i n : Nat} : AEq (.ro (.ints k l) i n) (.ro (.ints k (l.drop i)) 0 n) :=
  AEq.ro rfl (fun d j hd _ => by simp only [Cells.at, Nat.zero_add, List.getD, List.getElem?_drop])
theorem AEq.nil {c : Cells} {i : Nat} : AEq .nil (.ro c i 0) := by
  intro w S σ v hv
  cases hv
  exact .ro0 _ _ _ _ _
theorem Rep.slot {c : Ctx} {w : World} {a : Act} {σ : Nat → Option Blk} {S : Nat → Prop} {n t : Nat} {fr : Fr} {H : AHeap} {x y : AV} (hr : Rep c w a σ S n fr H) (hl : look t fr = some x) (h : AEq x y) : Rep c w a σ S n ((t, y) :: fr) H := by
  refine ⟨hr.hr, hr.kp, hr.defers, hr.size, fun u v hu => ?_⟩
  simp only [look] at hu
  by_cases he : u = t
  · subst he
    simp only [Nat.beq_refl, cond_true, Option.some.injEq] at hu
    subst hu
    exact ⟨(hr.slots u x hl).1, h _ _ _ _ (hr.slots u x hl).2⟩
  · simp only [beq_ne he, cond_false] at hu
    exact hr.slots u v hu
section
variable {P : Program} {fn : Func} {c : Ctx} {fr : Fr} {H : AHeap} {k : List It}
theorem ax_slot {x : Code} (t : Nat) {v : AV} (y : AV) (hl : look t fr = some v) (h : AEq v y) (hk : Ax P fn c (.code x k) ((t, y) :: fr) H) : Ax P fn c (.code x k) fr H :=
  fun w a σ S hr => hk w a σ S (hr.slot hl h)
theorem ax_slot_ops {q : Bool} {all : Array Oper} {rest : List Oper} (t : Nat) {v : AV} (y : AV) (hl : look t fr = some v) (h : AEq v y) (hk : Ax P fn c (.ops q all rest k) ((t, y) :: fr) H) : Ax P fn c (.ops q all rest k) fr H := by
  cases q with
  | true => exact fun hd w a σ S hr => hk hd w a σ S (hr.slot hl h)
  | false => exact fun hd w a σ S hr => hk hd w a σ S (hr.slot hl h)
end

/-- What a world's new blocks may hold, and the old ones as they were: a contract on plain values. -/
theorem VCall.of_below {P : Program} {f : FuncId} {args : List AV} {r : AV} (hf : ∃ fn, P.funcs[f]? = some fn ∧ (fn.name == "runtime.NumGoroutine") = false ∧ fn.body.isNone = false) (hn : noRef.noRefs args = true) (hr : noRef r = true)
    (h : ∀ (w : World) (S : Nat → Prop) (vals : Array Value), (∀ b, S b → b < w.heap.size) → VRs w S (fun _ => none) args vals →
      Calls P f vals w (fun e w' => ∃ v, e = .returned v ∧ Below w.heap.size w w' ∧ VR w' (fun b => S b ∨ (w.heap.size ≤ b ∧ b < w'.heap.size)) (fun _ => none) r v)) : VCall P f args r := by
  intro H
  refine ⟨hf, fun w σ S vals hrep hfx hv => ?_⟩
  refine (h w S vals hrep.small (hv.closed hn _)).mono ?_
  rintro e w' ⟨v, rfl, hb, hvr⟩
  have hold : ∀ b, b < w.heap.size → w'.heap[b]? = w.heap[b]? := fun b hb' => hb.block b hb'
  have hup : ∀ {σ1 : Nat → Option Blk} {x v}, VR w S σ1 x v → VR w' (fun b => S b ∨ (w.heap.size ≤ b ∧ b < w'.heap.size)) σ1 x v := fun h => h.mono (fun _ h => .inl h) (fun b hs => hold b (hrep.small b hs)) _ (fun _ _ h => h)
  refine ⟨v, r, σ, fun b => S b ∨ (w.heap.size ≤ b ∧ b < w'.heap.size), H, rfl, ⟨fun h o ho => ?_, hrep.dist, fun b hs => ?_, hrep.dom⟩, hvr.closed hr σ, ⟨hb.os, hb.output, hb.tape, hb.size, fun b hb' _ => hold b hb', fun b hs => .inl hs, fun b hs => ?_, fun _ _ => rfl, fun _ hl => hl, fun h o b s C h1 h2 => .inl ⟨h, o, s, C, h1, h2⟩⟩, rfl, rfl⟩
  · rcases hrep.live h o ho with g | ⟨b, C, cur, g1, g2, g3, g4, g5, g6, g7⟩
    · exact .inl g
    · have hlt := (Array.getElem?_eq_some_iff.1 g2).1
      refine .inr ⟨b, C, cur, g1, by rw [hold b hlt]; exact g2, g3, g4, g5, ?_, fun i j hi hj => ?_⟩
      · rintro (hs | hs)
        · exact g6 hs
        · omega
      · obtain ⟨v, e1, e2, e3⟩ := g7 i j hi hj
        exact ⟨v, e1, hup e2, e3⟩
  · rcases hs with hs | hs
    · exact Nat.lt_of_lt_of_le (hrep.small b hs) hb.size
    · exact hs.2
  · rcases hs with hs | hs
    · exact .inl hs
    · exact .inr (.inr hs.1)
end Go.Ax
