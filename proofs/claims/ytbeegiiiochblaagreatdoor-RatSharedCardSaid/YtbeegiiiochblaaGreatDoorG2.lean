import Derived.Lib.AppendZeros
import Derived.Lib.Strings
import Derived.Lib.Bytealg
import Derived.Laws.Externs
import Derived.Laws.CopyRow
import Derived.Lib.LaidTab
import Derived.Lib.ItoaNum
import Derived.Stop.LaidErr
import Derived.Test.YtbeegiiiochblaaGreatDoorProg
import Derived.Lib.AtoiAll
import Derived.Laws.StructEq
import Derived.ChangeKeysEq
import Derived.WideLaws
import Derived.Laws.Bits64
import Derived.Laws.BitsLemmas
import Derived.Lib.AppendStr
import Derived.Lib.UnsafeStr
import Derived.Lib.Builder
import Derived.Laws.Small
import Derived.Test.YtbeegiiiochblaaGreatDoorG1
set_option linter.unusedVariables false
set_option linter.unusedSimpArgs false
/-
  More rules: strings, max, min, boxes, variables, function values, an append of zeros; contracts out of 'Below'.
-/
namespace Go.Ax
variable [Pins]
open Go.RowKit

section
variable {ind : Bool} {P : Program} {fn : Func} {c : Ctx} {fr : Fr} {H : AHeap} {k : List It}
variable {d : Option Nat} {ty : TypeId} {pos : String} {after : Array Edge} {g : Option (Nat × Bool)}

theorem run_eqGuard_str {op : BinOp} {t : TypeId} {x y : Operand} {a b : ByteArray} {w : World} : (eqGuard op t x y (.string a) (.string b)).run P w = .ok () w := by
  have _pin := (inferInstance : Pins)
  unfold eqGuard
  split <;> rfl

theorem toList_strB (s : List UInt8) : (⟨s.toArray⟩ : ByteArray).toList = s := have _pin := (inferInstance : Pins); ByteArray.toList_mk s

theorem q_streql {x y : Operand} {t t' : TypeId} {a b : List UInt8} (hx : ev fr x = some (.str a)) (hy : ev fr y = some (.str b)) : QOp ind P fn c fr H ⟨d, .binOp .eql t x y t', ty, pos, after, g⟩ (.bool (decide (a = b))) := by
  intro w ac σ S hr
  refine ⟨_, .bool _ _, fun w' _ => ?_⟩
  have h1 := hr.evStr hx
  have h2 := hr.evStr hy
  have e : (a == b) = decide (a = b) := by rw [Bool.eq_iff_iff]; simp
  simp [execOp, h1, h2, strV, run_eqGuard_str, binOp, Op.stringOp, e]
theorem q_strneq {x y : Operand} {t t' : TypeId} {a b : List UInt8} (hx : ev fr x = some (.str a)) (hy : ev fr y = some (.str b)) : QOp ind P fn c fr H ⟨d, .binOp .neq t x y t', ty, pos, after, g⟩ (.bool (decide (¬ a = b))) := by
  intro w ac σ S hr
  refine ⟨_, .bool _ _, fun w' _ => ?_⟩
  have h1 := hr.evStr hx
  have h2 := hr.evStr hy
  have e : (a == b) = decide (a = b) := by rw [Bool.eq_iff_iff]; simp
  simp [execOp, h1, h2, strV, run_eqGuard_str, binOp, Op.stringOp, e]
theorem q_concat {x y : Operand} {t t' : TypeId} {a b : List UInt8} (hx : ev fr x = some (.str a)) (hy : ev fr y = some (.str b)) (hb : a.length + b.length ≤ 9223372036854775807) : QOp ind P fn c fr H ⟨d, .binOp .add t x y t', ty, pos, after, g⟩ (.str (a ++ b)) := by
  intro w ac σ S hr
  refine ⟨_, .str _ _, fun w' _ => ?_⟩
  have h1 := hr.evStr hx
  have h2 := hr.evStr hy
  have e1 : (⟨a.toArray⟩ : ByteArray).size = a.length := size_mk a
  have e2 : (⟨b.toArray⟩ : ByteArray).size = b.length := size_mk b
  have e3 : (⟨a.toArray⟩ ++ ⟨b.toArray⟩ : ByteArray) = ⟨(a ++ b).toArray⟩ := by
    apply WideShapes.bytes_inj; simp
  have e4 : ¬ ((IntKind.i64.max) < ((a.length + b.length : Nat) : Int)) := by
    have : IntKind.i64.max = 9223372036854775807 := by decide
    rw [this]; omega
  have e5 : ¬ (IntKind.i64.max < (a.length : Int) + (b.length : Int)) := by simpa using e4
  simp [execOp, h1, h2, strV, run_eqGuard_str, binOp, Op.stringOp, e1, e2, e3]
  omega

theorem q_stridx {x i : Operand} {t : TypeId} {s : List UInt8} {kk : IntKind} {m : Int} (ht : P.underlying t = some .string) (hx : ev fr x = some (.str s)) (hi : ev fr i = some (.int kk m)) (hb : 0 ≤ m ∧ m < s.length) :
    QOp ind P fn c fr H ⟨d, .index t x i, ty, pos, after, g⟩ (.int .u8 ((s.getD m.toNat 0).toNat : Nat)) := by
  intro w ac σ S hr
  refine ⟨_, .int _ _ _, fun w' _ => ?_⟩
  have h1 := hr.evStr hx
  have h2 := hr.evInt hi
  have hlt : m.toNat < s.length := by omega
  have e : (⟨s.toArray⟩ : ByteArray)[m.toNat]? = some (s.getD m.toNat 0) := by
    have hsz : (⟨s.toArray⟩ : ByteArray).size = s.length := size_mk s
    have : m.toNat < (⟨s.toArray⟩ : ByteArray).size := by rw [hsz]; exact hlt
    rw [getElem?_pos (⟨s.toArray⟩ : ByteArray) m.toNat this]
    congr 1
    show s.toArray[m.toNat] = _
    simp [List.getD, hlt]
  simp [execOp, h1, h2, strV, Instr.index, asIntOf, run_underlying ht, hb.1, e]

theorem run_strBounds {a : Act} {w0 w : World} {σ : Nat → Option Blk} {S : Nat → Prop} {n : Nat} (hr : Rep c w0 a σ S n fr H) {lo hi : Option Operand} {lo' hi' : Option AV} {len : Nat} {l h : Int} (h1 : evo fr lo = some lo') (h2 : evo fr hi = some hi')
    (h3 : sbnd 0 lo' = some l) (h4 : sbnd len hi' = some h) (hb : 0 ≤ l ∧ l ≤ h ∧ h ≤ len) :
    (Instr.sliceBounds false len len (lo.map a.eval) (hi.map a.eval) none).run P w = .ok (l.toNat, h.toNat, len) w :=
  run_sliceBounds hr h1 h2 h3 h4 ⟨hb.1, hb.2.1, hb.2.2⟩

theorem q_strslice {x : Operand} {t : TypeId} {lo hi : Option Operand} {lo' hi' : Option AV} {s : List UInt8} {l h : Int} (ht : P.underlying t = some .string) (hx : ev fr x = some (.str s)) (h1 : evo fr lo = some lo') (h2 : evo fr hi = some hi')
    (h3 : sbnd 0 lo' = some l) (h4 : sbnd s.length hi' = some h) (hb : 0 ≤ l ∧ l ≤ h ∧ h ≤ s.length) :
    QOp ind P fn c fr H ⟨d, .slice t x lo hi none, ty, pos, after, g⟩ (.str ((s.drop l.toNat).take (h.toNat - l.toNat))) := by
  intro w ac σ S hr
  refine ⟨_, .str _ _, fun w' _ => ?_⟩
  have e1 := hr.evStr hx
  have hsz : (⟨s.toArray⟩ : ByteArray).size = s.length := size_mk s
  have e2 := run_strBounds (P := P) (w := w') hr h1 h2 h3 h4 hb
  have e3 : (⟨s.toArray⟩ : ByteArray).extract l.toNat h.toNat = ⟨((s.drop l.toNat).take (h.toNat - l.toNat)).toArray⟩ := by
    apply WideShapes.bytes_inj
    rw [Lib.extract_data]
  simp [execOp, Instr.sliceAt, run_underlying ht, e1, strV, Instr.slice, hsz, e2, e3]

theorem q_max {x y : Operand} {ats : Array TypeId} {k1 k2 : IntKind} {m n : Int} (hx : ev fr x = some (.int k1 m)) (hy : ev fr y = some (.int k2 n)) :
    QOp ind P fn c fr H ⟨d, .call { callee := .builtin .max, args := #[x, y], argTypes := ats }, ty, pos, after, g⟩ (.int k1 (if n > m then n else m)) := by
  intro w ac σ S hr
  refine ⟨_, .int _ _ _, fun w' _ => ?_⟩
  simp [execOp, resolve, hr.evInt hx, hr.evInt hy, invoke, builtin, Builtin.max_, Builtin.max2]
theorem q_min {x y : Operand} {ats : Array TypeId} {k1 k2 : IntKind} {m n : Int} (hx : ev fr x = some (.int k1 m)) (hy : ev fr y = some (.int k2 n)) :
    QOp ind P fn c fr H ⟨d, .call { callee := .builtin .min, args := #[x, y], argTypes := ats }, ty, pos, after, g⟩ (.int k1 (if n < m then n else m)) := by
  intro w ac σ S hr
  refine ⟨_, .int _ _ _, fun w' _ => ?_⟩
  simp [execOp, resolve, hr.evInt hx, hr.evInt hy, invoke, builtin, Builtin.min_, Builtin.min2]

/-- cap, of a nil slice -/
theorem q_capnil {x : Operand} {t e : TypeId} (ht : P.underlying t = some (.slice e)) (hx : ev fr x = some .nil) :
    QOp ind P fn c fr H ⟨d, .call { callee := .builtin .cap, args := #[x], argTypes := #[t] }, ty, pos, after, g⟩ (.int .i64 0) := by
  intro w ac σ S hr
  have h1 := hr.evAt hx
  generalize hz : ac.eval x = z at h1
  cases h1
  refine ⟨_, .int _ _ _, fun w' _ => ?_⟩
  simp [execOp, resolve, hz, invoke, builtin, Builtin.cap_, run_underlying ht, goInt]
/-- nil[:0] -/
theorem q_slicenil {x : Operand} {t e : TypeId} {lo hi : Option Operand} {lo' hi' : Option AV} {s : Nat} (ht : P.underlying t = some (.slice e)) (hs : (P.info? e).map (·.size) = some s) (hx : ev fr x = some .nil) (h1 : evo fr lo = some lo') (h2 : evo fr hi = some hi')
    (h3 : sbnd 0 lo' = some 0) (h4 : sbnd 0 hi' = some 0) : QOp ind P fn c fr H ⟨d, .slice t x lo hi none, ty, pos, after, g⟩ .nil := by
  intro w ac σ S hr
  have hv := hr.evAt hx
  generalize hz : ac.eval x = z at hv
  cases hv
  refine ⟨_, .nil _, fun w' _ => ?_⟩
  have e2 := run_sliceBounds (P := P) (w := w') (isS := true) (len := 0) (cap := 0) hr h1 h2 h3 h4 ⟨by omega, by omega, by omega⟩
  cases hq : P.info? e with
  | none => simp [hq] at hs
  | some inf => simp [execOp, Instr.sliceAt, run_underlying ht, hz, Instr.slice, e2, sizeOf, typeInfo, hq]

/-- A function value. -/
theorem q_makefn {f : FuncId} {caps : List Operand} {l : List AV} (hl : evs fr caps = some l) :
    QOp ind P fn c fr H ⟨d, .makeFunc (.func f) #[] caps.toArray, ty, pos, after, g⟩ (.fn f l) := by
  intro w ac σ S hr
  obtain ⟨e1, e2⟩ := evs_spec hr caps l hl
  refine ⟨.func (.func f) #[] (caps.map ac.eval).toArray, .fn _ _ _ _ (by simp [e1]) (fun i hi => ?_), fun w' _ => ?_⟩
  · have := e2 i hi
    have hlt : i < caps.length := by omega
    have e : (caps.map ac.eval).toArray.getD i undef = (caps.map ac.eval).getD i undef := by simp [List.getD, hlt]
    rw [e]; exact this
  · simp [execOp, Instr.makeFunc]

/-- Reading a variable that is only read. -/
theorem q_loadb_rp {x : Operand} {t : TypeId} {u : TypeDesc} {l : List AV} {i j : Nat} {v : AV} (ht : P.underlying t = some u) (hu : isAggD u = false) (hx : ev fr x = some (.rp (.box l) i j)) (hv : l[j]? = some v) :
    QOp false P fn c fr H ⟨d, .load t x, ty, pos, after, g⟩ v :=
  q_load_rp ht hu hx (Nat.ble_eq_true_of_le (List.getElem?_eq_some_iff.1 hv).1) (by simp [Cells.at, List.getD, hv])

theorem box_cells {w : World} {S : Nat → Prop} {σ : Nat → Option Blk} {cs : Array Value} {L : List AV} (h : Arr w S σ cs L) : ∀ i j, i < (Cells.box L).len → j < (Cells.box L).sz → ∃ v, cs[i * (Cells.box L).sz + j]? = some v ∧ VR w S σ ((Cells.box L).at i j) v ∧ v.oneCell' = true := by
  have _pin := (inferInstance : Pins)
  intro i j hi hj
  simp only [Cells.len, Cells.sz] at hi hj
  have : i = 0 := by omega
  subst this
  obtain ⟨h1, h2⟩ := h.2 j hj
  have hlt : j < cs.size := by rw [h.1]; exact hj
  exact ⟨cs.getD j undef, by simp [hlt], h1, h2⟩

/-- A new variable, with a value in it. -/
theorem ax_box {all : Array Oper} {d : Nat} {t : TypeId} {x : Operand} {ty : TypeId} {pos : String} {after : Array Edge} {rest : List Oper} {v : AV} {L : List AV}
    (hx : ev fr x = some v) (hc : v.cellsA = some L)
    (hk : Ax P fn c (.ops false all rest k) ((d, .ptr H.length 0 0) :: fr) (H ++ [some ⟨t, .box L⟩])) : Ax P fn c (.ops false all (⟨some d, .box t x, ty, pos, after, none⟩ :: rest) k) fr H := by
  refine ax_w (fun w a σ S hr => ?_) hk
  have h1 := hr.evAt hx
  have ha := arr_cells h1 hc
  have hrun : (execOp a.eval ⟨some d, .box t x, ty, pos, after, none⟩).run P w = .ok (.value (.pointer (some ⟨w.heap.size, 0, none⟩))) (w.alloc (.cells (a.eval x).cells t (0, 0))) := by
    simp [execOp, Instr.box, newVar, newRow]
  refine ⟨_, _, _, S, hrun, hr.alloc (o := ⟨t, .box L⟩) (C := 1) (cur := (a.eval x).cells) (Nat.le_refl _) (by unfold maxLen; omega) (by simp [Cells.sz, ha.1]) (box_cells ha), ?_⟩
  have := VR.ptr (w := w.alloc (.cells (a.eval x).cells t (0, 0))) (S := S) (upσ σ H.length (.at w.heap.size (Cells.box L).sz 1)) H.length 0 0 w.heap.size (Cells.box L).sz 1 (by simp [upσ])
  simpa using this

/-- A new variable, zero. -/
theorem ax_alloc {all : Array Oper} {d : Nat} {t : TypeId} {ty : TypeId} {pos : String} {after : Array Edge} {rest : List Oper} {inf : TypeInfo} {z : Value} {zs : List AV}
    (hi : P.info? t = some inf) (hz : inf.zero = some z) (hzs : zav z = some zs)
    (hk : Ax P fn c (.ops false all rest k) ((d, .ptr H.length 0 0) :: fr) (H ++ [some ⟨t, .box zs⟩])) : Ax P fn c (.ops false all (⟨some d, .alloc t, ty, pos, after, none⟩ :: rest) k) fr H := by
  refine ax_w (fun w a σ S hr => ?_) hk
  have ha : Arr w S σ z.cells zs := zav_spec hzs
  have hrun : (execOp a.eval ⟨some d, .alloc t, ty, pos, after, none⟩).run P w = .ok (.value (.pointer (some ⟨w.heap.size, 0, none⟩))) (w.alloc (.cells z.cells t (0, 0))) := by
    simp [execOp, Instr.alloc, newVar, newRow, zeroValue, typeInfo, hi, hz]
  refine ⟨_, _, _, S, hrun, hr.alloc (o := ⟨t, .box zs⟩) (C := 1) (cur := z.cells) (Nat.le_refl _) (by unfold maxLen; omega) (by simp [Cells.sz, ha.1]) (box_cells ha), ?_⟩
  have := VR.ptr (w := w.alloc (.cells z.cells t (0, 0))) (S := S) (upσ σ H.length (.at w.heap.size (Cells.box zs).sz 1)) H.length 0 0 w.heap.size (Cells.box zs).sz 1 (by simp [upσ])
  simpa using this

/-- append(nil, make([]T, n)...) -/
theorem ax_growz {all : Array Oper} {d : Nat} {t tn e : TypeId} {x y : Operand} {ty : TypeId} {pos : String} {after : Array Edge} {rest : List Oper} {inf : TypeInfo} {z : Value} {zs : List AV} {n : Int} {k1 kn : IntKind}
    (ht : P.underlying t = some (.slice e)) (htn : P.underlying tn = some (.int kn)) (hi : P.info? e = some inf) (hz : inf.zero = some z) (hsz : inf.size = zs.length) (hzs : zav z = some zs) (hpos : Nat.blt 0 zs.length = true)
    (hx : ev fr x = some .nil) (hy : ev fr y = some (.int k1 n)) (hb : 0 < n ∧ (n : Int) * inf.bytes ≤ 140737488355328 ∧ n ≤ 9223372036854775807)
    (hk : Ax P fn c (.ops false all rest k) ((d, .sl H.length 0 n.toNat) :: fr) (H ++ [some ⟨e, zeroCellsOf n.toNat zs⟩])) : Ax P fn c (.ops false all (⟨some d, .call { callee := .builtin .append, args := #[x, y], argTypes := #[t, tn] }, ty, pos, after, none⟩ :: rest) k) fr H := by
  refine ax_w (fun w a σ S hr => ?_) hk
  obtain ⟨z1, z2, z3⟩ := zeroCellsOf_spec n.toNat zs
  obtain ⟨y1, y2⟩ := zav_spec (w := w) (S := S) (σ := σ) hzs
  have hpos' : 0 < zs.length := Nat.le_of_ble_eq_true hpos
  have h1 := hr.evAt hx
  have h2 := hr.evInt hy
  generalize hzx : a.eval x = vx at h1
  cases h1
  obtain ⟨m, rfl⟩ : ∃ m : Nat, n = m := ⟨n.toNat, by omega⟩
  simp only [Int.toNat_natCast] at *
  have hbb : m * inf.bytes ≤ 140737488355328 := by
    have := hb.2.1
    rw [← Int.natCast_mul] at this
    omega
  have hrun := Lib.run_append_nil_zeros (P := P) w t tn ty e inf z k1 kn ht htn hi hz m (by omega) (by omega) (by omega) (by omega)
  have hexec : (execOp a.eval ⟨some d, .call { callee := .builtin .append, args := #[x, y], argTypes := #[t, tn] }, ty, pos, after, none⟩).run P w = .ok (.value (.slice (some ⟨w.heap.size, 0, none⟩) m (grownCap w m 0 e))) (w.drew.alloc (.cells (Builtin.zeroCells z.cells m ++ Builtin.zeroCells z.cells (grownCap w m 0 e - m)) e)) := by
    simp [execOp, resolve, hzx, h2, invoke, builtin, hrun]
  have hge := grownCap_ge w m 0 e
  have hle := grownCap_le_maxLen w m 0 e (by unfold maxLen; omega)
  generalize grownCap w m 0 e = G at hexec hge hle
  have hd : Rep c w.drew a σ S fn.ntmps fr H := hr.drewN (m := 1)
  refine ⟨_, _, _, S, hexec, hd.alloc (o := ⟨e, zeroCellsOf m zs⟩) (C := G) (cur := Builtin.zeroCells z.cells m ++ Builtin.zeroCells z.cells (G - m)) (by rw [z1]; exact hge) hle (by
    simp only [Array.size_append, size_zeroCells, z2, y1, ← Nat.add_mul]; congr 1; omega) (fun i j hi hj => ?_), ?_⟩
  · simp only [z1] at hi
    simp only [z2] at hj ⊢
    rw [z3 i j hi hj]
    have hlt : i * zs.length + j < m * zs.length := by
      have : (i + 1) * zs.length ≤ m * zs.length := Nat.mul_le_mul_right _ (by omega)
      rw [Nat.add_mul] at this; omega
    have hm : (i * zs.length + j) % zs.length = j := by rw [Nat.mul_comm, Nat.mul_add_mod]; exact Nat.mod_eq_of_lt hj
    refine ⟨z.cells.getD j undef, ?_, ?_, (y2 j hj).2⟩
    · rw [Array.getElem?_append_left (by simp [size_zeroCells, y1]; exact hlt)]
      have hlt2 : i * zs.length + j < m * z.cells.size := by rw [y1]; exact hlt
      have hjz : j < z.cells.size := by rw [y1]; exact hj
      simp [Builtin.zeroCells, y1, hm, Array.getD, hlt, hj]
    · exact VR.mono (w := w) (w' := w.drew) (S := S) (S' := S) (σ := σ) (fun _ h => h) (fun _ _ => rfl) (y2 j hj).1 _ (fun _ _ h => h)
  · have := VR.sl (w := w.drew.alloc (.cells (Builtin.zeroCells z.cells m ++ Builtin.zeroCells z.cells (G - m)) e)) (S := S) (upσ σ H.length (.at w.heap.size (zeroCellsOf m zs).sz G)) H.length 0 m w.heap.size (zeroCellsOf m zs).sz G G (by simp [upσ]) (by omega) (by omega)
    simpa using this
end

/-- Less is told: some last elements of an object are passed over. -/
def CTrunc (a b : Cells) : Prop := b.len ≤ a.len ∧ b.kd = a.kd ∧ ∀ i j, i < b.len → j < a.sz → b.at i j = a.at i j
theorem Rep.trunc {c : Ctx} {w : World} {a : Act} {σ : Nat → Option Blk} {S : Nat → Prop} {n : Nat} {fr : Fr} {H : AHeap} (hr : Rep c w a σ S n fr H) {h : Nat} {o : AObj} (hh : H[h]? = some (some o)) {c' : Cells} (ht : CTrunc o.c c') : Rep c w a σ S n fr (H.set h (some ⟨o.ty, c'⟩)) := by
  obtain ⟨t1, t2, t3⟩ := ht
  have hlt : h < H.length := (List.getElem?_eq_some_iff.1 hh).1
  have hset : ∀ (h' : Nat) (o' : AObj), (H.set h (some ⟨o.ty, c'⟩))[h']? = some (some o') → ∃ o0 : AObj, H[h']? = some (some o0) ∧ o'.ty = o0.ty ∧ CTrunc o0.c o'.c := by
    intro h' o' ho
    by_cases he : h' = h
    · subst he
      simp only [List.getElem?_set_self hlt, Option.some.injEq] at ho
      subst ho
      exact ⟨o, hh, rfl, t1, t2, t3⟩
    · rw [List.getElem?_set_ne (Ne.symm he)] at ho
      exact ⟨o', ho, rfl, Nat.le_refl _, rfl, fun _ _ _ _ => rfl⟩
  refine ⟨⟨fun h' o' ho => ?_, fun h1 h2 o1 o2 b s C s' C' q1 q2 e1 e2 => ?_, hr.hr.small, fun h' hl => hr.hr.dom h' (by simpa using hl)⟩, ⟨hr.kp.os, hr.kp.output, hr.kp.tape, hr.kp.size, hr.kp.block, hr.kp.S1, hr.kp.S2, hr.kp.fixed, fun h' hf => by simpa using hr.kp.fixlt h' hf, fun h' o' b s C q e => ?_⟩, hr.defers, hr.size, hr.slots⟩
  · obtain ⟨o0, h1, h2, h3, h4, h5⟩ := hset h' o' ho
    rw [kd_sz h4]
    rcases hr.hr.live h' o0 h1 with g | ⟨b, C, cur, g1, g2, g3, g4, g5, g6, g7⟩
    · exact .inl ⟨g.1, by have := g.2; omega⟩
    · exact .inr ⟨b, C, cur, g1, g2.kd h2 h4, g3, g4, by omega, g6, fun i j hi hj => by rw [h5 i j hi hj]; exact g7 i j (by omega) hj⟩
  · obtain ⟨p, p1, _⟩ := hset h1 o1 q1
    obtain ⟨p', p1', _⟩ := hset h2 o2 q2
    exact hr.hr.dist h1 h2 p p' b s C s' C' p1 p1' e1 e2
  · obtain ⟨p, p1, _⟩ := hset h' o' q
    exact hr.kp.own h' p b s C p1 e
section
variable {P : Program} {fn : Func} {c : Ctx} {fr : Fr} {H : AHeap} {k : List It}
theorem ax_trunc {x : Code} (h : Nat) {o : AObj} (c' : Cells) (hh : H[h]? = some (some o)) (ht : CTrunc o.c c') (hk : Ax P fn c (.code x k) fr (H.set h (some ⟨o.ty, c'⟩))) : Ax P fn c (.code x k) fr H :=
  fun w a σ S hr => hk w a σ S (hr.trunc hh ht)
theorem ax_trunc_ops {q : Bool} {all : Array Oper} {rest : List Oper} (h : Nat) {o : AObj} (c' : Cells) (hh : H[h]? = some (some o)) (ht : CTrunc o.c c') (hk : Ax P fn c (.ops q all rest k) fr (H.set h (some ⟨o.ty, c'⟩))) : Ax P fn c (.ops q all rest k) fr H := by
  cases q with
  | true => exact fun hd w a σ S hr => hk hd w a σ S (hr.trunc hh ht)
  | false => exact fun hd w a σ S hr => hk hd w a σ S (hr.trunc hh ht)
end

/-- What the first stands for, the second does too. -/
def AEq (x y : AV) : Prop := ∀ (w : World) (S : Nat → Prop) (σ : Nat → Option Blk) (v : Value), VR w S σ x v → VR w S σ y v
theorem AEq.ro {c c' : Cells} {i i' n : Nat} (hs : c'.sz = c.sz) (h : ∀ d j, d < n → j < c.sz → c'.at (i' + d) j = c.at (i + d) j) : AEq (.ro c i n) (.ro c' i' n) := by
  have _pin := (inferInstance : Pins)
  intro w S σ v hv
  cases hv with
  | ro0 => exact .ro0 _ _ _ _ _
  | ro _ _ _ _ b o cap val hS hlen hc hv h1 =>
    refine .ro _ _ _ _ b o cap val hS hlen (fun d j hd hj => ?_) (fun d j hd hj => ?_) (fun d j hd hj => h1 d j hd (by rwa [hs] at hj))
    · rw [hs] at hj ⊢; exact hc d j hd hj
    · rw [hs] at hj
      rw [h d j hd hj]; exact hv d j hd hj
theorem AEq.of_eq {x y : AV} (h : x = y) : AEq x y := have _pin := (inferInstance : Pins); fun _ _ _ _ hv => h ▸ hv
theorem AEq.rfl' {x : AV} : AEq x x := have _pin := (inferInstance : Pins); fun _ _ _ _ hv => hv
theorem AEq.trans {x y z : AV} (h : AEq x y) (h' : AEq y z) : AEq x z := have _pin := (inferInstance : Pins); fun _ _ _ _ hv => h' _ _ _ _ (h _ _ _ _ hv)
theorem AEq.ro_in {c c' : Cells} {i i' n : Nat} (hs : c'.sz = c.sz) (h : ∀ d j, d < n → j < c.sz → AEq (c.at (i + d) j) (c'.at (i' + d) j)) : AEq (.ro c i n) (.ro c' i' n) := by
  have _pin := (inferInstance : Pins)
  intro w S σ v hv
  cases hv with
  | ro0 => exact .ro0 _ _ _ _ _
  | ro _ _ _ _ b o cap val hS hlen hc hv h1 =>
    refine .ro _ _ _ _ b o cap val hS hlen (fun d j hd hj => ?_) (fun d j hd hj => ?_) (fun d j hd hj => h1 d j hd (by rwa [hs] at hj))
    · rw [hs] at hj ⊢; exact hc d j hd hj
    · rw [hs] at hj
      exact h d j hd hj _ _ _ _ (hv d j hd hj)
/-- Rows of integers. -/
def rowsI (ls : List (List Int)) : Cells := .fn ls.length 1 (fun i _ => .ro (.ints .i64 (ls.getD i [])) 0 (ls.getD i []).length)
theorem AEq.take {k : IntKind} {l : List Int} {n : Nat} : AEq (.ro (.ints k l) 0 n) (.ro (.ints k (l.take n)) 0 n) :=
  AEq.ro rfl (fun d j hd _ => by simp only [Cells.at, Nat.zero_add, List.getD, List.getElem?_take, hd, if_true])
theorem AEq.drop {k : IntKind} {l : List Int} {i n : Nat} : AEq (.ro (.ints k l) i n) (.ro (.ints k (l.drop i)) 0 n) :=
  AEq.ro rfl (fun d j hd _ => by simp only [Cells.at, Nat.zero_add, List.getD, List.getElem?_drop])
theorem AEq.nil {c : Cells} {i : Nat} : AEq .nil (.ro c i 0) := by
  have _pin := (inferInstance : Pins)
  intro w S σ v hv
  cases hv
  exact .ro0 _ _ _ _ _
theorem Rep.slot {c : Ctx} {w : World} {a : Act} {σ : Nat → Option Blk} {S : Nat → Prop} {n t : Nat} {fr : Fr} {H : AHeap} {x y : AV} (hr : Rep c w a σ S n fr H) (hl : look t fr = some x) (h : AEq x y) : Rep c w a σ S n ((t, y) :: fr) H := by
  refine ⟨hr.hr, hr.kp, hr.defers, hr.size, fun u v hu => ?_⟩
  simp only [look] at hu
  by_cases he : u = t
  · subst he
    simp only [Nat.beq_refl, cond_true, Option.some.injEq] at hu
    subst hu
    exact ⟨(hr.slots u x hl).1, h _ _ _ _ (hr.slots u x hl).2⟩
  · simp only [beq_ne he, cond_false] at hu
    exact hr.slots u v hu
section
variable {P : Program} {fn : Func} {c : Ctx} {fr : Fr} {H : AHeap} {k : List It}
theorem ax_slot {x : Code} (t : Nat) {v : AV} (y : AV) (hl : look t fr = some v) (h : AEq v y) (hk : Ax P fn c (.code x k) ((t, y) :: fr) H) : Ax P fn c (.code x k) fr H :=
  fun w a σ S hr => hk w a σ S (hr.slot hl h)
theorem ax_slot_ops {q : Bool} {all : Array Oper} {rest : List Oper} (t : Nat) {v : AV} (y : AV) (hl : look t fr = some v) (h : AEq v y) (hk : Ax P fn c (.ops q all rest k) ((t, y) :: fr) H) : Ax P fn c (.ops q all rest k) fr H := by
  cases q with
  | true => exact fun hd w a σ S hr => hk hd w a σ S (hr.slot hl h)
  | false => exact fun hd w a σ S hr => hk hd w a σ S (hr.slot hl h)
end

/-- What a world's new blocks may hold, and the old ones as they were: a contract on plain values. -/
theorem VCall.of_below {P : Program} {f : FuncId} {args : List AV} {r : AV} (hf : ∃ fn, P.funcs[f]? = some fn ∧ (fn.name == "runtime.NumGoroutine") = false ∧ fn.body.isNone = false) (hn : noRef.noRefs args = true) (hr : noRef r = true)
    (h : ∀ (w : World) (S : Nat → Prop) (vals : Array Value), Pins.G w S → (∀ b, S b → b < w.heap.size) → VRs w S (fun _ => none) args vals →
      Calls P f vals w (fun e w' => ∃ v, e = .returned v ∧ Below w.heap.size w w' ∧ VR w' (fun b => S b ∨ (w.heap.size ≤ b ∧ b < w'.heap.size)) (fun _ => none) r v)) : VCall P f args r := by
  intro H
  refine ⟨hf, fun w σ S vals hp hrep hfx hv => ?_⟩
  refine (h w S vals hp.now hrep.small (hv.closed hn _)).mono ?_
  rintro e w' ⟨v, rfl, hb, hvr⟩
  have hold : ∀ b, b < w.heap.size → w'.heap[b]? = w.heap[b]? := fun b hb' => hb.block b hb'
  have hup : ∀ {σ1 : Nat → Option Blk} {x v}, VR w S σ1 x v → VR w' (fun b => S b ∨ (w.heap.size ≤ b ∧ b < w'.heap.size)) σ1 x v := fun h => h.mono (fun _ h => .inl h) (fun b hs => hold b (hrep.small b hs)) _ (fun _ _ h => h)
  refine ⟨v, r, σ, fun b => S b ∨ (w.heap.size ≤ b ∧ b < w'.heap.size), H, rfl, ⟨fun h o ho => ?_, hrep.dist, fun b hs => ?_, hrep.dom⟩, hvr.closed hr σ, ⟨hb.os, hb.output, hb.tape, hb.size, fun b hb' _ => hold b hb', fun b hs => .inl hs, fun b hs => ?_, fun _ _ => rfl, fun _ hl => hl, fun h o b s C h1 h2 => .inl ⟨h, o, s, C, h1, h2⟩⟩, rfl, rfl⟩
  · rcases hrep.live h o ho with g | ⟨b, C, cur, g1, g2, g3, g4, g5, g6, g7⟩
    · exact .inl g
    · have hlt := g2.lt
      refine .inr ⟨b, C, cur, g1, g2.mono (hold b hlt) hup, g3, g4, g5, ?_, fun i j hi hj => ?_⟩
      · rintro (hs | hs)
        · exact g6 hs
        · omega
      · obtain ⟨v, e1, e2, e3⟩ := g7 i j hi hj
        exact ⟨v, e1, hup e2, e3⟩
  · rcases hs with hs | hs
    · exact Nat.lt_of_lt_of_le (hrep.small b hs) hb.size
    · exact hs.2
  · rcases hs with hs | hs
    · exact .inl hs
    · exact .inr (.inr hs.1)
end Go.Ax

/-
  More rules: slices from the beginning; looks at a walk's state (for my own use while a text is being written).
-/
namespace Go.Ax
variable [Pins]
open Go.RowKit

section
variable {ind : Bool} {P : Program} {fn : Func} {c : Ctx} {fr : Fr} {H : AHeap} {k : List It}
variable {d : Option Nat} {ty : TypeId} {pos : String} {after : Array Edge} {g : Option (Nat × Bool)}
/-- x[:h] -/
theorem q_slice_sl0 {x : Operand} {t e : TypeId} {lo hi : Option Operand} {lo' hi' : Option AV} {h' i n : Nat} {ob : AObj} {l h : Int} (ht : P.underlying t = some (.slice e)) (hx : ev fr x = some (.sl h' i n)) (hh : H[h']? = some (some ob)) (hs : (P.info? e).map (·.size) = some ob.c.sz)
    (h1 : evo fr lo = some lo') (h2 : evo fr hi = some hi') (h3 : sbnd 0 lo' = some l) (h4 : sbnd n hi' = some h) (hb : l = 0 ∧ 0 ≤ h ∧ h ≤ n) :
    QOp ind P fn c fr H ⟨d, .slice t x lo hi none, ty, pos, after, g⟩ (.sl h' i h.toNat) := by
  intro w a σ S hr
  have hxv := hr.evAt hx
  generalize hz : a.eval x = z at hxv
  obtain ⟨rfl, hb1, hb2⟩ := hb
  cases hxv with
  | sl0 _ _ hσ =>
    have h0 : h = 0 := by omega
    subst h0
    refine ⟨.slice none 0 0, .sl0 _ _ hσ, fun w' _ => ?_⟩
    have hbs := run_sliceBounds (P := P) (w := w') (isS := true) (len := 0) (cap := 0) hr h1 h2 h3 h4 ⟨by omega, by omega, by omega⟩
    cases hq : P.info? e with
    | none => simp [hq] at hs
    | some inf => simp [execOp, hz, Instr.sliceAt, Instr.slice, run_underlying ht, hbs, sizeOf, typeInfo, hq]
  | sl _ _ _ _ b s C cap hσ hlen hcap =>
    obtain ⟨hs', cur, g1, g2, g3, g4, g5, g6⟩ := hr.obj hh hσ
    subst hs'
    refine ⟨.slice (some ⟨b, i * ob.c.sz, none⟩) h.toNat cap, .sl _ _ _ _ _ _ C _ hσ (by omega) (by omega), fun w' _ => ?_⟩
    have hbs := run_sliceBounds (P := P) (w := w') (isS := true) (cap := cap) hr h1 h2 h3 h4 ⟨by omega, by omega, by omega⟩
    cases hq : P.info? e with
    | none => simp [hq] at hs
    | some inf => simp [execOp, hz, Instr.sliceAt, Instr.slice, run_underlying ht, hbs, sizeOf, typeInfo, hq, Addr.add_lit]
end

def Peek {α : Type} (_ : α) (_ : Fr) (_ : AHeap) : Prop := False
def PeekAny (_ : List Nat) (_ : Fr) (_ : AHeap) : Prop := False
theorem ax_peek {P : Program} {fn : Func} {c : Ctx} {q : Bool} {all : Array Oper} {o : Oper} {rest : List Oper} {k : List It} {fr : Fr} {H : AHeap} (h : Peek o.op fr H) : Ax P fn c (.ops q all (o :: rest) k) fr H := h.elim
theorem ax_peek_post {P : Program} {fn : Func} {c : Ctx} {e : Exit} {k : List It} {fr : Fr} {H : AHeap} (h : Peek e fr H) : Ax P fn c (.post e k) fr H := h.elim
theorem ax_peek_code {P : Program} {fn : Func} {c : Ctx} {x : Code} {k : List It} {fr : Fr} {H : AHeap} (h : Peek 0 fr H) : Ax P fn c (.code x k) fr H := h.elim
theorem ax_peek_any {P : Program} {fn : Func} {c : Ctx} {all : Array Oper} {fuel : Nat} {listed : Array Bool} {k : List It} {fr : Fr} {H : AHeap} (h : PeekAny (Region.ready .any all listed) fr H) : Ax P fn c (.any all fuel listed k) fr H := h.elim
end Go.Ax

/-
  More rules: many nil slices at once; objects that are only read from now on.
-/
namespace Go.Ax
variable [Pins]
open Go.RowKit

/-- One more object, of which there is nothing yet. -/
theorem Rep.nowhere1 {c : Ctx} {w : World} {a : Act} {σ : Nat → Option Blk} {S : Nat → Prop} {n : Nat} {fr : Fr} {H : AHeap} (hr : Rep c w a σ S n fr H) {o : AObj} (ho : o.c.len = 0) : Rep c w a (upσ σ H.length .nowhere) S n fr (H ++ [some o]) := by
  have hext : ∀ h B, σ h = some B → upσ σ H.length .nowhere h = some B := by
    intro h B hB
    unfold upσ
    split
    · rename_i he; rw [he, hr.hr.dom _ (Nat.le_refl _)] at hB; cases hB
    · exact hB
  have hv : ∀ {x v}, VR w S σ x v → VR w S (upσ σ H.length .nowhere) x v := fun h => h.mono (fun _ h => h) (fun _ _ => rfl) _ hext
  have hset : ∀ (h' : Nat) (o' : AObj), (H ++ [some o])[h']? = some (some o') → (h' = H.length ∧ o' = o) ∨ (h' < H.length ∧ H[h']? = some (some o')) := by
    intro h' o' ho
    by_cases he : h' < H.length
    · rw [List.getElem?_append_left he] at ho; exact .inr ⟨he, ho⟩
    · by_cases he2 : h' = H.length
      · subst he2; simp at ho; exact .inl ⟨rfl, ho.symm⟩
      · have : (H ++ [some o]).length ≤ h' := by simp; omega
        rw [List.getElem?_eq_none this] at ho; cases ho
  have hnone : ∀ h, h < H.length → upσ σ H.length .nowhere h = σ h := fun h hl => by simp [upσ, Nat.ne_of_lt hl]
  have hat : upσ σ H.length .nowhere H.length = some .nowhere := by simp [upσ]
  refine ⟨⟨?_, ?_, hr.hr.small, fun h hl => ?_⟩, ⟨hr.kp.os, hr.kp.output, hr.kp.tape, hr.kp.size, hr.kp.block, hr.kp.S1, hr.kp.S2, fun h hf => by rw [hnone h (hr.kp.fixlt h hf)]; exact hr.kp.fixed h hf, fun h hf => by have := hr.kp.fixlt h hf; simp; omega, ?_⟩, hr.defers, hr.size, fun t v hl => ⟨(hr.slots t v hl).1, hv (hr.slots t v hl).2⟩⟩
  · intro h' o' ho'
    rcases hset h' o' ho' with ⟨rfl, rfl⟩ | ⟨hlt, ho'⟩
    · exact .inl ⟨hat, ho⟩
    · rcases hr.hr.live h' o' ho' with ⟨hn, hl0⟩ | ⟨b', C', cu, g1, g2, g3, g4, g5, g6, g7⟩
      · exact .inl ⟨hext _ _ hn, hl0⟩
      · right
        refine ⟨b', C', cu, hext _ _ g1, g2.mono rfl hv, g3, g4, g5, g6, fun i j hi hj => ?_⟩
        obtain ⟨v, e1, e2, e3⟩ := g7 i j hi hj
        exact ⟨v, e1, hv e2, e3⟩
  · intro h1 h2 o1 o2 b s1 C1 s2 C2 q1 q2 e1 e2
    rcases hset h1 o1 q1 with ⟨rfl, rfl⟩ | ⟨l1, q1'⟩
    · rw [hat] at e1; cases e1
    · rcases hset h2 o2 q2 with ⟨rfl, rfl⟩ | ⟨l2, q2'⟩
      · rw [hat] at e2; cases e2
      · rw [hnone h1 l1] at e1
        rw [hnone h2 l2] at e2
        exact hr.hr.dist h1 h2 o1 o2 b s1 C1 s2 C2 q1' q2' e1 e2
  · simp only [List.length_append, List.length_cons, List.length_nil] at hl
    have : ¬ h = H.length := by omega
    simp only [upσ, this, if_false]
    exact hr.hr.dom h (by omega)
  · intro h' o' b s C ho hb
    rcases hset h' o' ho with ⟨rfl, rfl⟩ | ⟨hlt, ho'⟩
    · rw [hat] at hb; cases hb
    · rw [hnone h' hlt] at hb
      exact hr.kp.own h' o' b s C ho' hb

theorem upσ_ext {σ : Nat → Option Blk} {H : AHeap} {w : World} {S : Nat → Prop} (hr : HR w S σ H) (B0 : Blk) : ∀ h B, σ h = some B → upσ σ H.length B0 h = some B := by
  have _pin := (inferInstance : Pins)
  intro h B hB
  unfold upσ
  split
  · rename_i he; rw [he, hr.dom _ (Nat.le_refl _)] at hB; cases hB
  · exact hB
theorem Rep.nowheres {c : Ctx} {w : World} {a : Act} {S : Nat → Prop} {n : Nat} {fr : Fr} {o : AObj} (ho : o.c.len = 0) : ∀ (P : Nat) {σ : Nat → Option Blk} {H : AHeap}, Rep c w a σ S n fr H → ∃ σ', Rep c w a σ' S n fr (H ++ List.replicate P (some o)) ∧ (∀ h B, σ h = some B → σ' h = some B) ∧ ∀ k, k < P → σ' (H.length + k) = some .nowhere
  | 0, σ, H, hr => ⟨σ, by simpa using hr, fun _ _ h => h, fun k hk => absurd hk (Nat.not_lt_zero _)⟩
  | P + 1, σ, H, hr => by
    have h1 := hr.nowhere1 ho
    obtain ⟨σ', g1, g2, g3⟩ := Rep.nowheres ho P h1
    have e : H ++ [some o] ++ List.replicate P (some o) = H ++ List.replicate (P + 1) (some o) := by
      rw [List.append_assoc]; rfl
    rw [e] at g1
    refine ⟨σ', g1, fun h B hB => g2 h B (upσ_ext hr.hr _ h B hB), fun k hk => ?_⟩
    cases k with
    | zero => exact g2 _ _ (by simp [upσ])
    | succ k =>
      have := g3 k (by omega)
      simp only [List.length_append, List.length_cons, List.length_nil] at this
      rw [show H.length + (k + 1) = H.length + (0 + 1) + k by omega]
      exact this

/-- Cells, told otherwise. -/
theorem Rep.recell {c : Ctx} {w : World} {a : Act} {σ : Nat → Option Blk} {S : Nat → Prop} {n : Nat} {fr : Fr} {H : AHeap} (hr : Rep c w a σ S n fr H) {h : Nat} {o : AObj} (hh : H[h]? = some (some o)) {c' : Cells} (h1 : c'.len = o.c.len) (h2 : c'.kd = o.c.kd)
    (h3 : ∀ i j v, i < o.c.len → j < o.c.sz → VR w S σ (o.c.at i j) v → VR w S σ (c'.at i j) v) : Rep c w a σ S n fr (H.set h (some ⟨o.ty, c'⟩)) := by
  have hlt : h < H.length := (List.getElem?_eq_some_iff.1 hh).1
  have hset : ∀ (h' : Nat) (o' : AObj), (H.set h (some ⟨o.ty, c'⟩))[h']? = some (some o') → ∃ o0 : AObj, H[h']? = some (some o0) ∧ o'.ty = o0.ty ∧ o'.c.len = o0.c.len ∧ o'.c.kd = o0.c.kd ∧ ∀ i j v, i < o0.c.len → j < o0.c.sz → VR w S σ (o0.c.at i j) v → VR w S σ (o'.c.at i j) v := by
    intro h' o' ho
    by_cases he : h' = h
    · subst he
      simp only [List.getElem?_set_self hlt, Option.some.injEq] at ho
      subst ho
      exact ⟨o, hh, rfl, h1, h2, h3⟩
    · rw [List.getElem?_set_ne (Ne.symm he)] at ho
      exact ⟨o', ho, rfl, rfl, rfl, fun _ _ _ _ _ h => h⟩
  refine ⟨⟨fun h' o' ho => ?_, fun h1 h2 o1 o2 b s C s' C' q1 q2 e1 e2 => ?_, hr.hr.small, fun h' hl => hr.hr.dom h' (by simpa using hl)⟩, ⟨hr.kp.os, hr.kp.output, hr.kp.tape, hr.kp.size, hr.kp.block, hr.kp.S1, hr.kp.S2, hr.kp.fixed, fun h' hf => by simpa using hr.kp.fixlt h' hf, fun h' o' b s C q e => ?_⟩, hr.defers, hr.size, hr.slots⟩
  · obtain ⟨o0, h1, h2, h3, h4, h5⟩ := hset h' o' ho
    rw [h3, kd_sz h4]
    rcases hr.hr.live h' o0 h1 with g | ⟨b, C, cur, g1, g2, g3, g4, g5, g6, g7⟩
    · exact .inl g
    · exact .inr ⟨b, C, cur, g1, g2.kd h2 h4, g3, g4, g5, g6, fun i j hi hj => by
        obtain ⟨v, e1, e2, e3⟩ := g7 i j hi hj
        exact ⟨v, e1, h5 i j v hi hj e2, e3⟩⟩
  · obtain ⟨p, p1, _⟩ := hset h1 o1 q1
    obtain ⟨p', p1', _⟩ := hset h2 o2 q2
    exact hr.hr.dist h1 h2 p p' b s C s' C' p1 p1' e1 e2
  · obtain ⟨p, p1, _⟩ := hset h' o' q
    exact hr.kp.own h' p b s C p1 e

section
variable {P : Program} {fn : Func} {c : Ctx} {fr : Fr} {H : AHeap} {k : List It}
/-- A row of nil slices: each an object that has nothing yet. -/
theorem ax_nilrow {x : Code} (h : Nat) (N : Nat) (o : AObj) {t : TypeId} {f : Nat → Nat → AV} (hh : H[h]? = some (some ⟨t, .fn N 1 f⟩)) (hf : ∀ k, k < N → f k 0 = .nil) (ho : o.c.len = 0)
    (hk : Ax P fn c (.code x k) fr ((H ++ List.replicate N (some o)).set h (some ⟨t, .fn N 1 (fun k _ => .sl (H.length + k) 0 0)⟩))) : Ax P fn c (.code x k) fr H := by
  intro w a σ S hr
  obtain ⟨σ', g1, g2, g3⟩ := Rep.nowheres ho N hr
  have hlt : h < H.length := (List.getElem?_eq_some_iff.1 hh).1
  have hh' : (H ++ List.replicate N (some o))[h]? = some (some ⟨t, .fn N 1 f⟩) := by rw [List.getElem?_append_left hlt]; exact hh
  refine hk w a σ' S (g1.recell hh' rfl rfl (fun i j v hi hj hv => ?_))
  simp only [Cells.len, Cells.sz] at hi hj
  obtain rfl : j = 0 := by omega
  simp only [Cells.at, hf i hi] at hv ⊢
  cases hv
  exact .sl0 _ _ (g3 i hi)
end

/-- What a value is told as, once the objects of HF are only read. -/
def FzTo (HF : AHeap) (x y : AV) : Prop := y = x ∨ y = .any ∨ (y = x.frz HF ∧ inB HF x)
def fzk (HF : AHeap) (fr : Fr) : Fr → Prop
  | [] => True
  | (t, y) :: r => (∃ x, look t fr = some x ∧ FzTo HF x y) ∧ fzk HF fr r
theorem look_fzk {HF : AHeap} {fr L : Fr} {t : Nat} {y : AV} (h : fzk HF fr L) (hl : look t L = some y) : ∃ x, look t fr = some x ∧ FzTo HF x y := by
  have _pin := (inferInstance : Pins)
  induction L with
  | nil => simp [look] at hl
  | cons p r ih =>
    obtain ⟨u, x⟩ := p
    obtain ⟨h1, h2⟩ := h
    simp only [look] at hl
    by_cases he : t = u
    · subst he; simp at hl; subst hl; exact h1
    · have hb : Nat.beq t u = false := beq_ne he
      simp [hb] at hl
      exact ih h2 hl

/-- Objects that nobody writes any more join the region. -/
theorem Rep.freeze {c : Ctx} {w : World} {a : Act} {σ : Nat → Option Blk} {S : Nat → Prop} {n : Nat} {fr L : Fr} {H : AHeap} (hr : Rep c w a σ S n fr H) (HF H' : AHeap) (hsub : subH HF H) (hrl : ∀ (h : Nat) (o : AObj), HF[h]? = some (some o) → refless o.c)
    (hlen : H'.length = H.length)
    (hH : ∀ (h : Nat) (o' : AObj), H'[h]? = some (some o') → (∀ o : AObj, HF[h]? ≠ some (some o)) ∧ ∃ o : AObj, H[h]? = some (some o) ∧ o'.ty = o.ty ∧ o'.c.len = o.c.len ∧ o'.c.kd = o.c.kd ∧ ∀ i j, i < o.c.len → j < o.c.sz → FzTo HF (o.c.at i j) (o'.c.at i j))
    (hL : fzk HF fr L) : ∃ S', Rep c w a σ S' n L H' := by
  have hlive : LiveP w S σ HF := fun h o ho => hr.hr.live h o (hsub h o ho)
  let S' : Nat → Prop := fun b => S b ∨ ∃ h o s C, HF[h]? = some (some o) ∧ σ h = some (.at b s C)
  have hup : ∀ {σ1 : Nat → Option Blk} {x v}, VR w S σ1 x v → VR w S' σ1 x v := fun h => h.mono (fun _ h => .inl h) (fun _ _ => rfl) _ (fun _ _ h => h)
  have hfz : ∀ {x y v}, FzTo HF x y → VR w S σ x v → VR w S' σ y v := by
    intro x y v h hv
    rcases h with rfl | rfl | ⟨rfl, hin⟩
    · exact hup hv
    · exact .any _ _
    · exact VR.freeze hlive hrl (fun _ h => .inl h) (fun h o b s C h1 h2 => .inr ⟨h, o, s, C, h1, h2⟩) hv σ hin
  refine ⟨S', ⟨fun h o' ho' => ?_, fun h1 h2 o1 o2 b s C s' C' q1 q2 e1 e2 => ?_, fun b hb => ?_, fun h hl => hr.hr.dom h (by omega)⟩, ⟨hr.kp.os, hr.kp.output, hr.kp.tape, hr.kp.size, hr.kp.block, fun b hb => .inl (hr.kp.S1 b hb), fun b hb => ?_, hr.kp.fixed, fun h hf => by rw [hlen]; exact hr.kp.fixlt h hf, fun h o b s C q e => ?_⟩, hr.defers, hr.size, fun t y hy => ?_⟩
  · obtain ⟨hno, o, h1, h2, h3, h4, h5⟩ := hH h o' ho'
    rw [h3, kd_sz h4]
    rcases hr.hr.live h o h1 with g | ⟨b, C, cur, g1, g2, g3, g4, g5, g6, g7⟩
    · exact .inl g
    · refine .inr ⟨b, C, cur, g1, (g2.mono rfl hup).kd h2 h4, g3, g4, g5, ?_, fun i j hi hj => ?_⟩
      · rintro (hs | ⟨h', o2, s2, C2, q1, q2⟩)
        · exact g6 hs
        · have := hr.hr.dist h h' o o2 b _ C s2 C2 h1 (hsub h' o2 q1) g1 q2
          subst this
          exact hno o2 q1
      · obtain ⟨v, e1, e2, e3⟩ := g7 i j hi hj
        exact ⟨v, e1, hfz (h5 i j hi hj) e2, e3⟩
  · obtain ⟨_, p, p1, _⟩ := hH h1 o1 q1
    obtain ⟨_, p', p1', _⟩ := hH h2 o2 q2
    exact hr.hr.dist h1 h2 p p' b s C s' C' p1 p1' e1 e2
  · rcases hb with hs | ⟨h, o, s, C, q1, q2⟩
    · exact hr.hr.small b hs
    · obtain ⟨_, cu, g, _⟩ := hr.obj (hsub h o q1) q2
      exact g.lt
  · rcases hb with hs | ⟨h, o, s, C, q1, q2⟩
    · exact hr.kp.S2 b hs
    · rcases hr.kp.own h o b s C (hsub h o q1) q2 with g | g
      · exact .inr (.inl g)
      · exact .inr (.inr g)
  · obtain ⟨_, p, p1, _⟩ := hH h o q
    exact hr.kp.own h p b s C p1 e
  · obtain ⟨x, hx, hf⟩ := look_fzk hL hy
    exact ⟨(hr.slots t x hx).1, hfz hf (hr.slots t x hx).2⟩

section
variable {P : Program} {fn : Func} {c : Ctx} {fr : Fr} {H : AHeap} {k : List It}
theorem ax_freeze {x : Code} (HF H' : AHeap) (L : Fr) (hsub : subH HF H) (hrl : ∀ (h : Nat) (o : AObj), HF[h]? = some (some o) → refless o.c) (hlen : H'.length = H.length)
    (hH : ∀ (h : Nat) (o' : AObj), H'[h]? = some (some o') → (∀ o : AObj, HF[h]? ≠ some (some o)) ∧ ∃ o : AObj, H[h]? = some (some o) ∧ o'.ty = o.ty ∧ o'.c.len = o.c.len ∧ o'.c.kd = o.c.kd ∧ ∀ i j, i < o.c.len → j < o.c.sz → FzTo HF (o.c.at i j) (o'.c.at i j))
    (hL : fzk HF fr L) (hk : Ax P fn c (.code x k) L H') : Ax P fn c (.code x k) fr H := by
  intro w a σ S hr
  obtain ⟨S', hr'⟩ := hr.freeze HF H' hsub hrl hlen hH hL
  exact hk w a σ S' hr'
theorem ax_heap_eq {x : Code} (H' : AHeap) (he : H = H') (hk : Ax P fn c (.code x k) fr H') : Ax P fn c (.code x k) fr H := he ▸ hk
theorem ax_heap_any {all : Array Oper} {fuel : Nat} {listed : Array Bool} (H' : AHeap) (hs : HSub H H') (h : Ax P fn c (.any all fuel listed k) fr H') : Ax P fn c (.any all fuel listed k) fr H :=
  fun w a σ S hr => h w a σ S (hr.heap hs)
theorem ax_slot_any {all : Array Oper} {fuel : Nat} {listed : Array Bool} (t : Nat) {v : AV} (y : AV) (hl : look t fr = some v) (h : AEq v y) (hk : Ax P fn c (.any all fuel listed k) ((t, y) :: fr) H) : Ax P fn c (.any all fuel listed k) fr H :=
  fun w a σ S hr => hk w a σ S (hr.slot hl h)
theorem ax_freeze_ops {all : Array Oper} {rest : List Oper} (HF H' : AHeap) (L : Fr) (hsub : subH HF H) (hrl : ∀ (h : Nat) (o : AObj), HF[h]? = some (some o) → refless o.c) (hlen : H'.length = H.length)
    (hH : ∀ (h : Nat) (o' : AObj), H'[h]? = some (some o') → (∀ o : AObj, HF[h]? ≠ some (some o)) ∧ ∃ o : AObj, H[h]? = some (some o) ∧ o'.ty = o.ty ∧ o'.c.len = o.c.len ∧ o'.c.kd = o.c.kd ∧ ∀ i j, i < o.c.len → j < o.c.sz → FzTo HF (o.c.at i j) (o'.c.at i j))
    (hL : fzk HF fr L) (hk : Ax P fn c (.ops false all rest k) L H') : Ax P fn c (.ops false all rest k) fr H := by
  intro hd w a σ S hr
  obtain ⟨S', hr'⟩ := hr.freeze HF H' hsub hrl hlen hH hL
  exact hk hd w a σ S' hr'

/-- A contract out of a walk over no memory. -/
theorem acall_of_ax0 {f : FuncId} {code : Code} {args : List AV} {fix : Nat → Prop} {R : AV → AHeap → Prop} (hf : P.funcs[f]? = some fn) (hb : fn.body = some code) (hn : (fn.name == "runtime.NumGoroutine") = false) (hsz : Nat.ble args.length fn.ntmps = true)
    (h : ∀ c : Ctx, c.R = R → c.fix = fix → (∀ b, ¬ c.O b) → Ax P fn c (.code code []) (argsFr 0 args) []) : ACall P f args [] fix R := by
  refine ⟨⟨fn, hf, hn, by rw [hb]; rfl⟩, fun w σ S vals hpin hhr hfl hv => ?_⟩
  refine calls_of_wp hf hb ?_
  have hsz' : args.length ≤ fn.ntmps := Nat.le_of_ble_eq_true hsz
  have hrep : Rep (mkCtx w S σ [] fix R hpin) w { tmps := vals ++ Array.replicate (fn.ntmps - vals.size) undef, defers := [] } σ S fn.ntmps (argsFr 0 args) [] := by
    refine ⟨hhr, ⟨rfl, rfl, rfl, Nat.le_refl _, fun _ _ _ => rfl, fun _ h => h, fun _ h => .inl h, fun _ _ => rfl, hfl, fun h o b s C h1 h2 => .inl ⟨h, o, s, C, h1, h2⟩⟩, rfl, by simp [hv.1]; omega, fun t v hl => ?_⟩
    obtain ⟨_, h2, h3⟩ := look_argsFr args 0 t v hl
    simp only [Nat.zero_add, Nat.sub_zero] at h2 h3
    refine ⟨by omega, ?_⟩
    have := hv.2 t h2
    rw [h3] at this
    have hlt : t < vals.size := by rw [hv.1]; exact h2
    have e : (vals ++ Array.replicate (fn.ntmps - vals.size) undef).getD t undef = vals.getD t undef := by
      simp [Array.getElem?_append, hlt]
    rw [e]; exact this
  refine wp_mono (h (mkCtx w S σ [] fix R hpin) rfl rfl (by rintro b ⟨h, o, s, C, h1, _⟩; simp at h1) w _ σ S hrep) ?_
  rintro e a' w' ⟨σ', S', fr', H', hr', hp⟩
  obtain ⟨he, vs, hvs, hR⟩ := hp
  obtain ⟨x, hx, hvx⟩ := results_spec hr' hvs
  have fin : a'.defers = [] ∧ ∃ v, (results fn a'.tmps).run P w' = .ok v w' ∧ ∃ v_1 r σ'_1 S'_1 H'_1, Ending.returned v = .returned v_1 ∧ HR w' S'_1 σ'_1 H'_1 ∧ VR w' S'_1 σ'_1 r v_1 ∧ Kp (mkCtx w S σ [] fix R hpin) w' S'_1 σ'_1 H'_1 ∧ R r H'_1 :=
    ⟨hr'.defers, x, hx, x, tupOf vs, σ', S', H', rfl, hr'.hr, hvx, hr'.kp, hR⟩
  rcases he with rfl | rfl
  · exact fin
  · exact fin
end
end Go.Ax

/-
  Rules: functions of the library that the model gives itself.
-/
namespace Go.Ax
variable [Pins]
open Go.RowKit

section
variable {ind : Bool} {P : Program} {fn : Func} {c : Ctx} {fr : Fr} {H : AHeap} {k : List It}
variable {d : Option Nat} {ty : TypeId} {pos : String} {after : Array Edge} {gu : Option (Nat × Bool)}

theorem q_extern {g : Operand} {args : List Operand} {ats : Array TypeId} {f : FuncId} {fx : Func} {e : Array Value → Sem Value} {ags : List AV} {r : AV} (hg : ev fr g = some (.fn f [])) (ha : evs fr args = some ags)
    (hf : P.funcs[f]? = some fx) (hname : (fx.name == "runtime.NumGoroutine") = false) (hb : fx.body.isNone = true) (hn : Extern.findNext fx = none) (he : Extern.find fx = some e)
    (hrun : ∀ w S σ vals, VRs w S σ ags vals → ∃ x, VR w S σ r x ∧ ∀ w', (e vals).run P w' = .ok x w') :
    QOp ind P fn c fr H ⟨d, .call { callee := .value g, args := args.toArray, argTypes := ats }, ty, pos, after, gu⟩ r := by
  intro w a σ S hr
  have h1 := hr.evAt hg
  obtain ⟨e1, e2⟩ := evs_spec hr args ags ha
  generalize hz : a.eval g = z at h1
  cases h1 with
  | fn _ _ _ vs hl hv =>
    have hvs : vs = #[] := by
      have : vs.size = 0 := by simpa using hl
      exact Array.eq_empty_of_size_eq_zero this
    subst hvs
    have hv0 : VRs w S σ ags (args.map a.eval).toArray := by
      refine ⟨by simp [e1], fun i hi => ?_⟩
      have := e2 i hi
      have hlt : i < args.length := by omega
      have eb : (args.map a.eval).toArray.getD i undef = (args.map a.eval).getD i undef := by simp [List.getD, hlt]
      rw [eb]; exact this
    obtain ⟨x, hx2, hall⟩ := hrun w S σ _ hv0
    refine ⟨x, hx2, fun w' _ => ?_⟩
    have hc := run_callFunc_extern (P := P) hf hname hb hn he (args.map a.eval).toArray w'
    rw [hall w'] at hc
    simp only [execOp, resolve, hz, Deferred.ofValue, Sem.run_bind, Sem.run_pure, Result.andThen_ok, invoke, List.map_toArray, Array.empty_append, Array.append_empty] at hc ⊢
    exact hc

theorem VRs.strByte {w : World} {S : Nat → Prop} {σ : Nat → Option Blk} {s : List UInt8} {b : Int} {vals : Array Value} (h : VRs w S σ [.str s, .int .u8 b] vals) : vals = #[strV s, .int .u8 b] := by
  have _pin := (inferInstance : Pins)
  obtain ⟨h1, h2⟩ := h
  have a := h2 0 (by simp)
  have b' := h2 1 (by simp)
  apply Array.ext
  · simpa using h1
  · intro i hi1 hi2
    have hlt : i < 2 := by simpa using hi2
    match i, hlt with
    | 0, _ =>
      simp only [List.getD_cons_zero, Array.getD, hi1, dite_true] at a
      generalize hv : vals[0] = v at *
      have hv' : vals.getInternal 0 hi1 = v := hv
      rw [hv'] at a
      cases a; rfl
    | 1, _ =>
      simp only [List.getD_cons_succ, List.getD_cons_zero, Array.getD, hi1, dite_true] at b'
      generalize hv : vals[1] = v at *
      have hv' : vals.getInternal 1 hi1 = v := hv
      rw [hv'] at b'
      cases b'; rfl
/-- internal/bytealg.IndexByteString -/
theorem q_indexByte {g x y : Operand} {ats : Array TypeId} {f : FuncId} {fx : Func} {s : List UInt8} {b : Int} (hg : ev fr g = some (.fn f [])) (hx : ev fr x = some (.str s)) (hy : ev fr y = some (.int .u8 b))
    (hf : P.funcs[f]? = some fx) (hname : (fx.name == "runtime.NumGoroutine") = false) (hb : fx.body.isNone = true) (hn : Extern.findNext fx = none) (he : Extern.find fx = some Extern.BytealgIndexByte.indexByte) :
    QOp ind P fn c fr H ⟨d, .call { callee := .value g, args := #[x, y], argTypes := ats }, ty, pos, after, gu⟩ (.int .i64 (Lib.indexByte s b.toNat.toUInt8)) :=
  q_extern (args := [x, y]) (ags := [.str s, .int .u8 b]) hg (by simp [evs, hx, hy]) hf hname hb hn he (fun w S σ vals hv => ⟨_, .int _ _ _, fun w' => by rw [hv.strByte]; exact Lib.run_indexByteString _ _ _⟩)
/-- internal/bytealg.CountString -/
theorem q_countByte {g x y : Operand} {ats : Array TypeId} {f : FuncId} {fx : Func} {s : List UInt8} {b : Int} (hg : ev fr g = some (.fn f [])) (hx : ev fr x = some (.str s)) (hy : ev fr y = some (.int .u8 b))
    (hf : P.funcs[f]? = some fx) (hname : (fx.name == "runtime.NumGoroutine") = false) (hb : fx.body.isNone = true) (hn : Extern.findNext fx = none) (he : Extern.find fx = some Extern.BytealgCount.count) :
    QOp ind P fn c fr H ⟨d, .call { callee := .value g, args := #[x, y], argTypes := ats }, ty, pos, after, gu⟩ (.int .i64 (s.count b.toNat.toUInt8 : Nat)) :=
  q_extern (args := [x, y]) (ags := [.str s, .int .u8 b]) hg (by simp [evs, hx, hy]) hf hname hb hn he (fun w S σ vals hv => ⟨_, .int _ _ _, fun w' => by rw [hv.strByte]; exact Lib.run_countString _ _ _⟩)
end

theorem rowsI_app (ls : List (List Int)) (s : List Int) (cx : Cells) (h0 : cx.at 0 0 = .ro (.ints .i64 s) 0 s.length) (i j : Nat) (hi : i < ls.length + 1) (hj : j < 1) :
    (bif Nat.blt i ls.length then (rowsI ls).at i j else cx.at (0 + (i - ls.length)) j) = (rowsI (ls ++ [s])).at i j := by
  have _pin := (inferInstance : Pins)
  obtain rfl : j = 0 := by omega
  by_cases h : i < ls.length
  · have hb : Nat.blt i ls.length = true := Nat.ble_eq_true_of_le h
    simp only [hb, cond_true, rowsI, Cells.at, List.getD]
    rw [List.getElem?_append_left h]
  · have hb : Nat.blt i ls.length = false := by
      cases hq : Nat.blt i ls.length with
      | false => rfl
      | true => exact absurd (Nat.le_of_ble_eq_true hq) h
    have hi' : i = ls.length := by omega
    subst hi'
    have e : (rowsI (ls ++ [s])).at ls.length 0 = .ro (.ints .i64 s) 0 s.length := by
      simp only [rowsI, Cells.at, List.getD]
      rw [List.getElem?_append_right (Nat.le_refl _)]
      simp
    rw [hb, e, Nat.sub_self, Nat.add_zero, h0]; rfl
/-- The row, one longer. -/
theorem rowsI_snoc (ls : List (List Int)) (s : List Int) (cx : Cells) (h0 : cx.at 0 0 = .ro (.ints .i64 s) 0 s.length) :
    CEq (.fn (ls.length + 1) 1 (fun i j => bif Nat.blt i ls.length then (rowsI ls).at i j else cx.at (0 + (i - ls.length)) j)) (rowsI (ls ++ [s])) := by
  refine ⟨by simp [rowsI, Cells.len], rfl, fun i j hi hj => ?_⟩
  exact (rowsI_app ls s cx h0 i j hi hj).symm
theorem rowsI_noref (ls : List (List Int)) (s : List Int) (cx : Cells) (h0 : cx.at 0 0 = .ro (.ints .i64 s) 0 s.length) (h i j : Nat) (hi : i < ls.length + 1) (hj : j < 1) :
    (bif Nat.blt i ls.length then (rowsI ls).at i j else cx.at (0 + (i - ls.length)) j).forget h = (bif Nat.blt i ls.length then (rowsI ls).at i j else cx.at (0 + (i - ls.length)) j) := by
  rw [rowsI_app ls s cx h0 i j hi hj]; rfl
theorem AEq.tup2 {x x' y : AV} (h : AEq x x') : AEq (.tup [x, y]) (.tup [x', y]) := by
  have _pin := (inferInstance : Pins)
  intro w S σ v hv
  cases hv with
  | tup _ _ vs hl hv =>
    refine .tup _ _ _ hl (fun i hi => ?_)
    have := hv i hi
    match i, hi with
    | 0, _ => exact h _ _ _ _ this
    | 1, _ => exact this
theorem ACall.res {P : Program} {f : FuncId} {args : List AV} {H : AHeap} {fix : Nat → Prop} {K K' : AV → AHeap → Prop} (hc : ACall P f args H fix K) (hK : ∀ r H', K r H' → ∃ r', AEq r r' ∧ K' r' H') : ACall P f args H fix K' := by
  refine ⟨hc.1, fun w σ S vals h0 h1 h2 h3 => Calls.mono (hc.2 w σ S vals h0 h1 h2 h3) fun e w' he => ?_⟩
  obtain ⟨v, r, σ', S', H', g1, g2, g3, g4, g5⟩ := he
  obtain ⟨r', hr1, hr2⟩ := hK _ _ g5
  exact ⟨v, r', σ', S', H', g1, g2, hr1 _ _ _ _ g3, ⟨g4.os, g4.output, g4.tape, g4.size, g4.block, g4.S1, g4.S2, g4.fixed, g4.fixlt, g4.own⟩, hr2⟩
def AEqs : List AV → List AV → Prop
  | [], [] => True
  | x :: r, y :: q => AEq x y ∧ AEqs r q
  | _, _ => False
theorem AEqs.length : ∀ {a b : List AV}, AEqs a b → a.length = b.length
  | [], [], _ => have _pin := (inferInstance : Pins); rfl
  | _ :: r, _ :: q, h => by simp [AEqs.length h.2]
  | [], _ :: _, h => h.elim
  | _ :: _, [], h => h.elim
theorem AEqs.get : ∀ {a b : List AV}, AEqs a b → ∀ i, i < a.length → AEq (a.getD i .any) (b.getD i .any)
  | [], [], _, i, hi => by have _pin := (inferInstance : Pins); simp at hi
  | x :: r, y :: q, h, 0, _ => h.1
  | x :: r, y :: q, h, i + 1, hi => by simpa using AEqs.get h.2 i (by simpa using hi)
  | [], _ :: _, h, _, _ => h.elim
  | _ :: _, [], h, _, _ => h.elim
/-- A contract, at arguments told otherwise. -/
theorem VCall.args {P : Program} {f : FuncId} {ags ags' : List AV} {r : AV} (hc : VCall P f ags' r) (h : AEqs ags ags') : VCall P f ags r := by
  intro H
  have h1 := hc H
  unfold ACall at h1 ⊢
  refine ⟨h1.1, fun w σ S vals hp hr hf hv => h1.2 w σ S vals hp hr hf ⟨hv.1.trans h.length, fun j hj => ?_⟩⟩
  rw [← h.length] at hj
  exact h.get j hj _ _ _ _ (hv.2 j hj)
theorem VCall.res {P : Program} {f : FuncId} {args : List AV} {r r' : AV} (hc : VCall P f args r) (h : AEq r r') : VCall P f args r' :=
  fun H => (hc H).res fun _ _ ⟨h1, h2⟩ => ⟨r', h1 ▸ h, rfl, h2⟩
end Go.Ax

/-
  More rules: arrays and structs in memory and as values.
-/
namespace Go.Ax
variable [Pins]
open Go.RowKit

section
variable {ind : Bool} {P : Program} {fn : Func} {c : Ctx} {fr : Fr} {H : AHeap} {k : List It}
variable {d : Option Nat} {ty : TypeId} {pos : String} {after : Array Edge} {g : Option (Nat × Bool)}

/-- The address of an array's element (of one cell). -/
theorem q_idxarr_ptr {x ix : Operand} {t e : TypeId} {n h i j jx : Nat} {kk : IntKind} {m : Int} (ht : P.underlying t = some (.array n e)) (hs : (P.info? e).map (·.size) = some 1) (hx : ev fr x = some (.ptr h i j)) (hi : ev fr ix = some (.int kk m)) (hj : j + m.toNat = jx) (hb : 0 ≤ m ∧ m < n) :
    QOp ind P fn c fr H ⟨d, .indexAddr t x ix, ty, pos, after, g⟩ (.ptr h i jx) := by
  intro w a σ S hr
  have h1 := hr.evAt hx
  have h2 := hr.evInt hi
  subst hj
  generalize hz : a.eval x = z at h1
  cases h1 with
  | ptr _ _ _ _ b s C hσ =>
    refine ⟨_, .ptr _ h i (j + m.toNat) b s C hσ, fun w' _ => ?_⟩
    cases hq : P.info? e with
    | none => simp [hq] at hs
    | some inf =>
      have hsz : inf.size = 1 := by simpa [hq] using hs
      simp [execOp, hz, h2, Instr.indexAt, Instr.sureAddr, asIntOf, run_underlying ht, hb, sizeOf, typeInfo, hq, hsz, Addr.add_lit, Nat.add_assoc]
theorem q_idxarr_rp {x ix : Operand} {t e : TypeId} {n i j jx : Nat} {cl : Cells} {kk : IntKind} {m : Int} (ht : P.underlying t = some (.array n e)) (hs : (P.info? e).map (·.size) = some 1) (hx : ev fr x = some (.rp cl i j)) (hi : ev fr ix = some (.int kk m)) (hj : j + m.toNat = jx) (hb : 0 ≤ m ∧ m < n) :
    QOp ind P fn c fr H ⟨d, .indexAddr t x ix, ty, pos, after, g⟩ (.rp cl i jx) := by
  intro w a σ S hr
  have h1 := hr.evAt hx
  have h2 := hr.evInt hi
  subst hj
  generalize hz : a.eval x = z at h1
  cases h1 with
  | rp _ _ _ _ b o val hS hc hvv h1' =>
    refine ⟨.pointer (some ⟨b, o + m.toNat, none⟩), .rp _ _ _ _ _ _ (fun e => val (m.toNat + e)) hS (fun e he => ?_) (fun e he => ?_) (fun e he => h1' _ (by omega)), fun w' _ => ?_⟩
    · have := hc (m.toNat + e) (by omega)
      rwa [← Nat.add_assoc] at this
    · have := hvv (m.toNat + e) (by omega)
      rwa [← Nat.add_assoc] at this
    · cases hq : P.info? e with
      | none => simp [hq] at hs
      | some inf =>
        have hsz : inf.size = 1 := by simpa [hq] using hs
        simp [execOp, hz, h2, Instr.indexAt, Instr.sureAddr, asIntOf, run_underlying ht, hb, sizeOf, typeInfo, hq, hsz, Addr.add_lit]

/-- Reading a whole struct or array. -/
theorem q_loadagg_ptr {x : Operand} {t : TypeId} {u : TypeDesc} {h i : Nat} {ob : AObj} {inf : TypeInfo} {L : List AV} (ht : P.underlying t = some u) (hu : isAggD u = true) (hinf : P.info? t = some inf) (hsz : inf.size = ob.c.sz) (hx : ev fr x = some (.ptr h i 0)) (hh : H[h]? = some (some ob))
    (hL : (List.range ob.c.sz).map (ob.c.at i) = L) (hi : i < ob.c.len) : QOp false P fn c fr H ⟨d, .load t x, ty, pos, after, g⟩ (.agg L) := by
  intro w a σ S hr
  have h1 := hr.evAt hx
  subst hL
  generalize hz : a.eval x = z at h1
  cases h1 with
  | ptr _ _ _ _ b s C hσ =>
    obtain ⟨hs', cur, g1, g2, g3, g4, g5, g6⟩ := hr.obj hh hσ
    subst hs'
    have hcell : ∀ w' : World, w'.heap = w.heap → ∀ j, j < ob.c.sz → ∃ y, w'.cell? ⟨b, i * ob.c.sz + j, none⟩ = some y ∧ VR w S σ (ob.c.at i j) y ∧ y.oneCell' = true := by
      intro w' hw j hj
      obtain ⟨y, e1, e2, e3⟩ := g6 i j hi hj
      obtain ⟨mk, g1, _, _⟩ := g1.cells (by omega)
      exact ⟨y, by simp [World.cell?, hw, g1, e1], e2, e3⟩
    let cs : List Value := (List.range ob.c.sz).map (fun j => (w.cell? ⟨b, i * ob.c.sz + j, none⟩).getD undef)
    refine ⟨.agg cs.toArray, .agg _ _ _ (by simp [cs]) (fun j hj => ?_) (fun j hj => ?_), fun w' hw => ?_⟩
    · have hj' : j < ob.c.sz := by simpa using hj
      obtain ⟨y, e1, e2, _⟩ := hcell w rfl j hj'
      simpa [cs, Array.getD, hj', e1, List.getD] using e2
    · have hj' : j < ob.c.sz := by simpa using hj
      obtain ⟨y, e1, _, e3⟩ := hcell w rfl j hj'
      simpa [cs, Array.getD, hj', e1] using e3
    · have hw := hw.resolve_left (by decide)
      have hl := run_loadCells_list (P := P) w' ⟨b, i * ob.c.sz, none⟩ cs (fun j v hv => by
        have hj : j < ob.c.sz := by simpa [cs] using (List.getElem?_eq_some_iff.1 hv).1
        obtain ⟨y, e1, _, _⟩ := hcell w rfl j hj
        simp only [cs, List.getElem?_map, List.getElem?_range hj, Option.map_some, Option.some.injEq] at hv
        subst hv
        rw [e1, Addr.add_lit]
        have := World.cell?_of_block (w := w) (w' := w') (a := ⟨b, i * ob.c.sz + j, none⟩) (by rw [hw])
        rw [this, e1]; rfl)
      have hcl : cs.length = inf.size := by simp [cs, hsz]
      rw [hcl] at hl
      have hz' : a.eval x = .pointer (some ⟨b, i * ob.c.sz, none⟩) := by rw [hz]; simp
      simp [execOp, hz', Instr.loadAt, Instr.sureAddr, loadVar, run_isAgg ht, hu, sizeOf, typeInfo, hinf, hl]
theorem q_loadagg_rp {x : Operand} {t : TypeId} {u : TypeDesc} {i : Nat} {cl : Cells} {inf : TypeInfo} {L : List AV} (ht : P.underlying t = some u) (hu : isAggD u = true) (hinf : P.info? t = some inf) (hsz : inf.size = cl.sz) (hx : ev fr x = some (.rp cl i 0))
    (hL : (List.range cl.sz).map (cl.at i) = L) : QOp false P fn c fr H ⟨d, .load t x, ty, pos, after, g⟩ (.agg L) := by
  intro w a σ S hr
  have h1 := hr.evAt hx
  subst hL
  generalize hz : a.eval x = z at h1
  cases h1 with
  | rp _ _ _ _ b o val hS hc hvv h1' =>
    let cs : List Value := (List.range cl.sz).map val
    refine ⟨.agg cs.toArray, .agg _ _ _ (by simp [cs]) (fun j hj => ?_) (fun j hj => ?_), fun w' hw => ?_⟩
    · have hj' : j < cl.sz := by simpa using hj
      have := (hvv j (by omega)).mono (w' := w) (fun _ h => h) (fun _ _ => rfl) σ (fun _ _ h => by cases h)
      simpa [cs, Array.getD, hj', List.getD] using this
    · have hj' : j < cl.sz := by simpa using hj
      have := h1' j (by omega)
      simpa [cs, Array.getD, hj'] using this
    · have hw := hw.resolve_left (by decide)
      have hl := run_loadCells_list (P := P) w' ⟨b, o, none⟩ cs (fun j v hv => by
        have hj : j < cl.sz := by simpa [cs] using (List.getElem?_eq_some_iff.1 hv).1
        simp only [cs, List.getElem?_map, List.getElem?_range hj, Option.map_some, Option.some.injEq] at hv
        subst hv
        rw [Addr.add_lit]
        have := World.cell?_of_block (w := w) (w' := w') (a := ⟨b, o + j, none⟩) (by rw [hw])
        rw [this]; exact hc j (by omega))
      have hcl : cs.length = inf.size := by simp [cs, hsz]
      rw [hcl] at hl
      simp [execOp, hz, Instr.loadAt, Instr.sureAddr, loadVar, run_isAgg ht, hu, sizeOf, typeInfo, hinf, hl]

/-- An element of an array value. -/
theorem q_idxagg {x ix : Operand} {t e : TypeId} {u : TypeDesc} {n : Nat} {L : List AV} {v : AV} {kk : IntKind} {m : Int} (ht : P.underlying t = some (.array n e)) (hs : (P.info? e).map (·.size) = some 1) (hu : P.underlying e = some u) (hua : isAggD u = false) (hx : ev fr x = some (.agg L)) (hi : ev fr ix = some (.int kk m))
    (hv : L.getD m.toNat .any = v) (hb : 0 ≤ m ∧ m < n ∧ m < L.length) : QOp ind P fn c fr H ⟨d, .index t x ix, ty, pos, after, g⟩ v := by
  intro w a σ S hr
  have h1 := hr.evAt hx
  have h2 := hr.evInt hi
  subst hv
  generalize hz : a.eval x = z at h1
  cases h1 with
  | agg _ _ vs hl hv h1' =>
    have hlt : m.toNat < L.length := by omega
    have h3 := hv m.toNat hlt
    have h4 : vs[m.toNat]? = some (vs.getD m.toNat undef) := by simp [Array.getD, hl, hlt]
    generalize vs.getD m.toNat undef = y at h3 h4
    refine ⟨y, h3, fun w' _ => ?_⟩
    cases hq : P.info? e with
    | none => simp [hq] at hs
    | some inf =>
      have hsz : inf.size = 1 := by simpa [hq] using hs
      simp [execOp, hz, h2, Instr.index, asIntOf, run_underlying ht, hb.1, hb.2.1, sizeOf, typeInfo, hq, hsz, part, run_isAgg hu, hua, h4]
/-- A field of a struct value (of one cell). -/
theorem q_fieldv {x : Operand} {t : TypeId} {fs : Array Field} {f : Nat} {fd : Field} {u : TypeDesc} {L : List AV} {v : AV} (ht : P.underlying t = some (.struct fs)) (hf : fs[f]? = some fd) (hu : P.underlying fd.type = some u) (hua : isAggD u = false) (hx : ev fr x = some (.agg L)) (hv : L[fd.offset]? = some v) :
    QOp ind P fn c fr H ⟨d, .field t x f, ty, pos, after, g⟩ v := by
  intro w a σ S hr
  have h1 := hr.evAt hx
  generalize hz : a.eval x = z at h1
  cases h1 with
  | agg _ _ vs hl hvv h1' =>
    have hlt : fd.offset < L.length := (List.getElem?_eq_some_iff.1 hv).1
    have h3 := hvv fd.offset hlt
    have e : L.getD fd.offset .any = v := by simp [List.getD, hv]
    rw [e] at h3
    have h4 : vs[fd.offset]? = some (vs.getD fd.offset undef) := by simp [Array.getD, hl, hlt]
    generalize vs.getD fd.offset undef = y at h3 h4
    refine ⟨y, h3, fun w' _ => ?_⟩
    simp [execOp, hz, Instr.field, run_underlying ht, hf, asAgg, part, run_isAgg hu, hua, h4]
/-- The address of a field. -/
theorem q_field_ptr {x : Operand} {s : TypeId} {fs : Array Field} {f h i j jx : Nat} {fd : Field} {inf : TypeInfo} (ht : P.underlying s = some (.struct fs)) (hf : fs[f]? = some fd) (hi : P.info? fd.type = some inf) (hne : Nat.beq inf.size 0 = false) (hx : ev fr x = some (.ptr h i j)) (hj : j + fd.offset = jx) :
    QOp ind P fn c fr H ⟨d, .fieldAddr s x f, ty, pos, after, g⟩ (.ptr h i jx) := by
  intro w a σ S hr
  have h1 := hr.evAt hx
  subst hj
  have hne' : ¬ inf.size = 0 := fun e => by rw [e] at hne; cases hne
  generalize hz : a.eval x = z at h1
  cases h1 with
  | ptr _ _ _ _ b sz C hσ =>
    refine ⟨_, .ptr _ h i (j + fd.offset) b sz C hσ, fun w' _ => ?_⟩
    simp [execOp, hz, Instr.fieldAt, run_underlying ht, hf, Instr.sureAddr, fieldPlace, sizeOf, typeInfo, hi, hne', Addr.add_lit, Nat.add_assoc]
theorem q_field_rp {x : Operand} {s : TypeId} {fs : Array Field} {f i j jx : Nat} {cl : Cells} {fd : Field} {inf : TypeInfo} (ht : P.underlying s = some (.struct fs)) (hf : fs[f]? = some fd) (hi : P.info? fd.type = some inf) (hne : Nat.beq inf.size 0 = false) (hx : ev fr x = some (.rp cl i j)) (hj : j + fd.offset = jx) :
    QOp ind P fn c fr H ⟨d, .fieldAddr s x f, ty, pos, after, g⟩ (.rp cl i jx) := by
  intro w a σ S hr
  have h1 := hr.evAt hx
  subst hj
  have hne' : ¬ inf.size = 0 := fun e => by rw [e] at hne; cases hne
  generalize hz : a.eval x = z at h1
  cases h1 with
  | rp _ _ _ _ b o val hS hc hvv h1' =>
    refine ⟨.pointer (some ⟨b, o + fd.offset, none⟩), .rp _ _ _ _ _ _ (fun e => val (fd.offset + e)) hS (fun e he => ?_) (fun e he => ?_) (fun e he => h1' _ (by omega)), fun w' _ => ?_⟩
    · have := hc (fd.offset + e) (by omega)
      rwa [← Nat.add_assoc] at this
    · have := hvv (fd.offset + e) (by omega)
      rwa [← Nat.add_assoc] at this
    · simp [execOp, hz, Instr.fieldAt, run_underlying ht, hf, Instr.sureAddr, fieldPlace, sizeOf, typeInfo, hi, hne', Addr.add_lit]
/-- A pointer that is not nil. -/
theorem q_nilcheck_ptr {x : Operand} {h i j : Nat} (hx : ev fr x = some (.ptr h i j)) : QOp ind P fn c fr H ⟨d, .nilCheck x, ty, pos, after, g⟩ (.ptr h i j) := by
  intro w a σ S hr
  have h1 := hr.evAt hx
  generalize hz : a.eval x = z at h1
  cases h1 with
  | ptr _ _ _ _ b s C hσ => exact ⟨_, .ptr _ h i j b s C hσ, fun w' _ => by simp [execOp, hz]⟩
theorem q_nilcheck_rp {x : Operand} {cl : Cells} {i j : Nat} (hx : ev fr x = some (.rp cl i j)) : QOp ind P fn c fr H ⟨d, .nilCheck x, ty, pos, after, g⟩ (.rp cl i j) := by
  intro w a σ S hr
  have h1 := hr.evAt hx
  generalize hz : a.eval x = z at h1
  cases h1 with
  | rp _ _ _ _ b o val hS hc hvv h1' => exact ⟨_, .rp _ _ _ _ _ _ val hS hc hvv h1', fun w' _ => by simp [execOp, hz]⟩

/-- A store of a whole struct or array. -/
theorem ax_storeagg {all : Array Oper} {t : TypeId} {x y : Operand} {ty : TypeId} {pos : String} {after : Array Edge} {rest : List Oper} {h i : Nat} {ob : AObj} {L : List AV} {c' : Cells}
    (hx : ev fr x = some (.ptr h i 0)) (hy : ev fr y = some (.agg L)) (hs : (P.info? t).map (·.size) = some ob.c.sz) (hh : H[h]? = some (some ob)) (hl : L.length = ob.c.sz) (hi : i < ob.c.len)
    (h1 : c'.len = ob.c.len) (h2 : c'.sz = ob.c.sz) (h3 : ∀ i' j', i' < ob.c.len → j' < ob.c.sz → c'.at i' j' = if i' = i then L.getD j' .any else ob.c.at i' j')
    (hk : Ax P fn c (.ops false all rest k) fr (H.set h (some ⟨ob.ty, c'⟩))) (hz0 : ob.c.sz ≠ 0 := by (intro hh; cases hh)) : Ax P fn c (.ops false all (⟨none, .store t x y, ty, pos, after, none⟩ :: rest) k) fr H := by
  refine ax_w0 (fun w a σ S hr => ?_) hk
  have e1 := hr.evAt hx
  have e2 := hr.evAt hy
  generalize hz : a.eval x = z at e1
  generalize hzy : a.eval y = u at e2
  cases e2 with
  | agg _ _ vs hvl hvv hv1 =>
    cases e1 with
    | ptr _ _ _ _ b s C hσ =>
      obtain ⟨hs', cur, g1, g2, g3, g4, g5, g6⟩ := hr.obj hh hσ
      subst hs'
      obtain ⟨mk, g1, hmk, hrow⟩ := g1.cells hz0
      have hfit : i * ob.c.sz + ob.c.sz ≤ cur.size := by
        rw [g2]
        have : (i + 1) * ob.c.sz ≤ C * ob.c.sz := Nat.mul_le_mul_right _ (by omega)
        rw [Nat.add_mul] at this; omega
      have hvsz : vs.size = ob.c.sz := by rw [hvl, hl]
      have hst := run_storeCells_mk P b (i * ob.c.sz) ob.ty mk vs.toList 0 cur w g1 hmk (by simp [hvsz]; exact hfit) (fun v hv => by
        obtain ⟨j, hj, rfl⟩ := List.getElem_of_mem hv
        have hj' : j < vs.size := by simpa using hj
        have := hv1 j (by rw [← hvl]; exact hj')
        simpa [Array.getD, hj'] using this)
      simp only [Nat.add_zero] at hst
      generalize hcur : (cur.toList.take (i * ob.c.sz) ++ vs.toList ++ cur.toList.drop (i * ob.c.sz + vs.toList.length)).toArray = cur' at hst
      have hlen' : cur'.size = cur.size := by rw [← hcur]; simp [hvsz]; omega
      have hat : ∀ p, p < cur.size → cur'[p]? = if i * ob.c.sz ≤ p ∧ p < i * ob.c.sz + ob.c.sz then vs[p - i * ob.c.sz]? else cur[p]? := by
        intro p hp
        rw [← hcur]
        simp only [List.getElem?_toArray, List.append_assoc]
        by_cases c1 : p < i * ob.c.sz
        · rw [List.getElem?_append_left (by simp; omega), List.getElem?_take, if_pos c1, if_neg (by omega)]; simp
        · rw [List.getElem?_append_right (by simp; omega)]
          have ht : (cur.toList.take (i * ob.c.sz)).length = i * ob.c.sz := by simp; omega
          rw [ht]
          by_cases c2 : p < i * ob.c.sz + ob.c.sz
          · rw [List.getElem?_append_left (by simp [hvsz]; omega), if_pos ⟨by omega, c2⟩]; simp
          · rw [List.getElem?_append_right (by simp [hvsz]; omega), if_neg (by omega)]
            simp only [Array.length_toList, hvsz, List.getElem?_drop, Array.getElem?_toList]
            congr 1; omega
      refine ⟨w.setRow b cur', σ, S, ?_, hr.setRow hh hσ hrow h2 (by omega) (by rw [hlen', g2]) (fun i' j' hi' hj' => ?_)⟩
      · simp only [Nat.add_zero] at hz
        simp only [execOp, hz, hzy, Instr.storeAt, Instr.sureAddr, storeVar, Sem.run_bind, Sem.run_pure, Result.andThen_ok, size_of hs, Value.cells, hvsz]
        simp [hst]
      · rw [h1] at hi'
        rw [h2] at hj' ⊢
        rw [h3 i' j' hi' hj']
        have hp : i' * ob.c.sz + j' < cur.size := by
          rw [g2]
          have : (i' + 1) * ob.c.sz ≤ C * ob.c.sz := Nat.mul_le_mul_right _ (by omega)
          rw [Nat.add_mul] at this; omega
        rw [hat _ hp]
        by_cases he : i' = i
        · subst he
          rw [if_pos rfl, if_pos ⟨by omega, by omega⟩]
          have hjv : j' < vs.size := by omega
          refine ⟨vs.getD j' undef, by simp [Array.getD, hjv], hvv j' (by omega), hv1 j' (by omega)⟩
        · rw [if_neg he]
          have hne : ¬ (i * ob.c.sz ≤ i' * ob.c.sz + j' ∧ i' * ob.c.sz + j' < i * ob.c.sz + ob.c.sz) := by
            rintro ⟨q1, q2⟩
            rcases Nat.lt_or_gt_of_ne he with hlt | hlt
            · have : (i' + 1) * ob.c.sz ≤ i * ob.c.sz := Nat.mul_le_mul_right _ hlt
              rw [Nat.add_mul] at this; omega
            · have : (i + 1) * ob.c.sz ≤ i' * ob.c.sz := Nat.mul_le_mul_right _ hlt
              rw [Nat.add_mul] at this; omega
          rw [if_neg hne]
          exact g6 i' j' hi' hj'
end
end Go.Ax

/-
  Rules: guards on operations that were themselves passed over.
-/
namespace Go.Ax
variable [Pins]
open Go.RowKit

section
variable {P : Program} {fn : Func} {c : Ctx} {fr : Fr} {H : AHeap} {k : List It}

theorem wanted_undef {w : World} {a : Act} {σ : Nat → Option Blk} {S : Nat → Prop} {n : Nat} (hr : Rep c w a σ S n fr H) {all : Array Oper} {d : Option Nat} {op : Op} {ty : TypeId} {pos : String} {after : Array Edge} {j t : Nat} {p : Bool}
    (hy : yslot all j = some t) (hb : look t fr = some (.tup [])) : Region.wanted ⟨d, op, ty, pos, after, some (j, p)⟩ (yielded all a.tmps) = false := by
  obtain ⟨h1, h2⟩ := hr.slots t _ hb
  have h3 : t < a.tmps.size := by rw [hr.size]; exact h1
  generalize hz : a.tmps.getD t undef = z at h2
  cases h2
  rename_i vs hl hv
  have h4 : a.tmps[t]? = some (.tuple vs) := by
    simp only [Array.getD, h3, dite_true] at hz
    simp only [Array.getElem?_eq_getElem h3]
    exact congrArg some hz
  unfold yslot at hy
  simp only [Region.wanted, yielded, hy, Option.bind_some, h4]
  cases p <;> rfl

theorem vr_undef {w : World} {S : Nat → Prop} {σ : Nat → Option Blk} : VR w S σ (.tup []) undef := have _pin := (inferInstance : Pins); .tup _ _ _ rfl (fun i hi => absurd hi (Nat.not_lt_zero _))

/-- An operation that is passed over leaves nothing in its slot. -/
theorem ax_skip_not {q : Bool} {all : Array Oper} {d : Nat} {op : Op} {ty : TypeId} {pos : String} {after : Array Edge} {rest : List Oper} {j t : Nat} {p b : Bool}
    (hy : yslot all j = some t) (hb : look t fr = some (.bool b)) (hne : (b == p) = false) (h : Ax P fn c (.ops q all rest k) ((d, .tup []) :: fr) H) : Ax P fn c (.ops q all (⟨some d, op, ty, pos, after, some (j, p)⟩ :: rest) k) fr H := by
  cases q with
  | false =>
    intro hd w a σ S hr
    obtain ⟨hd1, hd2⟩ := dsts_cons hd
    simp only [wpList, wanted_of hr hy hb, hne, Bool.false_eq_true, if_false]
    exact h hd2 w _ σ S (hr.put vr_undef (hd1 d rfl))
  | true =>
    intro hd w a σ S hr
    obtain ⟨hd1, hd2⟩ := dsts_cons hd
    simp only [wpQuiet, wanted_of hr hy hb, hne, Bool.false_eq_true, if_false]
    exact h hd2 w _ σ S (hr.put vr_undef (hd1 d rfl))
theorem ax_skip_undef {q : Bool} {all : Array Oper} {d : Nat} {op : Op} {ty : TypeId} {pos : String} {after : Array Edge} {rest : List Oper} {j t : Nat} {p : Bool}
    (hy : yslot all j = some t) (hb : look t fr = some (.tup [])) (h : Ax P fn c (.ops q all rest k) ((d, .tup []) :: fr) H) : Ax P fn c (.ops q all (⟨some d, op, ty, pos, after, some (j, p)⟩ :: rest) k) fr H := by
  cases q with
  | false =>
    intro hd w a σ S hr
    obtain ⟨hd1, hd2⟩ := dsts_cons hd
    simp only [wpList, wanted_undef hr hy hb, Bool.false_eq_true, if_false]
    exact h hd2 w _ σ S (hr.put vr_undef (hd1 d rfl))
  | true =>
    intro hd w a σ S hr
    obtain ⟨hd1, hd2⟩ := dsts_cons hd
    simp only [wpQuiet, wanted_undef hr hy hb, Bool.false_eq_true, if_false]
    exact h hd2 w _ σ S (hr.put vr_undef (hd1 d rfl))
end
end Go.Ax

/-
  Rules: guarded operations in a region whose order is open.
-/
namespace Go.Ax
variable [Pins]
open Go.RowKit

section
variable {P : Program} {fn : Func} {c : Ctx} {fr : Fr} {H : AHeap} {k : List It}

/-- An operation whose guard lets it run, and that does not look at memory, may be taken first. -/
theorem ax_any_qg {all : Array Oper} {fuel : Nat} {listed listed' : Array Bool} (i : Nat) {d j t : Nat} {p : Bool} {op : Op} {ty : TypeId} {pos : String} {after : Array Edge} {v : AV}
    (hi : all[i]? = some ⟨some d, op, ty, pos, after, some (j, p)⟩) (hsel : Region.noSelect all = true) (hready : (Region.ready .any all listed).contains i = true) (hfree : Region.free .any all listed i = true) (hd : Nat.blt d fn.ntmps = true)
    (hy : yslot all j = some t) (hb : look t fr = some (.bool p))
    (hop : QOp true P fn c fr H ⟨some d, op, ty, pos, after, some (j, p)⟩ v) (hl : listed.setIfInBounds i true = listed') (h : Ax P fn c (.any all fuel listed' k) ((d, v) :: fr) H) : Ax P fn c (.any all (fuel + 1) listed k) fr H := by
  intro w a σ S hr
  subst hl
  obtain ⟨x, hx, hrun⟩ := hop w a σ S hr
  refine wpAny_first hi (Region.noSelect_spec hsel) ?_ fuel listed a w (Region.free_spec hi hfree) (by simpa using hready) (v := x) ?_ (h w _ σ S (hr.put hx (Nat.le_of_ble_eq_true hd)))
  · rintro ch a' w' ⟨_, _, _, _, _, hp⟩
    exact (post_panic _ hp).elim
  · exact .inl ⟨by rw [wanted_of hr hy hb]; simp, fun w' => hrun w' (.inl rfl)⟩
/-- An operation that its guard passes over. -/
theorem ax_any_qn {all : Array Oper} {fuel : Nat} {listed listed' : Array Bool} (i : Nat) {d j t : Nat} {p b : Bool} {op : Op} {ty : TypeId} {pos : String} {after : Array Edge}
    (hi : all[i]? = some ⟨some d, op, ty, pos, after, some (j, p)⟩) (hsel : Region.noSelect all = true) (hready : (Region.ready .any all listed).contains i = true) (hfree : Region.free .any all listed i = true) (hd : Nat.blt d fn.ntmps = true)
    (hy : yslot all j = some t) (hb : look t fr = some (.bool b)) (hne : (b == p) = false)
    (hl : listed.setIfInBounds i true = listed') (h : Ax P fn c (.any all fuel listed' k) ((d, .tup []) :: fr) H) : Ax P fn c (.any all (fuel + 1) listed k) fr H := by
  intro w a σ S hr
  subst hl
  refine wpAny_first hi (Region.noSelect_spec hsel) ?_ fuel listed a w (Region.free_spec hi hfree) (by simpa using hready) (v := undef) ?_ (h w _ σ S (hr.put vr_undef (Nat.le_of_ble_eq_true hd)))
  · rintro ch a' w' ⟨_, _, _, _, _, hp⟩
    exact (post_panic _ hp).elim
  · exact .inr ⟨by rw [wanted_of hr hy hb]; exact hne, rfl⟩
/-- .. whose guard was itself passed over. -/
theorem ax_any_qu {all : Array Oper} {fuel : Nat} {listed listed' : Array Bool} (i : Nat) {d j t : Nat} {p : Bool} {op : Op} {ty : TypeId} {pos : String} {after : Array Edge}
    (hi : all[i]? = some ⟨some d, op, ty, pos, after, some (j, p)⟩) (hsel : Region.noSelect all = true) (hready : (Region.ready .any all listed).contains i = true) (hfree : Region.free .any all listed i = true) (hd : Nat.blt d fn.ntmps = true)
    (hy : yslot all j = some t) (hb : look t fr = some (.tup []))
    (hl : listed.setIfInBounds i true = listed') (h : Ax P fn c (.any all fuel listed' k) ((d, .tup []) :: fr) H) : Ax P fn c (.any all (fuel + 1) listed k) fr H := by
  intro w a σ S hr
  subst hl
  refine wpAny_first hi (Region.noSelect_spec hsel) ?_ fuel listed a w (Region.free_spec hi hfree) (by simpa using hready) (v := undef) ?_ (h w _ σ S (hr.put vr_undef (Nat.le_of_ble_eq_true hd)))
  · rintro ch a' w' ⟨_, _, _, _, _, hp⟩
    exact (post_panic _ hp).elim
  · exact .inr ⟨wanted_undef hr hy hb, rfl⟩
theorem ax_split_any {all : Array Oper} {fuel : Nat} {listed : Array Bool} (t : Nat) {p : Prop} {_ : Decidable p} (hb : look t fr = some (.bool (decide p))) (ht : p → Ax P fn c (.any all fuel listed k) ((t, .bool true) :: fr) H) (hf : ¬ p → Ax P fn c (.any all fuel listed k) ((t, .bool false) :: fr) H) : Ax P fn c (.any all fuel listed k) fr H := by
  by_cases h : p
  · exact fun w a σ S hr => ht h w a σ S (hr.dup (by rw [decide_eq_true h] at hb; exact hb))
  · exact fun w a σ S hr => hf h w a σ S (hr.dup (by rw [decide_eq_false h] at hb; exact hb))
end
end Go.Ax

/-
  The last objects of a walk are left behind: nothing that is kept tells of them.
-/
namespace Go.Ax
variable [Pins]

mutual
def belowA (n : Nat) : AV → Bool
  | .sl h _ _ => Nat.blt h n
  | .ptr h _ _ => Nat.blt h n
  | .fn _ l => belows n l
  | .agg l => belows n l
  | .tup l => belows n l
  | .mp h => Nat.blt h n
  | _ => true
def belows (n : Nat) : List AV → Bool
  | [] => true
  | v :: r => belowA n v && belows n r
end
theorem belows_get {n : Nat} {l : List AV} (h : belows n l = true) (i : Nat) (hi : i < l.length) : belowA n (l.getD i .any) = true := by
  have _pin := (inferInstance : Pins)
  induction l generalizing i with
  | nil => simp at hi
  | cons v r ih =>
    simp only [belows, Bool.and_eq_true] at h
    cases i with
    | zero => exact h.1
    | succ i => simpa using ih h.2 i (by simpa using hi)
theorem VR.cutv {w : World} {S : Nat → Prop} {σ : Nat → Option Blk} {n : Nat} {x : AV} {v : Value} (h : VR w S σ x v) : belowA n x = true → ∀ σ' : Nat → Option Blk, (∀ h, h < n → σ' h = σ h) → VR w S σ' x v := by
  induction h with
  | int => intros; constructor
  | bool => intros; constructor
  | str => intros; constructor
  | nil => intros; constructor
  | ro0 => intros; constructor
  | ro σ c i len b o cap val hSb hlen hc hv h1 ih => intro _ σ' _; exact .ro _ _ _ _ _ _ _ val hSb hlen hc hv h1
  | sl σ h i len b s C cap hσ hlen hcap => intro hb σ' hs; exact .sl _ _ _ _ _ _ _ _ (by rw [hs h (Nat.le_of_ble_eq_true hb)]; exact hσ) hlen hcap
  | sl0 σ h hσ => intro hb σ' hs; exact .sl0 _ _ (by rw [hs h (Nat.le_of_ble_eq_true hb)]; exact hσ)
  | rp σ c i j b o val hSb hc hv h1 ih => intro _ σ' _; exact .rp _ _ _ _ _ _ val hSb hc hv h1
  | ptr σ h i j b s C hσ => intro hb σ' hs; exact .ptr _ _ _ _ _ _ _ (by rw [hs h (Nat.le_of_ble_eq_true hb)]; exact hσ)
  | nilp => intros; constructor
  | fn σ f cap vs hl hv ih => intro hn σ' hs; exact .fn _ _ _ _ hl (fun i hi => ih i hi (belows_get hn i hi) _ hs)
  | nilfn => intros; constructor
  | iface => intros; constructor
  | nilif => intros; constructor
  | agg σ l vs hl hv h1 ih => intro hn σ' hs; exact .agg _ _ _ hl (fun i hi => ih i hi (belows_get hn i hi) _ hs) h1
  | tup σ l vs hl hv ih => intro hn σ' hs; exact .tup _ _ _ hl (fun i hi => ih i hi (belows_get hn i hi) _ hs)
  | mp σ h b hσ => intro hb σ' hs; exact .mp _ _ _ (by rw [hs h (Nat.le_of_ble_eq_true hb)]; exact hσ)
  | rom σ ks vs b es clock e hSb hb hn hl hd he hk hv => intro _ σ' _; exact .rom _ _ _ b es clock e hSb hb hn hl hd he hk hv
  | any => intros; constructor

theorem Lays.cutv {w : World} {S : Nat → Prop} {σ σ' : Nat → Option Blk} {o : AObj} {b : Nat} {cur : Array Value} {C n : Nat} (h : Lays w S σ o b cur C) (hc : ∀ ks vs, o.c = .mp ks vs → belows n ks = true ∧ belows n vs = true) (hs : ∀ h, h < n → σ' h = σ h) : Lays w S σ' o b cur C := by
  have _pin := (inferInstance : Pins)
  cases h with
  | row mk h hm hC => exact .row mk h hm hC
  | map ks vs es clock hc' hC h hn hl hd he =>
    obtain ⟨b1, b2⟩ := hc ks vs hc'
    exact .map ks vs es clock hc' hC h hn hl hd (fun i hi => let ⟨e, e1, e2, e3⟩ := he i hi; ⟨e, e1, e2.cutv (belows_get b1 i hi) _ hs, e3.cutv (belows_get b2 i (by omega)) _ hs⟩)
def belowC (n : Nat) : Cells → Bool
  | .ints _ _ => true
  | .strs _ => true
  | .box l => belows n l
  | .fn _ _ _ => false
  | .mp ks vs => belows n ks && belows n vs
theorem belowC_at {n : Nat} {c : Cells} (h : belowC n c = true) (i j : Nat) (hj : j < c.sz) : belowA n (c.at i j) = true := by
  cases c with
  | ints => rfl
  | strs => rfl
  | box l => exact belows_get h j hj
  | fn => cases h
  | mp => exact absurd hj (Nat.not_lt_zero _)
def belowO (n : Nat) : Option AObj → Bool
  | none => true
  | some o => belowC n o.c
def belowH (n : Nat) : AHeap → Bool
  | [] => true
  | x :: r => belowO n x && belowH n r
theorem belowH_get {n : Nat} {H : AHeap} (hb : belowH n H = true) {h : Nat} {o : AObj} (ho : H[h]? = some (some o)) : belowC n o.c = true := by
  have _pin := (inferInstance : Pins)
  induction H generalizing h with
  | nil => simp at ho
  | cons x r ih =>
    simp only [belowH, Bool.and_eq_true] at hb
    cases h with
    | zero => simp at ho; subst ho; exact hb.1
    | succ h => exact ih hb.2 (by simpa using ho)
def belowF (n : Nat) : Fr → Bool
  | [] => true
  | (_, v) :: r => belowA n v && belowF n r
theorem belowF_get {n : Nat} {fr : Fr} (hb : belowF n fr = true) {t : Nat} {v : AV} (hl : look t fr = some v) : belowA n v = true := by
  have _pin := (inferInstance : Pins)
  induction fr with
  | nil => simp [look] at hl
  | cons p r ih =>
    obtain ⟨u, x⟩ := p
    simp only [belowF, Bool.and_eq_true] at hb
    simp only [look] at hl
    cases hq : Nat.beq t u with
    | true => rw [hq] at hl; simp at hl; subst hl; exact hb.1
    | false => rw [hq] at hl; exact ih hb.2 (by simpa using hl)

def cutσ (n : Nat) (σ : Nat → Option Blk) (h : Nat) : Option Blk := if h < n then σ h else none
theorem Rep.cut {c : Ctx} {w : World} {a : Act} {σ : Nat → Option Blk} {S : Nat → Prop} {n : Nat} {fr : Fr} {H H0 H1 : AHeap} (hr : Rep c w a σ S n fr H) (hH : H = H0 ++ H1) (hf : ∀ h, c.fix h → h < H0.length)
    (hbH : belowH H0.length H0 = true) (hbF : belowF H0.length fr = true) : Rep c w a (cutσ H0.length σ) S n fr H0 := by
  subst hH
  have hs : ∀ h, h < H0.length → cutσ H0.length σ h = σ h := fun h hl => if_pos hl
  have hget : ∀ {h : Nat} {o : AObj}, H0[h]? = some (some o) → h < H0.length ∧ (H0 ++ H1)[h]? = some (some o) := by
    intro h o ho
    have hl : h < H0.length := (List.getElem?_eq_some_iff.1 ho).1
    exact ⟨hl, by rw [List.getElem?_append_left hl]; exact ho⟩
  refine ⟨⟨fun h o ho => ?_, fun h h' o o' b s C s' C' q1 q2 e1 e2 => ?_, hr.hr.small, fun h hl => if_neg (by omega)⟩, ⟨hr.kp.os, hr.kp.output, hr.kp.tape, hr.kp.size, hr.kp.block, hr.kp.S1, hr.kp.S2, fun h hh => by rw [hs h (hf h hh)]; exact hr.kp.fixed h hh, hf, fun h o b s C q e => ?_⟩, hr.defers, hr.size, fun t v hl => ⟨(hr.slots t v hl).1, (hr.slots t v hl).2.cutv (belowF_get hbF hl) _ hs⟩⟩
  · obtain ⟨hl, ho'⟩ := hget ho
    rw [hs h hl]
    rcases hr.hr.live h o ho' with g | ⟨b, C, cur, g1, g2, g3, g4, g5, g6, g7⟩
    · exact .inl g
    · refine .inr ⟨b, C, cur, g1, g2.cutv (fun ks vs hc => by have := belowH_get hbH ho; rw [hc] at this; simpa [belowC] using this) hs, g3, g4, g5, g6, fun i j hi hj => ?_⟩
      obtain ⟨v, k1, k2, k3⟩ := g7 i j hi hj
      exact ⟨v, k1, k2.cutv (belowC_at (belowH_get hbH ho) i j hj) _ hs, k3⟩
  · obtain ⟨hl, ho⟩ := hget q1
    obtain ⟨hl', ho'⟩ := hget q2
    rw [hs h hl] at e1
    rw [hs h' hl'] at e2
    exact hr.hr.dist h h' o o' b s C s' C' ho ho' e1 e2
  · obtain ⟨hl, ho⟩ := hget q
    rw [hs h hl] at e
    exact hr.kp.own h o b s C ho e

section
variable {P : Program} {fn : Func} {c : Ctx} {fr : Fr} {H : AHeap} {k : List It}
/-- Only the first objects are kept. -/
theorem ax_cut {x : Code} (H0 H1 : AHeap) (L : Fr) (hH : H = H0 ++ H1) (hL : knows fr L) (hf : ∀ h, c.fix h → h < H0.length) (hbH : belowH H0.length H0 = true) (hbF : belowF H0.length L = true)
    (hk : Ax P fn c (.code x k) L H0) : Ax P fn c (.code x k) fr H :=
  fun w a σ S hr => hk w a _ S ((hr.weaken hL).cut hH hf hbH hbF)
theorem ax_cut_ops {all : Array Oper} {rest : List Oper} (H0 H1 : AHeap) (L : Fr) (hH : H = H0 ++ H1) (hL : knows fr L) (hf : ∀ h, c.fix h → h < H0.length) (hbH : belowH H0.length H0 = true) (hbF : belowF H0.length L = true)
    (hk : Ax P fn c (.ops false all rest k) L H0) : Ax P fn c (.ops false all rest k) fr H :=
  fun hd w a σ S hr => hk hd w a _ S ((hr.weaken hL).cut hH hf hbH hbF)
/-- The same memory, its cells told otherwise. -/
theorem Rep.heapA {w : World} {a : Act} {σ : Nat → Option Blk} {S : Nat → Prop} {n : Nat} {H' : AHeap} (hr : Rep c w a σ S n fr H) (hlen : H'.length = H.length)
    (hs : ∀ (h : Nat) (o' : AObj), H'[h]? = some (some o') → ∃ o : AObj, H[h]? = some (some o) ∧ o'.ty = o.ty ∧ o'.c.len = o.c.len ∧ o'.c.kd = o.c.kd ∧ ∀ i j, i < o.c.len → j < o.c.sz → AEq (o.c.at i j) (o'.c.at i j)) : Rep c w a σ S n fr H' := by
  refine ⟨⟨fun h o' ho => ?_, fun h h' o o' b s C s' C' q1 q2 e1 e2 => ?_, hr.hr.small, fun h hl => hr.hr.dom h (by rw [← hlen]; exact hl)⟩, ⟨hr.kp.os, hr.kp.output, hr.kp.tape, hr.kp.size, hr.kp.block, hr.kp.S1, hr.kp.S2, hr.kp.fixed, fun h hf => by rw [hlen]; exact hr.kp.fixlt h hf, fun h o b s C q e => ?_⟩, hr.defers, hr.size, hr.slots⟩
  · obtain ⟨o, h1, h2, h3, h4, h5⟩ := hs h o' ho
    rw [h3, kd_sz h4]
    rcases hr.hr.live h o h1 with g | ⟨b, C, cur, g1, g2, g3, g4, g5, g6, g7⟩
    · exact .inl g
    · refine .inr ⟨b, C, cur, g1, g2.kd h2 h4, g3, g4, g5, g6, fun i j hi hj => ?_⟩
      obtain ⟨v, k1, k2, k3⟩ := g7 i j hi hj
      exact ⟨v, k1, h5 i j hi hj _ _ _ _ k2, k3⟩
  · obtain ⟨p, h1, _⟩ := hs h o q1
    obtain ⟨p', h1', _⟩ := hs h' o' q2
    exact hr.hr.dist h h' p p' b s C s' C' h1 h1' e1 e2
  · obtain ⟨p, h1, _⟩ := hs h o q
    exact hr.kp.own h p b s C h1 e
theorem ax_heapA {x : Code} (H' : AHeap) (hlen : H'.length = H.length) (hs : ∀ (h : Nat) (o' : AObj), H'[h]? = some (some o') → ∃ o : AObj, H[h]? = some (some o) ∧ o'.ty = o.ty ∧ o'.c.len = o.c.len ∧ o'.c.kd = o.c.kd ∧ ∀ i j, i < o.c.len → j < o.c.sz → AEq (o.c.at i j) (o'.c.at i j))
    (hk : Ax P fn c (.code x k) fr H') : Ax P fn c (.code x k) fr H := fun w a σ S hr => hk w a σ S (hr.heapA hlen hs)
theorem ax_heapA_ops {all : Array Oper} {rest : List Oper} (H' : AHeap) (hlen : H'.length = H.length) (hs : ∀ (h : Nat) (o' : AObj), H'[h]? = some (some o') → ∃ o : AObj, H[h]? = some (some o) ∧ o'.ty = o.ty ∧ o'.c.len = o.c.len ∧ o'.c.kd = o.c.kd ∧ ∀ i j, i < o.c.len → j < o.c.sz → AEq (o.c.at i j) (o'.c.at i j))
    (hk : Ax P fn c (.ops false all rest k) fr H') : Ax P fn c (.ops false all rest k) fr H := fun hd w a σ S hr => hk hd w a σ S (hr.heapA hlen hs)
end
/-- Any contract, at arguments told otherwise. -/
theorem ACall.args {P : Program} {f : FuncId} {ags ags' : List AV} {H : AHeap} {fix : Nat → Prop} {K : AV → AHeap → Prop} (hc : ACall P f ags' H fix K) (h : AEqs ags ags') : ACall P f ags H fix K := by
  unfold ACall at hc ⊢
  refine ⟨hc.1, fun w σ S vals hp hr hf hv => hc.2 w σ S vals hp hr hf ⟨hv.1.trans h.length, fun j hj => ?_⟩⟩
  rw [← h.length] at hj
  exact h.get j hj _ _ _ _ (hv.2 j hj)
end Go.Ax

/-
  Lending a part of the memory.
-/
namespace Go.Ax
variable [Pins]

theorem VCall.lendS {P : Program} {f : FuncId} {args args' : List AV} {r : AV} {H HL : AHeap} (hc : VCall P f args r) (hsub : subH HL H) (hrl : ∀ (h : Nat) (o : AObj), HL[h]? = some (some o) → refless o.c) (hlend : AV.frzs HL args' = args) (hin : inBs HL args') (hn : noRef.noRefs args = true) (hr : noRef r = true) (hfl : flat r = true) :
    ACall P f args' H (fun h => h < H.length) (fun r' H' => r' = r ∧ H' = H) := by
  refine ACall.over (hc []) (fun h hh => by simp at hh) hsub hrl hlend hin hn ?_
  rintro r0 H0 ⟨rfl, rfl⟩
  have hk : r0.keep [] 0 H.length = r0 := VCall.lend.keep_noRef hr
  refine ⟨VCall.lend.inB_noRef hr, fun h o ho => by simp at ho, 0, ⟨0, .ints .i64 []⟩, .inl ⟨Nat.le_refl _, ⟨hk, rfl⟩, .inr (by rw [hk]; exact hfl)⟩⟩
def belowP (n : Nat) : Cells → Prop
  | .mp ks vs => belows n ks = true ∧ belows n vs = true
  | c => ∀ i j, i < c.len → j < c.sz → belowA n (c.at i j) = true
theorem belowP.row {n : Nat} {c : Cells} (h : belowP n c) : ∀ i j, i < c.len → j < c.sz → belowA n (c.at i j) = true := by
  have _pin := (inferInstance : Pins)
  cases c <;> first | exact h | exact fun i j hi => absurd hi (Nat.not_lt_zero _)
theorem belowP.mp {n : Nat} {c : Cells} (h : belowP n c) {ks vs : List AV} (hc : c = .mp ks vs) : belows n ks = true ∧ belows n vs = true := by have _pin := (inferInstance : Pins); subst hc; exact h
theorem Rep.cutP {c : Ctx} {w : World} {a : Act} {σ : Nat → Option Blk} {S : Nat → Prop} {n : Nat} {fr : Fr} {H H0 H1 : AHeap} (hr : Rep c w a σ S n fr H) (hH : H = H0 ++ H1) (hf : ∀ h, c.fix h → h < H0.length)
    (hbH : ∀ (h : Nat) (o : AObj), H0[h]? = some (some o) → belowP H0.length o.c) (hbF : belowF H0.length fr = true) : Rep c w a (cutσ H0.length σ) S n fr H0 := by
  subst hH
  have hs : ∀ h, h < H0.length → cutσ H0.length σ h = σ h := fun h hl => if_pos hl
  have hget : ∀ {h : Nat} {o : AObj}, H0[h]? = some (some o) → h < H0.length ∧ (H0 ++ H1)[h]? = some (some o) := by
    intro h o ho
    have hl : h < H0.length := (List.getElem?_eq_some_iff.1 ho).1
    exact ⟨hl, by rw [List.getElem?_append_left hl]; exact ho⟩
  refine ⟨⟨fun h o ho => ?_, fun h h' o o' b s C s' C' q1 q2 e1 e2 => ?_, hr.hr.small, fun h hl => if_neg (by omega)⟩, ⟨hr.kp.os, hr.kp.output, hr.kp.tape, hr.kp.size, hr.kp.block, hr.kp.S1, hr.kp.S2, fun h hh => by rw [hs h (hf h hh)]; exact hr.kp.fixed h hh, hf, fun h o b s C q e => ?_⟩, hr.defers, hr.size, fun t v hl => ⟨(hr.slots t v hl).1, (hr.slots t v hl).2.cutv (belowF_get hbF hl) _ hs⟩⟩
  · obtain ⟨hl, ho'⟩ := hget ho
    rw [hs h hl]
    rcases hr.hr.live h o ho' with g | ⟨b, C, cur, g1, g2, g3, g4, g5, g6, g7⟩
    · exact .inl g
    · refine .inr ⟨b, C, cur, g1, g2.cutv (fun ks vs hc => (hbH h o ho).mp hc) hs, g3, g4, g5, g6, fun i j hi hj => ?_⟩
      obtain ⟨v, k1, k2, k3⟩ := g7 i j hi hj
      exact ⟨v, k1, k2.cutv ((hbH h o ho).row i j hi hj) _ hs, k3⟩
  · obtain ⟨hl, ho⟩ := hget q1
    obtain ⟨hl', ho'⟩ := hget q2
    rw [hs h hl] at e1
    rw [hs h' hl'] at e2
    exact hr.hr.dist h h' o o' b s C s' C' ho ho' e1 e2
  · obtain ⟨hl, ho⟩ := hget q
    rw [hs h hl] at e
    exact hr.kp.own h o b s C ho e

section
variable {P : Program} {fn : Func} {c : Ctx} {fr : Fr} {H : AHeap} {k : List It}
theorem ax_cutP {x : Code} (H0 H1 : AHeap) (L : Fr) (hH : H = H0 ++ H1) (hL : knows fr L) (hf : ∀ h, c.fix h → h < H0.length) (hbH : ∀ (h : Nat) (o : AObj), H0[h]? = some (some o) → belowP H0.length o.c) (hbF : belowF H0.length L = true)
    (hk : Ax P fn c (.code x k) L H0) : Ax P fn c (.code x k) fr H :=
  fun w a σ S hr => hk w a _ S ((hr.weaken hL).cutP hH hf hbH hbF)
theorem ax_cutP_ops {all : Array Oper} {rest : List Oper} (H0 H1 : AHeap) (L : Fr) (hH : H = H0 ++ H1) (hL : knows fr L) (hf : ∀ h, c.fix h → h < H0.length) (hbH : ∀ (h : Nat) (o : AObj), H0[h]? = some (some o) → belowP H0.length o.c) (hbF : belowF H0.length L = true)
    (hk : Ax P fn c (.ops false all rest k) L H0) : Ax P fn c (.ops false all rest k) fr H :=
  fun hd w a σ S hr => hk hd w a _ S ((hr.weaken hL).cutP hH hf hbH hbF)
/-- A call that reads some of the walk's own objects. -/
theorem ax_callls {all : Array Oper} {d : Nat} {g : Operand} {f : FuncId} {args : List Operand} {ats : Array TypeId} {ty : TypeId} {pos : String} {after : Array Edge} {rest : List Oper} {caps ags ags' ags'' : List AV} {r : AV} (HL : AHeap) (hg : ev fr g = some (.fn f caps)) (ha : evs fr args = some ags) (has : ags ++ caps = ags') (hl : AV.frzs HL ags' = ags'') (hcall : VCall P f ags'' r) (hsub : subH HL H) (hrl : ∀ (h : Nat) (o : AObj), HL[h]? = some (some o) → refless o.c) (hin : inBs HL ags') (hn : noRef.noRefs ags'' = true) (hr : noRef r = true) (hfl : flat r = true)
    (hk : Ax P fn c (.ops false all rest k) ((d, r) :: fr) H) : Ax P fn c (.ops false all (⟨some d, .call { callee := .value g, args := args.toArray, argTypes := ats }, ty, pos, after, none⟩ :: rest) k) fr H :=
  ax_call hg ha has (VCall.lendS hcall hsub hrl hl hin hn hr hfl) (fun _ h => h) (fun _ h => h) (fun r' H' h => by obtain ⟨rfl, rfl⟩ := h; exact hk)
variable {ind : Bool} {d : Option Nat} {t t' ty : TypeId} {pos : String} {after : Array Edge} {g : Option (Nat × Bool)}
/-- Words of bits. -/
def andB (k : IntKind) (m n : Int) : Int := k.wrap ((BitVec.ofInt k.bits m &&& BitVec.ofInt k.bits n).toNat : Int)
def orB (k : IntKind) (m n : Int) : Int := k.wrap ((BitVec.ofInt k.bits m ||| BitVec.ofInt k.bits n).toNat : Int)
def xorB (k : IntKind) (m n : Int) : Int := k.wrap ((BitVec.ofInt k.bits m ^^^ BitVec.ofInt k.bits n).toNat : Int)
def shrB (k : IntKind) (m n : Int) : Int := m.fdiv (2 ^ (min n.toNat k.bits))
def shlB (k : IntKind) (m n : Int) : Int := k.wrap (m * 2 ^ (min n.toNat k.bits))
theorem q_and {x y : Operand} {k : IntKind} {m n : Int} (hx : ev fr x = some (.int k m)) (hy : ev fr y = some (.int k n)) :
    QOp ind P fn c fr H ⟨d, .binOp .and t x y t', ty, pos, after, g⟩ (.int k (andB k m n)) := by
  intro w a σ S hr
  have h1 := hr.evInt hx
  have h2 := hr.evInt hy
  refine ⟨_, .int _ _ _, fun w' _ => ?_⟩
  simp [execOp, h1, h2, run_eqGuard_int, binOp, Op.intBits, andB]
theorem q_or {x y : Operand} {k : IntKind} {m n : Int} (hx : ev fr x = some (.int k m)) (hy : ev fr y = some (.int k n)) :
    QOp ind P fn c fr H ⟨d, .binOp .or t x y t', ty, pos, after, g⟩ (.int k (orB k m n)) := by
  intro w a σ S hr
  have h1 := hr.evInt hx
  have h2 := hr.evInt hy
  refine ⟨_, .int _ _ _, fun w' _ => ?_⟩
  simp [execOp, h1, h2, run_eqGuard_int, binOp, Op.intBits, orB]
theorem q_xor {x y : Operand} {k : IntKind} {m n : Int} (hx : ev fr x = some (.int k m)) (hy : ev fr y = some (.int k n)) :
    QOp ind P fn c fr H ⟨d, .binOp .xor t x y t', ty, pos, after, g⟩ (.int k (xorB k m n)) := by
  intro w a σ S hr
  have h1 := hr.evInt hx
  have h2 := hr.evInt hy
  refine ⟨_, .int _ _ _, fun w' _ => ?_⟩
  simp [execOp, h1, h2, run_eqGuard_int, binOp, Op.intBits, xorB]
theorem q_shr {x y : Operand} {k k' : IntKind} {m n : Int} (hx : ev fr x = some (.int k m)) (hy : ev fr y = some (.int k' n)) (hn : 0 ≤ n) :
    QOp ind P fn c fr H ⟨d, .binOp .shr t x y t', ty, pos, after, g⟩ (.int k (shrB k m n)) := by
  intro w a σ S hr
  have h1 := hr.evInt hx
  have h2 := hr.evInt hy
  refine ⟨_, .int _ _ _, fun w' _ => ?_⟩
  have h3 : ¬ n < 0 := by omega
  simp [execOp, h1, h2, run_eqGuard_int, binOp, Op.shift, shrB, h3]
theorem q_shl {x y : Operand} {k k' : IntKind} {m n : Int} (hx : ev fr x = some (.int k m)) (hy : ev fr y = some (.int k' n)) (hn : 0 ≤ n) :
    QOp ind P fn c fr H ⟨d, .binOp .shl t x y t', ty, pos, after, g⟩ (.int k (shlB k m n)) := by
  intro w a σ S hr
  have h1 := hr.evInt hx
  have h2 := hr.evInt hy
  refine ⟨_, .int _ _ _, fun w' _ => ?_⟩
  have h3 : ¬ n < 0 := by omega
  simp [execOp, h1, h2, run_eqGuard_int, binOp, Op.shift, shlB, h3]
end
end Go.Ax

/-
  More rules: a pointer against nil.
-/
namespace Go.Ax
variable [Pins]
open Go.RowKit

def nilOf : AV → Option Bool
  | .nilp => some true
  | .ptr _ _ _ => some false
  | .rp _ _ _ => some false
  | _ => none
theorem run_eqGuard_ptr {P : Program} {op : BinOp} {t : TypeId} {x y : Operand} {a b : Option Addr} {w : World} : (eqGuard op t x y (.pointer a) (.pointer b)).run P w = .ok () w := by
  have _pin := (inferInstance : Pins)
  unfold eqGuard
  split <;> rfl
theorem run_eql_ptr_nil {P : Program} (w : World) {t e : TypeId} (a : Option Addr) (h : P.underlying t = some (.pointer e)) : (binOp .eql t (.pointer a) (.pointer none)).run P w = .ok (.bool a.isNone) w := by
  have _pin := (inferInstance : Pins)
  have h1 : ∀ d : Nat, (Op.equalIn (d + 1) t (.pointer a) (.pointer none)).run P w = .ok a.isNone w := fun d => by
    cases a with
    | none => simp [Op.equalIn, run_underlying h]
    | some a => simp [Op.equalIn, run_underlying h]
  simp only [binOp]
  simp [Op.equal, Op.maxDepth, h1 9999]
theorem run_neq_ptr_nil {P : Program} (w : World) {t e : TypeId} (a : Option Addr) (h : P.underlying t = some (.pointer e)) : (binOp .neq t (.pointer a) (.pointer none)).run P w = .ok (.bool (!a.isNone)) w := by
  have _pin := (inferInstance : Pins)
  have h1 : ∀ d : Nat, (Op.equalIn (d + 1) t (.pointer a) (.pointer none)).run P w = .ok a.isNone w := fun d => by
    cases a with
    | none => simp [Op.equalIn, run_underlying h]
    | some a => simp [Op.equalIn, run_underlying h]
  simp only [binOp]
  simp [Op.equal, Op.maxDepth, h1 9999]

section
variable {P : Program} {fn : Func} {c : Ctx} {fr : Fr} {H : AHeap} {k : List It} {ind : Bool} {d : Option Nat} {ty : TypeId} {pos : String} {after : Array Edge} {g : Option (Nat × Bool)}
theorem vr_nilOf {w : World} {S : Nat → Prop} {σ : Nat → Option Blk} {v : AV} {z : Value} {b : Bool} (h : VR w S σ v z) (hv : nilOf v = some b) : ∃ a : Option Addr, z = .pointer a ∧ a.isNone = b := by
  have _pin := (inferInstance : Pins)
  cases h <;> simp [nilOf] at hv <;> subst hv <;> exact ⟨_, rfl, rfl⟩
theorem q_ptreq {x y : Operand} {t t' e : TypeId} {v : AV} {b : Bool} (ht : P.underlying t = some (.pointer e)) (hx : ev fr x = some v) (hv : nilOf v = some b) (hy : ev fr y = some .nilp) : QOp ind P fn c fr H ⟨d, .binOp .eql t x y t', ty, pos, after, g⟩ (.bool b) := by
  intro w a σ S hr
  have h1 := hr.evAt hx
  have h2 := hr.evAt hy
  generalize hz : a.eval x = z at h1
  generalize hzy : a.eval y = zy at h2
  cases h2
  obtain ⟨ad, rfl, rfl⟩ := vr_nilOf h1 hv
  refine ⟨_, .bool _ _, fun w' _ => ?_⟩
  simp only [execOp, hz, hzy, Sem.run_bind, run_eqGuard_ptr, Result.andThen_ok, run_eql_ptr_nil w' ad ht]
  rfl
theorem q_ptrneq {x y : Operand} {t t' e : TypeId} {v : AV} {b : Bool} (ht : P.underlying t = some (.pointer e)) (hx : ev fr x = some v) (hv : nilOf v = some b) (hy : ev fr y = some .nilp) : QOp ind P fn c fr H ⟨d, .binOp .neq t x y t', ty, pos, after, g⟩ (.bool (!b)) := by
  intro w a σ S hr
  have h1 := hr.evAt hx
  have h2 := hr.evAt hy
  generalize hz : a.eval x = z at h1
  generalize hzy : a.eval y = zy at h2
  cases h2
  obtain ⟨ad, rfl, rfl⟩ := vr_nilOf h1 hv
  refine ⟨_, .bool _ _, fun w' _ => ?_⟩
  simp only [execOp, hz, hzy, Sem.run_bind, run_eqGuard_ptr, Result.andThen_ok, run_neq_ptr_nil w' ad ht]
  rfl
end
end Go.Ax

/-
  Readers: what a law's argument of some type reads as, told as an abstract value; for every type made of numbers, truth values, strings, slices, structs and arrays.
-/
namespace Go.Ax
variable [Pins]
open Go.ChangeShapes Go.WideShapes Go.ChangeAt Go.RowKit

section
variable {H : Type} {enc : TypeId × Value → H} {P : Program} {W : World}

abbrev allS (W : World) : Nat → Prop := fun b => b < W.heap.size
/-- One after the other, cells are told by abstract values. -/
def CellsR (W : World) (l : List AV) (cs : List Value) : Prop :=
  l.length = cs.length ∧ ∀ i, i < cs.length → VR W (allS W) (fun _ => none) (l.getD i .any) (cs.getD i undef) ∧ (cs.getD i undef).oneCell' = true
/-- A reader: type t, n cells, told by e of some a that is ok. -/
def Rd {α : Type} (enc : TypeId × Value → H) (P : Program) (W : World) (t : TypeId) (n : Nat) (e : α → List AV) (ok : α → Prop) : Prop :=
  ∀ fuel cs x, DataW.trod enc P W 0 (fun _ => true) true fuel t cs = some x → ∃ a, ok a ∧ cs.length = n ∧ CellsR W (e a) cs

theorem cells1 {W : World} {v : AV} {c : Value} (h : VR W (allS W) (fun _ => none) v c) (h1 : c.oneCell' = true) : CellsR W [v] [c] := by
  have _pin := (inferInstance : Pins)
  refine ⟨rfl, fun i hi => ?_⟩
  have : i = 0 := by simpa using hi
  subst this
  exact ⟨h, h1⟩
theorem Rd.bool {t : TypeId} (ht : P.underlying t = some .bool) : Rd enc P W t 1 (fun b : Bool => [AV.bool b]) (fun _ => True) := by
  intro fuel cs x h
  obtain ⟨b, rfl, _⟩ := DataW.trod_bool ht h
  exact ⟨b, trivial, rfl, cells1 (.bool _ _) rfl⟩
theorem Rd.int {t : TypeId} {k : IntKind} (ht : P.underlying t = some (.int k)) : Rd enc P W t 1 (fun n : Int => [AV.int k n]) (fun n => (Lit.int k n).wf = true) := by
  intro fuel cs x h
  obtain ⟨n, rfl, _, hw⟩ := DataW.trod_int ht h
  exact ⟨n, hw, rfl, cells1 (.int _ _ _) rfl⟩
theorem Rd.str {t : TypeId} (ht : P.underlying t = some .string) : Rd enc P W t 1 (fun s : List UInt8 => [AV.str s]) (fun s => s.length ≤ 9223372036854775807) := by
  intro fuel cs x h
  obtain ⟨s, rfl, _, hs⟩ := DataW.trod_string ht h
  have e : Value.string s = strV s.data.toList := by
    show Value.string s = Value.string ⟨s.data.toList.toArray⟩
    rw [Array.toArray_toList]
  refine ⟨s.data.toList, ?_, rfl, ?_⟩
  · unfold maxLen at hs; simpa using hs
  · rw [e]; exact cells1 (.str _ _) rfl
/-- The row that a list's elements make, each of n cells. -/
def rowE {α : Type} (d : α) (n : Nat) (e : α → List AV) (l : List α) : Cells := .fn l.length n (fun i j => (e (l.getD i d)).getD j .any)
theorem Rd.slice {α : Type} {t t' : TypeId} {n : Nat} {e : α → List AV} {ok : α → Prop} (d : α) (ht : P.underlying t = some (.slice t')) (hc : P.cellsOf t' = n) (hn : Nat.blt 0 n = true) (h : Rd enc P W t' n e ok) :
    Rd enc P W t 1 (fun l : List α => [AV.ro (rowE d n e l) 0 l.length]) (fun l => l.length ≤ 9223372036854775807 ∧ ∀ a ∈ l, ok a) := by
  have hn := Nat.le_of_ble_eq_true hn
  intro fuel cs x hx
  rcases DataW.trod_slice ht hx with ⟨rfl, _⟩ | ⟨a, len, cap, elems, rest, m, _, rfl, _, _, hl, hm, hlen, hel, _, _⟩
  · exact ⟨[], ⟨Nat.zero_le _, fun a ha => by simp at ha⟩, rfl, cells1 (.ro0 _ _ _ _ _) rfl⟩
  subst hc
  have each : ∀ i, i < len → ∃ z : α × List Value, ok z.1 ∧ W.cells? 0 (a.add (i * P.cellsOf t')) (P.cellsOf t') = some z.2 ∧ CellsR W (e z.1) z.2 := by
    intro i hi
    have h1 := hel i hi
    have h2 : elems[i]? = some (elems[i]'(by omega)) := List.getElem?_eq_getElem _
    rw [h2, Option.bind_eq_some_iff] at h1
    obtain ⟨cs', hcs, hy⟩ := h1
    obtain ⟨z, hz, hzl, hzr⟩ := h _ _ _ hy
    exact ⟨(z, cs'), hz, hcs, hzr⟩
  cases len with
  | zero => exact ⟨[], ⟨Nat.zero_le _, fun a ha => by simp at ha⟩, rfl, cells1 (.ro0 _ _ _ _ _) rfl⟩
  | succ len =>
    have ha : a = ⟨a.block, a.off, none⟩ ∧ a.block < W.heap.size := by
      obtain ⟨z, _, hcs, _⟩ := each 0 (Nat.succ_pos _)
      obtain ⟨_, hl2, hce⟩ := World.cells?_some hcs
      have h0 := hce 0 hn
      have hz0 : z.2[0]? = some (z.2[0]'(by omega)) := List.getElem?_eq_getElem _
      rw [hz0] at h0
      simp only [Nat.zero_mul] at h0
      have e0 : ∀ q : Addr, q.add 0 = q := by intro q; simp [Addr.add]
      rw [e0, e0] at h0
      have hsp : a = ⟨a.block, a.off, none⟩ := by
        have hb := h0
        unfold World.cell? at hb
        split at hb
        · cases hsp : a.spot with
          | none => cases a; simp_all
          | some s => simp [hsp] at hb
        · cases hb
      refine ⟨hsp, ?_⟩
      rcases Nat.lt_or_ge a.block W.heap.size with hh | hh
      · exact hh
      · rw [hsp] at h0
        unfold World.cell? at h0
        have : W.heap[a.block]? = none := by simp [hh]
        simp [this] at h0
    let f : Nat → α × List Value := fun i => if hi : i < len + 1 then Classical.choose (each i hi) else (d, [])
    have hf : ∀ i, i < len + 1 → ok (f i).1 ∧ W.cells? 0 (a.add (i * P.cellsOf t')) (P.cellsOf t') = some (f i).2 ∧ CellsR W (e (f i).1) (f i).2 := by
      intro i hi
      have := Classical.choose_spec (each i hi)
      simp only [f, hi, dite_true]
      exact this
    let l : List α := (List.range (len + 1)).map (fun i => (f i).1)
    have hll : l.length = len + 1 := by simp [l]
    have hlg : ∀ i, i < len + 1 → l.getD i d = (f i).1 := by intro i hi; simp [l, List.getD, hi]
    refine ⟨l, ⟨by unfold maxLen at hm; omega, fun b hb => ?_⟩, rfl, ?_⟩
    · obtain ⟨i, hi, rfl⟩ := List.mem_map.1 hb
      exact (hf i (List.mem_range.1 hi)).1
    · refine cells1 ?_ rfl
      rw [ha.1, hll]
      refine .ro _ _ _ _ _ _ _ (fun i j => (f i).2.getD j undef) ha.2 hl (fun i j hi hj => ?_) (fun i j hi hj => ?_) (fun i j hi hj => ?_)
      all_goals
        obtain ⟨g1, g2, g3, g4⟩ := hf i hi
        obtain ⟨_, q2, q3⟩ := World.cells?_some g2
        have hj' : j < (f i).2.length := by rw [q2]; exact hj
      · have h3 := q3 j hj
        rw [List.getElem?_eq_getElem hj'] at h3
        rw [ha.1, add_plain, add_plain] at h3
        show W.cell? ⟨a.block, a.off + i * P.cellsOf t' + j, none⟩ = some ((f i).2.getD j undef)
        rw [h3, List.getD, List.getElem?_eq_getElem hj']; rfl
      · show VR W (allS W) (fun _ => none) ((e (l.getD (0 + i) d)).getD j .any) _
        rw [Nat.zero_add, hlg i hi]
        exact (g4 j hj').1
      · exact (g4 j hj').2
/-- One part behind the other. -/
theorem CellsR.append {l l' : List AV} {cs cs' : List Value} (h : CellsR W l cs) (h' : CellsR W l' cs') : CellsR W (l ++ l') (cs ++ cs') := by
  have _pin := (inferInstance : Pins)
  refine ⟨by simp [h.1, h'.1], fun i hi => ?_⟩
  by_cases hlt : i < cs.length
  · have e1 : (l ++ l').getD i .any = l.getD i .any := by simp [List.getD, List.getElem?_append, h.1, hlt]
    have e2 : (cs ++ cs').getD i undef = cs.getD i undef := by simp [List.getD, List.getElem?_append, hlt]
    rw [e1, e2]; exact h.2 i hlt
  · have e1 : (l ++ l').getD i .any = l'.getD (i - cs.length) .any := by simp [List.getD, List.getElem?_append, h.1, hlt]
    have e2 : (cs ++ cs').getD i undef = cs'.getD (i - cs.length) undef := by simp [List.getD, List.getElem?_append, hlt]
    rw [e1, e2]; exact h'.2 _ (by simp at hi; omega)
/-- Readers of some cells in a row: the fields of a struct from one on. -/
def RdF {α : Type} (enc : TypeId × Value → H) (P : Program) (W : World) (fs : List Field) (o n : Nat) (e : α → List AV) (ok : α → Prop) : Prop :=
  ∀ fuel (cs : List Value) (m : Nat), cs.length = m → o + n = m → (∀ f ∈ fs, ∃ x, DataW.trod enc P W 0 (fun _ => true) true fuel f.type ((cs.drop f.offset).take (P.cellsOf f.type)) = some x) → ∃ a, ok a ∧ CellsR W (e a) (cs.drop o)
theorem RdF.nil {o : Nat} : RdF enc P W [] o 0 (fun _ : Unit => []) (fun _ => True) := by
  have _pin := (inferInstance : Pins)
  intro fuel cs m h1 h2 _
  refine ⟨(), trivial, ?_⟩
  rw [List.drop_of_length_le (by omega)]
  exact ⟨rfl, fun i hi => by simp at hi⟩
theorem RdF.cons {α β : Type} {f : Field} {fs : List Field} {o n m : Nat} {e : α → List AV} {ok : α → Prop} {e' : β → List AV} {ok' : β → Prop} (ho : f.offset = o) (hc : P.cellsOf f.type = n) (h : Rd enc P W f.type n e ok) (h' : RdF enc P W fs (o + n) m e' ok') :
    RdF enc P W (f :: fs) o (n + m) (fun a : α × β => e a.1 ++ e' a.2) (fun a => ok a.1 ∧ ok' a.2) := by
  intro fuel cs k h1 h2 h3
  obtain ⟨x, hx⟩ := h3 f (by simp)
  obtain ⟨a, ha, hl, hr⟩ := h _ _ _ hx
  obtain ⟨b, hb, hr'⟩ := h' fuel cs k h1 (by omega) (fun g hg => h3 g (by simp [hg]))
  refine ⟨(a, b), ⟨ha, hb⟩, ?_⟩
  rw [ho, hc] at hr
  have e1 : cs.drop o = (cs.drop o).take n ++ cs.drop (o + n) := by rw [← List.drop_drop, List.take_append_drop]
  rw [e1]
  exact hr.append hr'
theorem Rd.struct {α : Type} {t : TypeId} {fs : Array Field} {n : Nat} {e : α → List AV} {ok : α → Prop} (ht : P.underlying t = some (.struct fs)) (hc : P.cellsOf t = n) (h : RdF enc P W fs.toList 0 n e ok) : Rd enc P W t n e ok := by
  have _pin := (inferInstance : Pins)
  intro fuel cs x hx
  obtain ⟨xs, m, _, _, hl, hxl, hf⟩ := DataW.trod_struct ht hx
  obtain ⟨a, ha, hr⟩ := h m cs n (by omega) (by omega) (fun f hf' => by
    obtain ⟨i, hi, rfl⟩ := List.getElem_of_mem hf'
    have h1 := hf i fs.toList[i] (by simp at hi; simp [hi])
    have h2 : xs[i]? = some (xs[i]'(by simp at hi; omega)) := List.getElem?_eq_getElem _
    rw [h2] at h1
    exact ⟨_, h1⟩)
  exact ⟨a, ha, by omega, by simpa using hr⟩
/-- The same, told by another list of abstract values. -/
theorem CellsR.conv {l l' : List AV} {cs : List Value} (h : CellsR W l cs) (hl : l'.length = l.length) (he : ∀ i, i < l.length → AEq (l.getD i .any) (l'.getD i .any)) : CellsR W l' cs :=
  have _pin := (inferInstance : Pins); ⟨hl.trans h.1, fun i hi => ⟨he i (by rw [h.1]; exact hi) _ _ _ _ (h.2 i hi).1, (h.2 i hi).2⟩⟩
theorem Rd.map {α β : Type} {t : TypeId} {n : Nat} {e : α → List AV} {ok : α → Prop} {e' : β → List AV} {ok' : β → Prop} (h : Rd enc P W t n e ok) (f : α → β) (hok : ∀ a, ok a → ok' (f a)) (hl : ∀ a, (e' (f a)).length = (e a).length)
    (he : ∀ a i, i < (e a).length → AEq ((e a).getD i .any) ((e' (f a)).getD i .any)) : Rd enc P W t n e' ok' := by
  intro fuel cs x hx
  obtain ⟨a, ha, h1, h2⟩ := h fuel cs x hx
  exact ⟨f a, hok a ha, h1, h2.conv (hl a) (he a)⟩
theorem rowE_ints (k : IntKind) (l : List Int) : AEq (.ro (rowE 0 1 (fun n : Int => [AV.int k n]) l) 0 l.length) (.ro (.ints k l) 0 l.length) := by
  refine AEq.ro rfl (fun d j hd hj => ?_)
  have hj0 : j = 0 := Nat.lt_one_iff.1 hj
  subst hj0
  rfl
theorem rowE_strs (l : List (List UInt8)) : AEq (.ro (rowE [] 1 (fun s : List UInt8 => [AV.str s]) l) 0 l.length) (.ro (.strs l) 0 l.length) := by
  refine AEq.ro rfl (fun d j hd hj => ?_)
  have hj0 : j = 0 := Nat.lt_one_iff.1 hj
  subst hj0
  rfl
theorem Rd.ints {t t' : TypeId} {k : IntKind} (ht : P.underlying t = some (.slice t')) (hc : P.cellsOf t' = 1) (hk : P.underlying t' = some (.int k)) :
    Rd enc P W t 1 (fun l : List Int => [AV.ro (.ints k l) 0 l.length]) (fun l => l.length ≤ 9223372036854775807 ∧ ∀ n ∈ l, (Lit.int k n).wf = true) :=
  (Rd.slice 0 ht hc rfl (Rd.int hk)).map id (fun _ h => h) (fun _ => rfl) (fun l i hi => by
    have : i = 0 := by simpa using hi
    subst this
    exact rowE_ints k l)
theorem Rd.strs {t t' : TypeId} (ht : P.underlying t = some (.slice t')) (hc : P.cellsOf t' = 1) (hk : P.underlying t' = some .string) :
    Rd enc P W t 1 (fun l : List (List UInt8) => [AV.ro (.strs l) 0 l.length]) (fun l => l.length ≤ 9223372036854775807 ∧ ∀ s ∈ l, s.length ≤ 9223372036854775807) :=
  (Rd.slice [] ht hc rfl (Rd.str hk)).map id (fun _ h => h) (fun _ => rfl) (fun l i hi => by
    have : i = 0 := by simpa using hi
    subst this
    exact rowE_strs l)
theorem Rd.intss {t t' t'' : TypeId} (ht : P.underlying t = some (.slice t')) (hc : P.cellsOf t' = 1) (ht' : P.underlying t' = some (.slice t'')) (hc' : P.cellsOf t'' = 1) (hk : P.underlying t'' = some (.int .i64)) :
    Rd enc P W t 1 (fun l : List (List Int) => [AV.ro (rowsI l) 0 l.length]) (fun l => l.length ≤ 9223372036854775807 ∧ ∀ s ∈ l, s.length ≤ 9223372036854775807 ∧ ∀ n ∈ s, (Lit.int .i64 n).wf = true) :=
  (Rd.slice [] ht hc rfl (Rd.ints ht' hc' hk)).map id (fun _ h => h) (fun _ => rfl) (fun l i hi => by
    have : i = 0 := by simpa using hi
    subst this
    refine AEq.ro rfl (fun d j hd hj => ?_)
    have hj0 : j = 0 := Nat.lt_one_iff.1 hj
    subst hj0
    rfl)
/-- An argument that is one cell. -/
theorem Rd.one {α : Type} {t : TypeId} {e : α → List AV} {ok : α → Prop} {v : Value} {d : DataW H} {p : List MemPlace} (h : Rd enc P W t 1 e ok) (hv : v.cells = #[v]) (hd : DataW.Trod enc P W 0 (fun _ => true) true t v d p) :
    ∃ a, ok a ∧ VR W (allS W) (fun _ => none) ((e a).getD 0 .any) v := by
  have _pin := (inferInstance : Pins)
  obtain ⟨fuel, hx⟩ := hd
  rw [hv] at hx
  obtain ⟨a, ha, _, hr⟩ := h _ _ _ hx
  exact ⟨a, ha, (hr.2 0 Nat.zero_lt_one).1⟩
/-- A struct or an array. -/
theorem Rd.agg {α : Type} {t : TypeId} {n : Nat} {e : α → List AV} {ok : α → Prop} {vs : Array Value} {d : DataW H} {p : List MemPlace} (h : Rd enc P W t n e ok) (hd : DataW.Trod enc P W 0 (fun _ => true) true t (.agg vs) d p) :
    ∃ a, ok a ∧ VR W (allS W) (fun _ => none) (.agg (e a)) (.agg vs) := by
  have _pin := (inferInstance : Pins)
  obtain ⟨fuel, hx⟩ := hd
  obtain ⟨a, ha, _, hr⟩ := h _ _ _ hx
  have hc : (Value.agg vs).cells = vs := rfl
  rw [hc] at hr
  refine ⟨a, ha, .agg _ _ _ (by rw [hr.1]; simp) (fun i hi => ?_) (fun i hi => ?_)⟩
  all_goals
    rw [hr.1] at hi
    have g := hr.2 i hi
    have hi' : i < vs.size := by simpa using hi
    have e1 : vs.toList.getD i undef = vs.getD i undef := by simp [List.getD, Array.getD, hi']
    rw [e1] at g
  · exact g.1
  · exact g.2
end
end Go.Ax

namespace Go.Proofs.YtbeegiiiochblaaGreatDoor
open Go.Ax

/-- What the walks of this seat know of the listed variables. -/
def pinG (w : World) : Prop := True
  ∧ Lib.TabIs Tryz.prog w "internal/strconv.uint64pow10" .u64 Lib.pow10Tab
  ∧ True
instance : Pins := ⟨fun w _ => pinG w⟩
theorem var_stays {n : String} {w w' : World} (h : ∀ b, b < w.heap.size → w'.heap[b]? = w.heap[b]?) {cs : Array Value} (hv : w.var? Tryz.prog n = some cs) : w'.var? Tryz.prog n = some cs := by
  unfold World.var? at hv ⊢
  cases hg : Tryz.prog.globalNamed n with
  | none => simp [hg] at hv
  | some g =>
    simp only [hg, Option.bind_some] at hv ⊢
    have hlt : g < w.heap.size := by
      rcases Nat.lt_or_ge g w.heap.size with q | q
      · exact q
      · have : w.heap[g]? = none := by simp [q]
        simp [this] at hv
    rw [h g hlt]; exact hv
theorem pin_up {W : World} {S : Nat → Prop} (h : pinG W) : PinUp W S (fun _ => none) [] := by
  intro w' S' _ _ hb
  have hb' : ∀ b, b < W.heap.size → w'.heap[b]? = W.heap[b]? := fun b hl => hb b hl (by rintro ⟨h, o, s, C, h1, _⟩; simp at h1)
  show pinG w'
  unfold pinG at h ⊢
  obtain ⟨_, h⟩ := h
  obtain ⟨h1, h⟩ := h
  refine ⟨trivial, ?_⟩
  refine ⟨var_stays hb' h1, ?_⟩
  trivial
end Go.Proofs.YtbeegiiiochblaaGreatDoor

/-
  Numbers in base 2^32, in plain Lean. No program in sight.
-/
namespace Go.Ax.Bg

abbrev B : Nat := 4294967296
/-- The value of limbs, the least significant one first; the limbs of a number. -/
def valL : List Int → Nat
  | [] => 0
  | x :: r => x.toNat + B * valL r
def natL (n : Nat) : List Int := if h : n = 0 then [] else ((n % B : Nat) : Int) :: natL (n / B)
termination_by n
decreasing_by exact Nat.div_lt_self (Nat.pos_of_ne_zero h) (by decide)
def Lim (l : List Int) : Prop := ∀ x ∈ l, 0 ≤ x ∧ x < 4294967296
theorem natL_zero : natL 0 = [] := by rw [natL, dif_pos rfl]
theorem natL_pos {n : Nat} (h : n ≠ 0) : natL n = ((n % B : Nat) : Int) :: natL (n / B) := by rw [natL, dif_neg h]
theorem valL_natL (n : Nat) : valL (natL n) = n := by
  induction n using Nat.strongRecOn with
  | _ n ih =>
    by_cases h : n = 0
    · subst h; rw [natL_zero]; rfl
    · rw [natL_pos h, valL, ih _ (Nat.div_lt_self (Nat.pos_of_ne_zero h) (by decide)), Int.toNat_natCast]
      exact Nat.mod_add_div n B
theorem Lim.cons {x : Int} {r : List Int} : Lim (x :: r) ↔ (0 ≤ x ∧ x < 4294967296) ∧ Lim r := by simp [Lim]
theorem Lim.append {l m : List Int} : Lim (l ++ m) ↔ Lim l ∧ Lim m := by
  constructor
  · exact fun h => ⟨fun x hx => h x (List.mem_append_left _ hx), fun x hx => h x (List.mem_append_right _ hx)⟩
  · rintro ⟨h1, h2⟩ x hx
    rcases List.mem_append.1 hx with h | h
    · exact h1 x h
    · exact h2 x h
theorem Lim.nil : Lim [] := fun x hx => by simp at hx
theorem Lim.one {x : Int} (h : 0 ≤ x ∧ x < 4294967296) : Lim [x] := by rw [Lim.cons]; exact ⟨h, Lim.nil⟩
theorem natL_lim (n : Nat) : Lim (natL n) := by
  induction n using Nat.strongRecOn with
  | _ n ih =>
    by_cases h : n = 0
    · subst h; rw [natL_zero]; exact Lim.nil
    · rw [natL_pos h, Lim.cons]
      refine ⟨?_, ih _ (Nat.div_lt_self (Nat.pos_of_ne_zero h) (by decide))⟩
      have := Nat.mod_lt n (show 0 < B by decide)
      unfold B at this ⊢; omega
theorem Lim.get {l : List Int} (h : Lim l) {i : Nat} (hi : i < l.length) : 0 ≤ l.getD i 0 ∧ l.getD i 0 < 4294967296 := h _ (getD_mem 0 hi)
theorem Lim.take {l : List Int} (h : Lim l) (k : Nat) : Lim (l.take k) := fun x hx => h x (List.mem_of_mem_take hx)
theorem Lim.drop {l : List Int} (h : Lim l) (k : Nat) : Lim (l.drop k) := fun x hx => h x (List.mem_of_mem_drop hx)
theorem valL_append (l m : List Int) : valL (l ++ m) = valL l + B ^ l.length * valL m := by
  induction l with
  | nil => simp [valL]
  | cons x r ih =>
    rw [List.cons_append, valL, valL, ih, List.length_cons, Nat.pow_succ]
    rw [Nat.mul_add, Nat.add_assoc, Nat.mul_comm (B ^ r.length) B, Nat.mul_assoc]
theorem valL_lt {l : List Int} (h : Lim l) : valL l < B ^ l.length := by
  induction l with
  | nil => simp [valL]
  | cons x r ih =>
    rw [Lim.cons] at h
    have i := ih h.2
    rw [valL, List.length_cons, Nat.pow_succ]
    have hx : x.toNat < B := by unfold B; omega
    have : valL r + 1 ≤ B ^ r.length := i
    calc x.toNat + B * valL r < B + B * valL r := by omega
      _ = B * (valL r + 1) := by rw [Nat.mul_add, Nat.mul_one]; omega
      _ ≤ B * B ^ r.length := Nat.mul_le_mul_left _ this
      _ = B ^ r.length * B := Nat.mul_comm _ _
theorem valL_zeros (k : Nat) : valL (List.replicate k 0) = 0 := by
  induction k with
  | zero => rfl
  | succ k ih => rw [List.replicate_succ, valL, ih]; rfl
/-- Without superfluous zeros, limbs are those of their value. -/
theorem natL_val {l : List Int} (h : Lim l) (hz : l = [] ∨ l.getD (l.length - 1) 0 ≠ 0) : natL (valL l) = l := by
  induction l with
  | nil => exact natL_zero
  | cons x r ih =>
    rw [Lim.cons] at h
    have hx : x.toNat < B := by unfold B; omega
    have hxe : ((x.toNat : Nat) : Int) = x := by omega
    have hr : r = [] ∨ r.getD (r.length - 1) 0 ≠ 0 := by
      cases r with
      | nil => exact .inl rfl
      | cons y q =>
        right
        rcases hz with hz | hz
        · cases hz
        · simpa using hz
    have i := ih h.2 hr
    have hne : valL (x :: r) ≠ 0 := by
      rw [valL]
      cases r with
      | nil =>
        rcases hz with hz | hz
        · cases hz
        · simp at hz; simp [valL]; omega
      | cons y q =>
        intro h0
        have h1 : valL (y :: q) = 0 := by
          have : B * valL (y :: q) = 0 := by omega
          rcases Nat.mul_eq_zero.1 this with h | h
          · exact absurd h (by decide)
          · exact h
        rw [h1, natL_zero] at i
        cases i
    rw [natL_pos hne]
    have e1 : valL (x :: r) % B = x.toNat := by rw [valL, Nat.add_mul_mod_self_left, Nat.mod_eq_of_lt hx]
    have e2 : valL (x :: r) / B = valL r := by
      rw [valL, Nat.add_mul_div_left _ _ (by decide), Nat.div_eq_of_lt hx, Nat.zero_add]
    rw [e1, e2, i, hxe]
theorem natL_last {n : Nat} : natL n = [] ∨ (natL n).getD ((natL n).length - 1) 0 ≠ 0 := by
  induction n using Nat.strongRecOn with
  | _ n ih =>
    by_cases h : n = 0
    · subst h; exact .inl natL_zero
    · right
      rw [natL_pos h]
      have hlt := Nat.div_lt_self (Nat.pos_of_ne_zero h) (show 1 < B by decide)
      rcases ih (n / B) hlt with h1 | h1
      · rw [h1]
        have : n / B = 0 := by
          have := valL_natL (n / B)
          rw [h1] at this; exact this.symm
        have hn : n < B := by
          rcases Nat.lt_or_ge n B with q | q
          · exact q
          · have := Nat.div_pos q (show 0 < B by decide); omega
        simp only [List.length_cons, List.length_nil, Nat.zero_add, Nat.sub_self, List.getD_cons_zero]
        rw [Nat.mod_eq_of_lt hn]; omega
      · cases hq : natL (n / B) with
        | nil => rw [hq] at h1; simp at h1
        | cons y q =>
          rw [hq] at h1
          simpa using h1
/-- Zeros at the end cut away. -/
theorem norm_take {l : List Int} (h : Lim l) {k : Nat} (hk : k ≤ l.length) (h0 : ∀ i, k ≤ i → i < l.length → l.getD i 0 = 0) (hz : k = 0 ∨ l.getD (k - 1) 0 ≠ 0) : l.take k = natL (valL l) := by
  have e : l.drop k = List.replicate (l.length - k) 0 := by
    apply List.ext_getElem
    · simp
    · intro i h1 h2
      simp only [List.length_drop] at h1
      have := h0 (k + i) (by omega) (by omega)
      rw [getD_lt 0 (by omega)] at this
      simpa using this
  have hv : valL l = valL (l.take k) := by
    conv => lhs; rw [← List.take_append_drop k l]
    rw [valL_append, e, valL_zeros, Nat.mul_zero, Nat.add_zero]
  rw [hv, natL_val (h.take k)]
  rcases hz with hz | hz
  · subst hz; exact .inl (by simp)
  · right
    rw [List.length_take, Nat.min_eq_left hk]
    have hk0 : k ≠ 0 := fun e => by
      subst e
      cases l with
      | nil => simp at hz
      | cons x r => exact hz (h0 0 (Nat.le_refl _) (by simp))
    simp only [List.getD, List.getElem?_take, show k - 1 < k by omega, if_true]
    exact hz
theorem natL_len_le {n k : Nat} (h : n < B ^ k) : (natL n).length ≤ k := by
  rcases natL_last (n := n) with h1 | h1
  · rw [h1]; exact Nat.zero_le _
  · rcases Nat.lt_or_ge k (natL n).length with hl | hl
    · exfalso
      have hv := valL_natL n
      have hsplit := valL_append ((natL n).take ((natL n).length - 1)) ((natL n).drop ((natL n).length - 1))
      rw [List.take_append_drop, hv] at hsplit
      have hd : (natL n).drop ((natL n).length - 1) = [(natL n).getD ((natL n).length - 1) 0] := by
        rw [drop_getD (natL n) 0 _ (by omega), List.drop_of_length_le (by omega)]
      have hg := (natL_lim n).get (i := (natL n).length - 1) (by omega)
      rw [hd] at hsplit
      simp only [valL, Nat.mul_zero, Nat.add_zero, List.length_take] at hsplit
      rw [Nat.min_eq_left (by omega)] at hsplit
      have hx : 1 ≤ ((natL n).getD ((natL n).length - 1) 0).toNat := by omega
      have hp : B ^ k ≤ B ^ ((natL n).length - 1) := Nat.pow_le_pow_right (by decide) (by omega)
      have : B ^ ((natL n).length - 1) * 1 ≤ B ^ ((natL n).length - 1) * ((natL n).getD ((natL n).length - 1) 0).toNat := Nat.mul_le_mul_left _ hx
      omega
    · exact hl
theorem natL_len_ge {n k : Nat} (h : B ^ k ≤ n) : k < (natL n).length := by
  have h1 := valL_lt (natL_lim n)
  rw [valL_natL] at h1
  exact (Nat.pow_lt_pow_iff_right (show 1 < B by decide)).1 (Nat.lt_of_le_of_lt h h1)
theorem natL_inj {a b : Nat} (h : natL a = natL b) : a = b := by rw [← valL_natL a, ← valL_natL b, h]
theorem natL_nil {n : Nat} : natL n = [] ↔ n = 0 := by
  constructor
  · intro h; rw [← valL_natL n, h]; rfl
  · rintro rfl; exact natL_zero
theorem valL_take_succ {l : List Int} (i : Nat) (hi : i < l.length) : valL (l.take (i + 1)) = valL (l.take i) + B ^ i * (l.getD i 0).toNat := by
  rw [take_succ_getD l 0 i hi, valL_append]
  simp only [valL, Nat.mul_zero, Nat.add_zero, List.length_take]
  rw [Nat.min_eq_left (by omega)]
theorem valL_snoc {l : List Int} (x : Int) : valL (l ++ [x]) = valL l + B ^ l.length * x.toNat := by
  rw [valL_append]; simp only [valL, Nat.mul_zero, Nat.add_zero]
/-- The comparison from the top. -/
theorem cmp_split {a b : List Int} (i : Nat) (ha : Lim a) (hb : Lim b) (hl : a.length = b.length) (hi : i < a.length) (he : ∀ j, i < j → j < a.length → a.getD j 0 = b.getD j 0) (hlt : a.getD i 0 < b.getD i 0) : valL a < valL b := by
  have hd : a.drop (i + 1) = b.drop (i + 1) := by
    apply List.ext_getElem
    · simp [hl]
    · intro j h1 h2
      simp only [List.length_drop] at h1 h2
      have := he (i + 1 + j) (by omega) (by omega)
      rw [getD_lt 0 (by omega), getD_lt 0 (by omega)] at this
      simpa using this
  have ea : valL a = valL (a.take (i + 1)) + B ^ (i + 1) * valL (a.drop (i + 1)) := by
    conv => lhs; rw [← List.take_append_drop (i + 1) a]
    rw [valL_append, List.length_take, Nat.min_eq_left (by omega)]
  have eb : valL b = valL (b.take (i + 1)) + B ^ (i + 1) * valL (b.drop (i + 1)) := by
    conv => lhs; rw [← List.take_append_drop (i + 1) b]
    rw [valL_append, List.length_take, Nat.min_eq_left (by omega)]
  rw [ea, eb, hd, valL_take_succ i hi, valL_take_succ i (by omega)]
  have h1 := valL_lt (ha.take i)
  rw [List.length_take, Nat.min_eq_left (by omega)] at h1
  have hga := ha.get hi
  have hgb := hb.get (i := i) (by omega)
  have h2 : B ^ i * ((a.getD i 0).toNat + 1) ≤ B ^ i * (b.getD i 0).toNat := Nat.mul_le_mul_left _ (by omega)
  rw [Nat.mul_add, Nat.mul_one] at h2
  omega
end Go.Ax.Bg

/-
  The steps of the arithmetic on limbs, in plain Lean. No program in sight.
-/
namespace Go.Ax.Bg

theorem valL_set {l : List Int} {i : Nat} {x : Int} (hi : i < l.length) : valL (l.set i x) + B ^ i * (l.getD i 0).toNat = valL l + B ^ i * x.toNat := by
  induction l generalizing i with
  | nil => simp at hi
  | cons y r ih =>
    cases i with
    | zero => simp only [List.set_cons_zero, valL, Nat.pow_zero, Nat.one_mul, List.getD_cons_zero]; omega
    | succ i =>
      have h := ih (i := i) (by simpa using hi)
      simp only [List.set_cons_succ, valL, List.getD_cons_succ, Nat.pow_succ]
      have e1 : B ^ i * B * (r.getD i 0).toNat = B * (B ^ i * (r.getD i 0).toNat) := by rw [Nat.mul_comm (B ^ i) B, Nat.mul_assoc]
      have e2 : B ^ i * B * x.toNat = B * (B ^ i * x.toNat) := by rw [Nat.mul_comm (B ^ i) B, Nat.mul_assoc]
      rw [e1, e2]
      have e3 : B * (valL (r.set i x) + B ^ i * (r.getD i 0).toNat) = B * (valL r + B ^ i * x.toNat) := by rw [h]
      rw [Nat.mul_add, Nat.mul_add] at e3
      omega
theorem Lim.set {l : List Int} (h : Lim l) {i : Nat} {x : Int} (hx : 0 ≤ x ∧ x < 4294967296) : Lim (l.set i x) := fun y hy => by
  rcases List.mem_or_eq_of_mem_set hy with h1 | h1
  · exact h y h1
  · subst h1; exact hx
theorem Lim.zeros (k : Nat) : Lim (List.replicate k 0) := fun x hx => by rw [(List.mem_replicate.1 hx).2]; omega
/-- A carry is parted. -/
theorem part_carry (c : Nat) (p : Nat) : p * (c % B) + p * B * (c / B) = p * c := by
  rw [Nat.mul_assoc, ← Nat.mul_add, Nat.mod_add_div]
/-- One more limb, with a carry. -/
theorem snoc_carry {out : List Int} {i c t u : Nat} (hl : out.length = i) (h : valL out + B ^ i * t = u) {d : Nat} (hc : c = t + d) : valL (out ++ [((c % B : Nat) : Int)]) + B ^ (i + 1) * (c / B) = u + B ^ i * d := by
  rw [valL_snoc, hl, Int.toNat_natCast, Nat.pow_succ]
  have := part_carry c (B ^ i)
  have e : B ^ i * c = B ^ i * t + B ^ i * d := by rw [hc, Nat.mul_add]
  omega
theorem mod_lim (c : Nat) : 0 ≤ ((c % B : Nat) : Int) ∧ ((c % B : Nat) : Int) < 4294967296 := by
  have := Nat.mod_lt c (show 0 < B by decide)
  unfold B at this ⊢; omega

/-- Knuth's estimate: the quotient by the first three and the first two limbs. -/
theorem est_ge {u v U V P q : Nat} (hP : 0 < P) (hu : u < (U + 1) * P) (hv : V * P ≤ v) (hq : q * v ≤ u) : q * V ≤ U := by
  have h1 : q * V * P ≤ q * v := by rw [Nat.mul_assoc]; exact Nat.mul_le_mul_left _ hv
  have h2 : q * V * P < (U + 1) * P := Nat.lt_of_le_of_lt (Nat.le_trans h1 hq) hu
  have := Nat.lt_of_mul_lt_mul_right h2
  omega
theorem est_le {u v U V P g : Nat} (hP : 0 < P) (hu : U * P ≤ u) (hv : v ≤ (V + 1) * P) (hg : g * V ≤ U) (hgV : g ≤ V + 1) (h1 : 1 ≤ g) : (g - 1) * v ≤ u := by
  have a : (g - 1) * v ≤ (g - 1) * ((V + 1) * P) := Nat.mul_le_mul_left _ hv
  have b : (g - 1) * ((V + 1) * P) = (g - 1) * (V + 1) * P := by rw [Nat.mul_assoc]
  have c : (g - 1) * (V + 1) ≤ g * V := by
    obtain ⟨k, rfl⟩ : ∃ k, g = k + 1 := ⟨g - 1, by omega⟩
    simp only [Nat.add_sub_cancel]
    rw [Nat.mul_add, Nat.add_mul]
    omega
  have d : (g - 1) * (V + 1) * P ≤ U * P := Nat.mul_le_mul_right _ (Nat.le_trans c hg)
  omega
end Go.Ax.Bg

/-
  The division of limbs, in plain Lean: one digit of a quotient (Knuth), all digits. No program in sight.
-/
namespace Go.Ax.Bg

theorem valL_take_succ' (l : List Int) (i : Nat) : valL (l.take (i + 1)) = valL (l.take i) + B ^ i * (l.getD i 0).toNat := by
  rcases Nat.lt_or_ge i l.length with h | h
  · exact valL_take_succ i h
  · rw [List.take_of_length_le h, List.take_of_length_le (by omega)]
    have : l.getD i 0 = 0 := by simp [List.getD, List.getElem?_eq_none h]
    rw [this]; simp
theorem Lim.get' {l : List Int} (h : Lim l) (i : Nat) : 0 ≤ l.getD i 0 ∧ l.getD i 0 < 4294967296 := by
  rcases Nat.lt_or_ge i l.length with hi | hi
  · exact h.get hi
  · have : l.getD i 0 = 0 := by simp [List.getD, List.getElem?_eq_none hi]
    omega
theorem Lim.nat {l : List Int} (h : Lim l) (i : Nat) : ∃ d : Nat, l.getD i 0 = (d : Int) ∧ d < 4294967296 := by
  have := h.get' i
  exact ⟨(l.getD i 0).toNat, by omega, by omega⟩
theorem valL_drop (l : List Int) (i : Nat) : valL l = valL (l.take i) + B ^ (min i l.length) * valL (l.drop i) := by
  conv => lhs; rw [← List.take_append_drop i l]
  rw [valL_append, List.length_take]
theorem valL_drop_succ (l : List Int) (i : Nat) : valL (l.drop i) = (l.getD i 0).toNat + B * valL (l.drop (i + 1)) := by
  rcases Nat.lt_or_ge i l.length with h | h
  · rw [drop_getD l 0 i h, valL]
  · rw [List.drop_of_length_le h, List.drop_of_length_le (by omega)]
    have : l.getD i 0 = 0 := by simp [List.getD, List.getElem?_eq_none h]
    rw [this]; simp [valL]
/-- A small number's high limbs are zeros. -/
theorem high_zero {l : List Int} (h : Lim l) {k : Nat} (hv : valL l < B ^ k) : ∀ i, k ≤ i → l.getD i 0 = 0 := by
  intro i hi
  rcases Nat.lt_or_ge i l.length with hl | hl
  · have e := valL_drop l i
    rw [Nat.min_eq_left (by omega), valL_drop_succ] at e
    have hg := h.get hl
    rcases Nat.eq_zero_or_pos (l.getD i 0).toNat with h0 | h0
    · omega
    · exfalso
      have h1 : B ^ i * 1 ≤ B ^ i * ((l.getD i 0).toNat + B * valL (l.drop (i + 1))) := Nat.mul_le_mul_left _ (by omega)
      have h2 : B ^ k ≤ B ^ i := Nat.pow_le_pow_right (by decide) hi
      omega
  · simp [List.getD, List.getElem?_eq_none hl]
theorem valL_take_of_small {l : List Int} (h : Lim l) {k : Nat} (hv : valL l < B ^ k) : valL (l.take k) = valL l := by
  rcases Nat.lt_or_ge k l.length with hl | hl
  · have e := valL_drop l k
    rw [Nat.min_eq_left (by omega)] at e
    have : valL (l.drop k) = 0 := by
      rcases Nat.eq_zero_or_pos (valL (l.drop k)) with h0 | h0
      · exact h0
      · exfalso
        have : B ^ k * 1 ≤ B ^ k * valL (l.drop k) := Nat.mul_le_mul_left _ h0
        omega
    rw [this] at e
    omega
  · rw [List.take_of_length_le hl]
theorem getD_take {l : List Int} {k i : Nat} (h : i < k) : (l.take k).getD i 0 = l.getD i 0 := by
  simp only [List.getD, List.getElem?_take, h, if_true]
/-- Limbs, cut to their true length. -/
theorem take_true {l : List Int} (hl : Lim l) : l.take (natL (valL l)).length = natL (valL l) := by
  have h := natL_len_le (valL_lt hl)
  have hsm := valL_lt (natL_lim (valL l))
  rw [valL_natL] at hsm
  have hv := valL_take_of_small hl hsm
  obtain ⟨n, hn⟩ : ∃ n, (natL (valL l)).length = n := ⟨_, rfl⟩
  rw [hn] at h hsm hv ⊢
  rcases Nat.eq_zero_or_pos n with q | q
  · subst q
    rw [List.take_zero, List.length_eq_zero_iff.1 hn]
  · have e := natL_val (hl.take n) (.inr (fun h9 => ?_))
    · rw [hv] at e; exact e.symm
    · rw [List.length_take, Nat.min_eq_left h, getD_take (by omega)] at h9
      have hlast := valL_take_succ' l (n - 1)
      rw [show n - 1 + 1 = n by omega, hv, h9] at hlast
      have h5 := valL_lt (hl.take (n - 1))
      rw [List.length_take, Nat.min_eq_left (by omega)] at h5
      have h6 : valL l < B ^ (n - 1) := by rw [hlast]; simpa using h5
      have := natL_len_le h6
      omega
theorem zeros_at (n i : Nat) : (List.replicate n (0 : Int)).getD i 0 = 0 := by
  simp only [List.getD, List.getElem?_replicate]
  split <;> rfl
theorem bpos (i : Nat) : 0 < B ^ i := Nat.pow_pos (by decide)

theorem valL_nil : valL [] = 0 := rfl
/-- One limb of a sum, of a difference. -/
theorem add_step {out x y : List Int} {i cr d e : Nat} (hl : out.length = i) (h : valL out + B ^ i * cr = valL (x.take i) + valL (y.take i)) (hd : x.getD i 0 = (d : Int)) (he : y.getD i 0 = (e : Int)) :
    valL (out ++ [(((cr + d + e) % 4294967296 : Nat) : Int)]) + B ^ (i + 1) * ((cr + d + e) / 4294967296) = valL (x.take (i + 1)) + valL (y.take (i + 1)) := by
  have := snoc_carry hl h (c := cr + d + e) (d := d + e) (by omega)
  rw [valL_take_succ', valL_take_succ', hd, he, Int.toNat_natCast, Int.toNat_natCast]
  rw [Nat.mul_add] at this
  unfold B at *
  omega
theorem sub1_step {out x y : List Int} {i br d e yv br' : Nat} (hl : out.length = i) (h : valL out + valL (y.take i) = valL (x.take i) + B ^ i * br) (hd : x.getD i 0 = (d : Int)) (he : y.getD i 0 = (e : Int)) (hy : yv + br + e = d + 4294967296 * br') :
    valL (out ++ [(yv : Int)]) + valL (y.take (i + 1)) = valL (x.take (i + 1)) + B ^ (i + 1) * br' := by
  rw [valL_take_succ', valL_take_succ', hd, he, Int.toNat_natCast, Int.toNat_natCast, valL_snoc, hl, Int.toNat_natCast, Nat.pow_succ, Nat.mul_assoc]
  have h3 : B ^ i * yv + B ^ i * br + B ^ i * e = B ^ i * d + B ^ i * (B * br') := by rw [← Nat.mul_add, ← Nat.mul_add, ← Nat.mul_add]; exact congrArg _ hy
  omega
/-- One limb of a product. -/
theorem mul_step {out : List Int} {p cr a b o u : Nat} (hp : p < out.length) (h : valL out + B ^ p * cr = u) (ho : out.getD p 0 = (o : Int)) :
    valL (out.set p (((cr + (a * b + o)) % 4294967296 : Nat) : Int)) + B ^ (p + 1) * ((cr + (a * b + o)) / 4294967296) = u + B ^ p * (a * b) := by
  have h1 := valL_set (x := (((cr + (a * b + o)) % 4294967296 : Nat) : Int)) hp
  rw [ho, Int.toNat_natCast, Int.toNat_natCast] at h1
  have h2 := part_carry (cr + (a * b + o)) (B ^ p)
  rw [Nat.pow_succ]
  have e : B ^ p * (cr + (a * b + o)) = B ^ p * cr + (B ^ p * (a * b) + B ^ p * o) := by rw [Nat.mul_add, Nat.mul_add]
  rw [e] at h2
  unfold B at *
  omega
theorem lgetD_set_ne {l : List Int} {i j : Nat} {x : Int} (h : i ≠ j) : (l.set i x).getD j 0 = l.getD j 0 := by
  simp only [List.getD, List.getElem?_set_ne h]
theorem drop_set_one {l : List Int} {i : Nat} {x : Int} (h : i < l.length) : (l.set i x).drop i = x :: l.drop (i + 1) := by
  have h2 : i < (l.set i x).length := by simpa using h
  rw [drop_getD (l.set i x) 0 i h2]
  congr 1
  · simp [List.getD, h]
  · rw [List.drop_set_of_lt (by omega)]
theorem p32 : (2 : Nat) ^ 32 = 4294967296 := by decide
theorem shl_lt {a : Nat} (h : a < 4294967296) : a * 2 ^ 32 < 18446744073709551616 := by
  have e : a * 2 ^ 32 = a * 4294967296 := congrArg (a * ·) p32
  rw [e]; omega
theorem or_shl {a b : Nat} (h : b < 4294967296) : a * 2 ^ 32 ||| b = a * 4294967296 + b := by
  have := Nat.two_pow_add_eq_or_of_lt (i := 32) (b := b) (by simpa using h) a
  rw [Nat.mul_comm (2 ^ 32) a] at this
  rw [← this]
/-- Comparing. -/
def cmpZ (x y : Int) : Int := if x < y then -1 else if y < x then 1 else 0
theorem cmpZ_lt {x y : Int} (h : x < y) : cmpZ x y = -1 := if_pos h
theorem cmpZ_gt {x y : Int} (h : y < x) : cmpZ x y = 1 := by unfold cmpZ; rw [if_neg (by omega), if_pos h]
theorem cmpZ_eq {x y : Int} (h : x = y) : cmpZ x y = 0 := by unfold cmpZ; rw [if_neg (by omega), if_neg (by omega)]
theorem cmp_len (a b : Nat) (h : (natL a).length ≠ (natL b).length) : cmpZ a b = cmpZ (natL a).length (natL b).length := by
  have key : ∀ u v : Nat, (natL u).length < (natL v).length → u < v := by
    intro u v huv
    rcases Nat.lt_or_ge u v with q | q
    · exact q
    · exfalso
      have h1 := valL_lt (natL_lim u)
      rw [valL_natL] at h1
      have h2 : v < B ^ (natL u).length := Nat.lt_of_le_of_lt q h1
      have := natL_len_le h2
      omega
  rcases Nat.lt_or_ge (natL a).length (natL b).length with q | q
  · rw [cmpZ_lt (Int.ofNat_lt.2 q), cmpZ_lt (Int.ofNat_lt.2 (key a b q))]
  · have q' : (natL b).length < (natL a).length := by omega
    rw [cmpZ_gt (Int.ofNat_lt.2 q'), cmpZ_gt (Int.ofNat_lt.2 (key b a q'))]
theorem cmp_limb {a b : Nat} (ha : Lim (natL a)) (hb : Lim (natL b)) (hl : (natL a).length = (natL b).length) {i : Nat} (hi : i < (natL a).length) (he : ∀ j, i < j → j < (natL a).length → (natL a).getD j 0 = (natL b).getD j 0) (hne : (natL a).getD i 0 ≠ (natL b).getD i 0) :
    cmpZ a b = cmpZ ((natL a).getD i 0) ((natL b).getD i 0) := by
  rcases Int.lt_trichotomy ((natL a).getD i 0) ((natL b).getD i 0) with q | q | q
  · have := cmp_split i ha hb hl hi he q
    rw [valL_natL, valL_natL] at this
    rw [cmpZ_lt q, cmpZ_lt (Int.ofNat_lt.2 this)]
  · exact absurd q hne
  · have := cmp_split i hb ha hl.symm (by omega) (fun j h1 h2 => (he j h1 (by omega)).symm) q
    rw [valL_natL, valL_natL] at this
    rw [cmpZ_gt q, cmpZ_gt (Int.ofNat_lt.2 this)]
theorem cmp_same {a b : Nat} (hl : (natL a).length = (natL b).length) (he : ∀ j, j < (natL a).length → (natL a).getD j 0 = (natL b).getD j 0) : cmpZ a b = 0 := by
  have : natL a = natL b := by
    apply List.ext_getElem hl
    intro i h1 h2
    have := he i h1
    rw [getD_lt 0 h1, getD_lt 0 h2] at this
    exact this
  rw [cmpZ_eq (by rw [natL_inj this])]
/-- What the estimate begins with: at least the quotient. -/
theorem guess_ge {B top v1 v2 u2 g : Nat} (hv1 : 0 < v1) (h2 : u2 < B) (hg : g * (v1 * B + v2) ≤ top * B + u2) : g ≤ top / v1 := by
  rw [Nat.le_div_iff_mul_le hv1]
  have : g * v1 * B ≤ top * B + u2 := by
    refine Nat.le_trans ?_ hg
    rw [Nat.mul_add, Nat.mul_assoc]
    exact Nat.le_add_right _ _
  have : g * v1 * B < (top + 1) * B := by rw [Nat.add_mul]; omega
  have := Nat.lt_of_mul_lt_mul_right this
  omega
/-- The two conditions of the loop, together. -/
theorem guess_test {B top v1 v2 u2 g rest : Nat} (hr : rest + g * v1 = top) (hg : g < B) (h2 : v2 < B) : (rest < B ∧ rest * B + u2 < g * v2) ↔ top * B + u2 < g * (v1 * B + v2) := by
  have e : g * (v1 * B + v2) = g * v1 * B + g * v2 := by rw [Nat.mul_add, Nat.mul_assoc]
  have e2 : top * B = rest * B + g * v1 * B := by rw [← hr, Nat.add_mul]
  rw [e, e2]
  constructor
  · rintro ⟨_, h⟩; omega
  · intro h
    refine ⟨?_, by omega⟩
    rcases Nat.lt_or_ge rest B with q | q
    · exact q
    · exfalso
      have h3 : B * B ≤ rest * B := Nat.mul_le_mul_right _ q
      have h4 : g * v2 ≤ B * B := Nat.mul_le_mul (by omega) (by omega)
      omega

/-- One limb of a subtraction of a product. -/
theorem sub_step {P w g va u0 c b t y : Nat} (h : w + g * va = u0 + P * (c + b)) {ui : Nat} (b' : Nat) (hx : (y : Int) = (ui : Int) - ((c + t) % B : Nat) - b + B * b') :
    w + P * y + (g * va + P * t) = u0 + P * ui + P * B * ((c + t) / B + b') := by
  have e : P * ((c + t) % B) + P * B * ((c + t) / B) = P * (c + t) := part_carry (c + t) P
  have h1 : (y : Int) + ((c + t) % B : Nat) + b = ui + B * b' := by omega
  have h2 : y + (c + t) % B + b = ui + B * b' := by omega
  have h3 : P * y + P * ((c + t) % B) + P * b = P * ui + P * (B * b') := by rw [← Nat.mul_add, ← Nat.mul_add, h2, Nat.mul_add]
  rw [Nat.mul_add (P * B), Nat.mul_assoc P B b']
  rw [Nat.mul_add] at e h
  omega

/-- What the digit is: its number and what remains. -/
theorem digit_done {u v g w : Nat} {n b : Nat} (hw : w < B ^ n) (hv : v < B ^ n) (hu : u < B ^ n) (hb : b ≤ 1) (h : w + g * v = u + B ^ n * b) (h1 : u / v ≤ g) (h2 : g ≤ u / v + 1) (hv0 : 0 < v) :
    (b = 0 → g = u / v ∧ w = u % v) ∧ (b = 1 → g = u / v + 1 ∧ (w + v) = u % v + B ^ n) := by
  have hd := Nat.div_add_mod u v
  have hm := Nat.mod_lt u hv0
  have hc : v * (u / v) = (u / v) * v := Nat.mul_comm _ _
  constructor
  · intro h0
    subst h0
    rw [Nat.mul_zero, Nat.add_zero] at h
    have hge : g ≤ u / v := by rw [Nat.le_div_iff_mul_le hv0]; omega
    have : g = u / v := by omega
    subst this
    exact ⟨rfl, by omega⟩
  · intro h0
    subst h0
    rw [Nat.mul_one] at h
    have hg : g = u / v + 1 := by
      rcases Nat.lt_or_ge g (u / v + 1) with q | q
      · exfalso
        have : g = u / v := by omega
        subst this
        omega
      · omega
    subst hg
    rw [Nat.add_mul, Nat.one_mul] at h
    exact ⟨rfl, by omega⟩
end Go.Ax.Bg

/-
  Tables as text, in plain Lean. No program in sight.
-/
namespace Go.Ax.Tb

/-- strings.Cut at one byte. -/
def cutF (b : UInt8) : List UInt8 → List UInt8 × List UInt8 × Bool
  | [] => ([], [], false)
  | c :: r => if c = b then ([], r, true) else (c :: (cutF b r).1, (cutF b r).2.1, (cutF b r).2.2)
theorem cutF_no {b : UInt8} {s : List UInt8} (h : b ∉ s) : cutF b s = (s, [], false) := by
  induction s with
  | nil => rfl
  | cons c r ih =>
    simp only [List.mem_cons, not_or] at h
    rw [cutF, if_neg (fun e => h.1 e.symm), ih h.2]
theorem cutF_at {b : UInt8} {l r : List UInt8} (h : b ∉ l) : cutF b (l ++ b :: r) = (l, r, true) := by
  induction l with
  | nil => rw [List.nil_append, cutF, if_pos rfl]
  | cons c q ih =>
    simp only [List.mem_cons, not_or] at h
    rw [List.cons_append, cutF, if_neg (fun e => h.1 e.symm), ih h.2]
theorem cutF_len (b : UInt8) (s : List UInt8) : (cutF b s).1.length + (cutF b s).2.1.length + (if (cutF b s).2.2 then 1 else 0) = s.length := by
  induction s with
  | nil => rfl
  | cons c r ih =>
    rw [cutF]
    split
    · simp
    · simp only [List.length_cons]; omega
theorem cutF_lt {b : UInt8} {s : List UInt8} (h : s ≠ []) : (cutF b s).2.1.length < s.length := by
  cases s with
  | nil => exact absurd rfl h
  | cons c r =>
    rw [cutF]
    split
    · simp
    · have := cutF_len b r
      simp only [List.length_cons]; omega
/-- .. and by the index of the byte. -/
theorem cutF_idx (b : UInt8) (s : List UInt8) : cutF b s = if 0 ≤ Lib.indexByte s b then (s.take (Lib.indexByte s b).toNat, s.drop ((Lib.indexByte s b).toNat + 1), true) else (s, [], false) := by
  induction s with
  | nil => rfl
  | cons c r ih =>
    rw [cutF, Lib.indexByte]
    by_cases hc : c = b
    · subst hc; simp
    · have hb : (c == b) = false := by simpa using hc
      simp only [hb, Bool.false_eq_true, if_false, hc]
      rw [ih]
      have hge := Lib.indexByte_ge r b
      by_cases h1 : Lib.indexByte r b = -1
      · simp [h1]
      · have h2 : (Lib.indexByte r b == -1) = false := by simpa using h1
        simp only [h2, Bool.false_eq_true, if_false]
        rw [if_pos (by omega), if_pos (by omega)]
        have e : (Lib.indexByte r b + 1).toNat = (Lib.indexByte r b).toNat + 1 := by omega
        rw [e]; rfl

/-- A number's text: table.number. -/
def numB (s : List UInt8) : Bool := match Lib.atoiAll s with
  | .ok n => decide (0 ≤ n) && decide (Lib.itoa n = s)
  | _ => false
def numV (s : List UInt8) : Int := match Lib.atoiAll s with
  | .ok n => n
  | .syntax => 0
  | .range => Lib.atoiSat s
theorem numB_ok {s : List UInt8} (h : numB s = true) : ∃ n : Int, 0 ≤ n ∧ Lib.atoiAll s = .ok n ∧ Lib.itoa n = s ∧ numV s = n := by
  unfold numB at h
  split at h
  · rename_i n hn
    simp only [Bool.and_eq_true, decide_eq_true_eq] at h
    exact ⟨n, h.1, hn, h.2, by unfold numV; rw [hn]⟩
  · cases h
def digit (c : UInt8) : Prop := 48 ≤ c.toNat ∧ c.toNat ≤ 57
theorem digit_of {d : Nat} (h : d < 10) : digit (UInt8.ofNat (48 + d)) ∧ (UInt8.ofNat (48 + d)).toNat = 48 + d := by
  have e : (UInt8.ofNat (48 + d)).toNat = 48 + d := by simp; omega
  exact ⟨⟨by omega, by omega⟩, e⟩
theorem digits_digit (u : Nat) : ∀ c ∈ Lib.decDigits u, digit c := by
  induction u using Nat.strongRecOn with
  | _ u ih =>
    intro c hc
    rw [Lib.decDigits] at hc
    split at hc
    · rename_i h
      simp only [List.mem_singleton] at hc
      subst hc; exact (digit_of h).1
    · rw [List.mem_append] at hc
      rcases hc with hc | hc
      · exact ih _ (by omega) c hc
      · simp only [List.mem_singleton] at hc
        subst hc; exact (digit_of (Nat.mod_lt _ (by decide))).1
theorem digits_ne (u : Nat) : Lib.decDigits u ≠ [] := by
  rw [Lib.decDigits]
  split <;> simp
theorem parse_snoc (l : List UInt8) (c : UInt8) : ∀ (acc m : Nat), Lib.parseUint10 acc l = .ok m → Lib.parseUint10 acc (l ++ [c]) = Lib.parseUint10 m [c] := by
  induction l with
  | nil => intro acc m h; simp only [Lib.parseUint10, Lib.NumEnd.ok.injEq] at h; subst h; rfl
  | cons x r ih =>
    intro acc m h
    rw [List.cons_append]
    simp only [Lib.parseUint10] at h ⊢
    split at h
    · split at h
      · cases h
      · split at h
        · cases h
        · rename_i h1 h2 h3
          rw [if_pos h1, if_neg h2, if_neg h3]
          exact ih _ m h
    · cases h
theorem parse_digits (u : Nat) (h : u < 18446744073709551616) : Lib.parseUint10 0 (Lib.decDigits u) = .ok u := by
  induction u using Nat.strongRecOn with
  | _ u ih =>
    rw [Lib.decDigits]
    split
    · rename_i h1
      have := (digit_of h1).2
      simp only [Lib.parseUint10, this]
      rw [if_pos (by omega), if_neg (by omega), if_neg (by omega)]
      simp
    · have := (digit_of (Nat.mod_lt u (show 0 < 10 by decide))).2
      rw [parse_snoc _ _ 0 (u / 10) (ih _ (by omega) (by omega))]
      simp only [Lib.parseUint10, this]
      rw [if_pos (by omega), if_neg (by omega), if_neg (by omega)]
      simp only [Lib.NumEnd.ok.injEq]
      omega
theorem atoi_digits (u : Nat) (h : u < 9223372036854775808) : Lib.atoiAll (Lib.decDigits u) = .ok (u : Int) := by
  have hd := digits_digit u
  have hp := parse_digits u (by omega)
  have hn := digits_ne u
  generalize Lib.decDigits u = l at *
  cases l with
  | nil => exact absurd rfl hn
  | cons c r =>
    have hc := hd c (by simp)
    unfold digit at hc
    unfold Lib.atoiAll
    simp only
    rw [if_neg (by omega)]
    unfold Lib.parseMag
    rw [if_neg (by simp), hp]
    simp only
    rw [if_neg (by omega), if_neg (by omega), if_neg (by omega)]
theorem itoa_nat (u : Nat) : Lib.itoa (u : Int) = Lib.decDigits u := by
  unfold Lib.itoa
  rw [if_neg (by omega)]; simp
theorem num_digits (u : Nat) (h : u < 9223372036854775808) : numB (Lib.decDigits u) = true ∧ numV (Lib.decDigits u) = u := by
  unfold numB numV
  rw [atoi_digits u h]
  simp [itoa_nat]
/-- A byte that is no digit spoils it. -/
theorem numB_digits {s : List UInt8} (h : numB s = true) : ∀ c ∈ s, digit c := by
  obtain ⟨n, hn, _, he, _⟩ := numB_ok h
  obtain ⟨u, rfl⟩ : ∃ u : Nat, n = u := ⟨n.toNat, by omega⟩
  rw [itoa_nat] at he
  rw [← he]; exact digits_digit u

/-- table.Sum -/
def sumGo : List UInt8 → Int → Int → Int × Int
  | [], a, b => (a, b)
  | c :: r, a, b => sumGo r ((a + (c.toNat : Int)) % 65521) ((b + (a + (c.toNat : Int)) % 65521) % 65521)
def sumF (s : List UInt8) : Int := 65536 * (sumGo s 1 0).2 + (sumGo s 1 0).1
theorem sumGo_snoc (s : List UInt8) (c : UInt8) (a b : Int) : sumGo (s ++ [c]) a b = (((sumGo s a b).1 + (c.toNat : Int)) % 65521, ((sumGo s a b).2 + ((sumGo s a b).1 + (c.toNat : Int)) % 65521) % 65521) := by
  induction s generalizing a b with
  | nil => rfl
  | cons x r ih => rw [List.cons_append, sumGo, ih, sumGo]
def total : List UInt8 → Int
  | [] => 0
  | c :: r => (c.toNat : Int) + total r
theorem sumGo_bd (s : List UInt8) (a b : Int) (ha : 0 ≤ a ∧ a < 65521) (hb : 0 ≤ b ∧ b < 65521) : (0 ≤ (sumGo s a b).1 ∧ (sumGo s a b).1 < 65521) ∧ 0 ≤ (sumGo s a b).2 ∧ (sumGo s a b).2 < 65521 := by
  induction s generalizing a b with
  | nil => exact ⟨ha, hb⟩
  | cons c r ih => rw [sumGo]; exact ih _ _ (by omega) (by omega)
theorem sumGo_a (s : List UInt8) (a b : Int) (ha : 0 ≤ a ∧ a < 65521) : (sumGo s a b).1 = (a + total s) % 65521 := by
  induction s generalizing a b with
  | nil => simp only [sumGo, total]; omega
  | cons c r ih =>
    rw [sumGo, total, ih _ _ (by omega)]
    omega
theorem sumF_bd (s : List UInt8) : 0 ≤ sumF s ∧ sumF s < 4294967296 := by
  have := sumGo_bd s 1 0 (by omega) (by omega)
  unfold sumF; omega
theorem total_append (s t : List UInt8) : total (s ++ t) = total s + total t := by
  induction s with
  | nil => simp [total]
  | cons c r ih => simp only [List.cons_append, total, ih]; omega
/-- One changed byte changes the sum. -/
theorem sumF_spoilt {l r : List UInt8} {c d : UInt8} (h : c ≠ d) : sumF (l ++ c :: r) ≠ sumF (l ++ d :: r) := by
  intro he
  have b1 := sumGo_bd (l ++ c :: r) 1 0 (by omega) (by omega)
  have b2 := sumGo_bd (l ++ d :: r) 1 0 (by omega) (by omega)
  have a1 := sumGo_a (l ++ c :: r) 1 0 (by omega)
  have a2 := sumGo_a (l ++ d :: r) 1 0 (by omega)
  unfold sumF at he
  have hc := c.toNat_lt
  have hd := d.toNat_lt
  have hne : c.toNat ≠ d.toNat := fun e => h (UInt8.toNat_inj.1 e)
  rw [total_append, total] at a1 a2
  have : (sumGo (l ++ c :: r) 1 0).1 = (sumGo (l ++ d :: r) 1 0).1 := by omega
  omega

/-- table.Pack: a run, the text of all runs. -/
def runT (v : Int) (k : Nat) : List UInt8 := Lib.itoa v ++ ((if 1 < k then 120 :: Lib.itoa k else []) ++ [59])
def same (v : Int) : List Int → Nat
  | [] => 0
  | x :: r => if x = v then same v r + 1 else 0
theorem same_le (v : Int) (l : List Int) : same v l ≤ l.length := by
  induction l with
  | nil => simp [same]
  | cons x r ih => rw [same]; split <;> simp <;> omega
def packB : Nat → List Int → List UInt8
  | 0, _ => []
  | _ + 1, [] => []
  | n + 1, v :: r => runT v (same v r + 1) ++ packB n (r.drop (same v r))
theorem same_take (v : Int) (l : List Int) : l.take (same v l) = List.replicate (same v l) v := by
  induction l with
  | nil => simp [same]
  | cons x r ih =>
    rw [same]
    split
    · rename_i h; subst h; rw [List.take_succ_cons, ih, List.replicate_succ]
    · simp
theorem same_stop (v : Int) (l : List Int) (h : same v l < l.length) : l.getD (same v l) 0 ≠ v := by
  induction l with
  | nil => simp [same] at h
  | cons x r ih =>
    rw [same] at h ⊢
    split
    · rename_i hx
      rw [if_pos hx] at h
      simp only [List.length_cons] at h
      rw [List.getD_cons_succ]
      exact ih (by omega)
    · rename_i hx; simpa using hx

/-- table.Unpack: one run; all runs. none: a fault of the form; else value and count. -/
def runV (run : List UInt8) : Option (Int × Int) :=
  let c := cutF 120 run
  if numB c.1 = false then none
  else if c.2.2 = true then
    if numB c.2.1 = true ∧ 1 < numV c.2.1 then some (numV c.1, numV c.2.1) else none
  else some (numV c.1, 1)
inductive Unp where
  | bad (e : Int)
  | good (l : List Int)
/-- rest, what is unpacked, the last value. -/
def unpGo : Nat → List UInt8 → List Int → Int → Unp
  | 0, _, out, _ => .good out
  | n + 1, rest, out, last =>
    if rest = [] then .good out
    else match runV (cutF 59 rest).1 with
      | none => .bad 5
      | some (v, k) =>
        if 9999 < v ∨ v = last then .bad 5
        else if 4096 - (out.length : Int) < k then .bad 2
        else unpGo n (cutF 59 rest).2.1 (out ++ List.replicate k.toNat v) v
theorem unpGo_more : ∀ (n : Nat) (rest : List UInt8) (out : List Int) (last : Int) (m : Nat), rest.length ≤ n → rest.length ≤ m → unpGo n rest out last = unpGo m rest out last
  | 0, rest, out, last, m, hn, hm => by
    have : rest = [] := List.length_eq_zero_iff.1 (by omega)
    subst this
    cases m <;> simp [unpGo]
  | n + 1, rest, out, last, 0, hn, hm => by
    have : rest = [] := List.length_eq_zero_iff.1 (by omega)
    subst this
    simp [unpGo]
  | n + 1, rest, out, last, m + 1, hn, hm => by
    rw [unpGo, unpGo]
    by_cases hr : rest = []
    · rw [if_pos hr, if_pos hr]
    · rw [if_neg hr, if_neg hr]
      have := cutF_lt (b := 59) hr
      split
      · rfl
      · split
        · rfl
        · split
          · rfl
          · exact unpGo_more n _ _ _ m (by omega) (by omega)
def unpF (body : List UInt8) : Unp := unpGo body.length body [] (-1)

theorem digit_ne {c : UInt8} (h : digit c) (b : UInt8) (hb : b.toNat < 48 ∨ 57 < b.toNat) : b ≠ c := fun e => by
  subst e; unfold digit at h; omega
theorem no_in_digits (u : Nat) (b : UInt8) (hb : b.toNat < 48 ∨ 57 < b.toNat) : b ∉ Lib.decDigits u := fun h => digit_ne (digits_digit u b h) b hb rfl
theorem runT_run (v k : Nat) : ∃ run : List UInt8, runT v k = run ++ [59] ∧ (59 : UInt8) ∉ run ∧ (35 : UInt8) ∉ run ∧ (1 ≤ k → v < 9223372036854775808 → k < 9223372036854775808 → runV run = some ((v : Int), (k : Int))) := by
  refine ⟨Lib.itoa v ++ (if 1 < k then 120 :: Lib.itoa k else []), by simp [runT], ?_, ?_, fun hk hv hkk => ?_⟩
  · rw [itoa_nat, itoa_nat, List.mem_append, not_or]
    refine ⟨no_in_digits v 59 (by decide), ?_⟩
    split
    · rw [List.mem_cons, not_or]; exact ⟨by decide, no_in_digits k 59 (by decide)⟩
    · simp
  · rw [itoa_nat, itoa_nat, List.mem_append, not_or]
    refine ⟨no_in_digits v 35 (by decide), ?_⟩
    split
    · rw [List.mem_cons, not_or]; exact ⟨by decide, no_in_digits k 35 (by decide)⟩
    · simp
  · rw [itoa_nat, itoa_nat]
    obtain ⟨v1, v2⟩ := num_digits v hv
    obtain ⟨k1, k2⟩ := num_digits k hkk
    unfold runV
    split
    · rename_i h1
      have hc := cutF_at (b := 120) (l := Lib.decDigits v) (r := Lib.decDigits k) (no_in_digits v 120 (by decide))
      simp only [hc, v1, k1, v2, k2]
      rw [if_neg (by simp), if_pos (by simp), if_pos ⟨trivial, by omega⟩]
    · rename_i h1
      have : k = 1 := by omega
      subst this
      have hc := cutF_no (b := 120) (no_in_digits v 120 (by decide))
      simp only [List.append_nil, hc, v1, v2]
      rw [if_neg (by simp), if_neg (by simp)]
      rfl

/-- What is packed is unpacked. -/
theorem unp_pack : ∀ (n : Nat) (l : List Int) (m : Nat) (out : List Int) (last : Int), l.length ≤ n → (packB n l).length ≤ m → out.length + l.length ≤ 4096 → (∀ x ∈ l, 0 ≤ x ∧ x ≤ 9999) → (l ≠ [] → l.getD 0 0 ≠ last) → unpGo m (packB n l) out last = .good (out ++ l)
  | 0, l, m, out, last, hn, hm, _, _, _ => by
    have : l = [] := List.length_eq_zero_iff.1 (by omega)
    subst this
    rw [packB]
    cases m <;> simp [unpGo]
  | n + 1, [], m, out, last, _, _, _, _, _ => by
    rw [packB]
    cases m <;> simp [unpGo]
  | n + 1, v :: r, m, out, last, hn, hm, hl, hx, hlast => by
    have hv := hx v (by simp)
    obtain ⟨u, rfl⟩ : ∃ u : Nat, v = u := ⟨v.toNat, by omega⟩
    have hs := same_le (u : Int) r
    simp only [List.length_cons] at hn hl
    obtain ⟨run, e1, e2, _, e3⟩ := runT_run u (same (u : Int) r + 1)
    have e3 := e3 (by omega) (by omega) (by omega)
    rw [packB, e1] at hm ⊢
    simp only [List.length_append, List.length_cons, List.length_nil] at hm
    obtain ⟨m', rfl⟩ : ∃ m', m = m' + 1 := ⟨m - 1, by omega⟩
    have hne : run ++ [59] ++ packB n (r.drop (same (u : Int) r)) ≠ [] := by simp
    have hcut : cutF 59 (run ++ [59] ++ packB n (r.drop (same (u : Int) r))) = (run, packB n (r.drop (same (u : Int) r)), true) := by
      rw [List.append_assoc, List.singleton_append]
      exact cutF_at e2
    rw [unpGo, if_neg hne, hcut]
    simp only [e3]
    have hl0 := hlast (by simp)
    simp only [List.getD_cons_zero] at hl0
    rw [if_neg (by rintro (h | h); omega; exact hl0 h), if_neg (by omega)]
    have hdl : (r.drop (same (u : Int) r)).length ≤ n := by simp; omega
    rw [unp_pack n (r.drop (same (u : Int) r)) m' _ _ hdl (by omega) (by simp; omega) (fun x hxx => hx x (by simp [List.mem_of_mem_drop hxx])) (fun hne => ?_)]
    · congr 1
      rw [List.append_assoc]
      congr 1
      rw [show (((same (u : Int) r + 1 : Nat) : Int)).toNat = same (u : Int) r + 1 by omega, List.replicate_succ, List.cons_append]
      congr 1
      conv => rhs; rw [← List.take_append_drop (same (u : Int) r) r, same_take]
    · have hlt : same (u : Int) r < r.length := by
        rcases Nat.lt_or_ge (same (u : Int) r) r.length with h | h
        · exact h
        · exact absurd (List.drop_of_length_le h) hne
      have := same_stop (u : Int) r hlt
      simp only [List.getD, List.getElem?_drop, Nat.add_zero] at this ⊢
      exact this
theorem pack_ends : ∀ (n : Nat) (l : List Int), (∀ x ∈ l, 0 ≤ x) → (packB n l = [] ∨ ∃ q, packB n l = q ++ [59]) ∧ (35 : UInt8) ∉ packB n l
  | 0, l, _ => ⟨.inl rfl, by simp [packB]⟩
  | n + 1, [], _ => ⟨.inl rfl, by simp [packB]⟩
  | n + 1, v :: r, hx => by
    have hv := hx v (by simp)
    obtain ⟨u, rfl⟩ : ∃ u : Nat, v = u := ⟨v.toNat, by omega⟩
    obtain ⟨run, e1, _, e2, _⟩ := runT_run u (same (u : Int) r + 1)
    obtain ⟨i1, i2⟩ := pack_ends n (r.drop (same (u : Int) r)) (fun x hxx => hx x (by simp [List.mem_of_mem_drop hxx]))
    rw [packB, e1]
    refine ⟨.inr ?_, ?_⟩
    · rcases i1 with h | ⟨q, h⟩
      · rw [h]; exact ⟨run, by simp⟩
      · rw [h]; exact ⟨run ++ [59] ++ q, by simp⟩
    · simp only [List.mem_append, List.mem_singleton, not_or]
      exact ⟨⟨e2, by decide⟩, i2⟩
theorem packB_more : ∀ (n m : Nat) (l : List Int), l.length ≤ n → l.length ≤ m → packB n l = packB m l
  | 0, m, l, hn, hm => by
    have : l = [] := List.length_eq_zero_iff.1 (by omega)
    subst this
    cases m <;> rfl
  | n + 1, 0, l, hn, hm => by
    have : l = [] := List.length_eq_zero_iff.1 (by omega)
    subst this
    rfl
  | n + 1, m + 1, [], _, _ => rfl
  | n + 1, m + 1, v :: r, hn, hm => by
    simp only [List.length_cons] at hn hm
    rw [packB, packB, packB_more n m (r.drop (same v r)) (by simp; omega) (by simp; omega)]
end Go.Ax.Tb

/-
  Decimal texts of numbers, in plain Lean. No program in sight.
-/
namespace Go.Ax.Bg
open Go.Ax.Tb (digit digit_of digits_digit digits_ne)

/-- What digits spell. -/
def decS (a : Nat) (c : UInt8) : Nat := a * 10 + (c.toNat - 48)
def decV (acc : Nat) (l : List UInt8) : Nat := l.foldl decS acc
theorem decV_nil (acc : Nat) : decV acc [] = acc := rfl
theorem decV_cons (acc : Nat) (c : UInt8) (r : List UInt8) : decV acc (c :: r) = decV (acc * 10 + (c.toNat - 48)) r := by
  unfold decV; rw [List.foldl_cons, decS]
theorem decV_append (l m : List UInt8) (acc : Nat) : decV acc (l ++ m) = decV (decV acc l) m := by
  unfold decV; rw [List.foldl_append]
theorem decV_acc (l : List UInt8) (acc : Nat) : decV acc l = acc * 10 ^ l.length + decV 0 l := by
  induction l generalizing acc with
  | nil => rw [decV_nil, decV_nil]; simp
  | cons c r ih =>
    rw [decV_cons, decV_cons, ih, ih (0 * 10 + _), List.length_cons, Nat.pow_succ]
    generalize c.toNat - 48 = d
    generalize 10 ^ r.length = e
    generalize decV 0 r = v
    rw [Nat.add_mul, Nat.zero_mul, Nat.zero_add, Nat.mul_assoc, Nat.mul_comm 10 e]
    omega
theorem decV_snoc (l : List UInt8) (c : UInt8) (acc : Nat) : decV acc (l ++ [c]) = decV acc l * 10 + (c.toNat - 48) := by rw [decV_append, decV_cons, decV_nil]
theorem decV_digits (u : Nat) : decV 0 (Lib.decDigits u) = u := by
  induction u using Nat.strongRecOn with
  | _ u ih =>
    rw [Lib.decDigits]
    split
    · rename_i h
      have := (digit_of h).2
      rw [decV_cons, decV_nil, this]; omega
    · have := (digit_of (Nat.mod_lt u (show 0 < 10 by decide))).2
      rw [decV_snoc, ih _ (by omega), this]
      omega
theorem decV_lt {l : List UInt8} (h : ∀ c ∈ l, digit c) : decV 0 l < 10 ^ l.length := by
  induction l with
  | nil => rw [decV_nil]; simp
  | cons c r ih =>
    have hc := h c (by simp)
    have i := ih (fun x hx => h x (by simp [hx]))
    unfold digit at hc
    rw [decV_cons, decV_acc, List.length_cons, Nat.pow_succ]
    have : (c.toNat - 48) * 10 ^ r.length ≤ 9 * 10 ^ r.length := Nat.mul_le_mul_right _ (by omega)
    rw [Nat.zero_mul, Nat.zero_add]
    generalize 10 ^ r.length = e at *
    generalize (c.toNat - 48) * e = q at *
    omega
theorem decV_ge {c : UInt8} {r : List UInt8} (h : digit c) (h0 : c ≠ 48) : 10 ^ r.length ≤ decV 0 (c :: r) := by
  unfold digit at h
  have hc : c.toNat ≠ 48 := fun e => h0 (UInt8.toNat_inj.1 e)
  rw [decV_cons, decV_acc]
  have : 1 * 10 ^ r.length ≤ (0 * 10 + (c.toNat - 48)) * 10 ^ r.length := Nat.mul_le_mul_right _ (by omega)
  generalize (0 * 10 + (c.toNat - 48)) * 10 ^ r.length = q at *
  omega
theorem snocInd {α : Type} {p : List α → Prop} (h0 : p []) (h1 : ∀ l x, p l → p (l ++ [x])) : ∀ l, p l := by
  intro l
  have key : ∀ (n : Nat) (l : List α), l.length = n → p l := by
    intro n
    induction n with
    | zero => intro l hl; rw [List.length_eq_zero_iff.1 hl]; exact h0
    | succ n ih =>
      intro l hl
      have hne : l ≠ [] := by intro e; subst e; simp at hl
      rw [← List.dropLast_concat_getLast hne]
      exact h1 _ _ (ih _ (by simp [hl]))
  exact key _ l rfl
/-- A number's text: digits, not empty, and no 0 ahead of others. -/
def Canon (s : List UInt8) : Prop := s ≠ [] ∧ (∀ c ∈ s, digit c) ∧ (s.getD 0 0 ≠ 48 ∨ s.length = 1)
theorem canon_digits (u : Nat) : Canon (Lib.decDigits u) := by
  refine ⟨digits_ne u, digits_digit u, ?_⟩
  induction u using Nat.strongRecOn with
  | _ u ih =>
    rw [Lib.decDigits]
    split
    · exact .inr rfl
    · left
      rename_i h
      have hne := digits_ne (u / 10)
      rcases ih (u / 10) (by omega) with h1 | h1
      · cases hq : Lib.decDigits (u / 10) with
        | nil => exact absurd hq hne
        | cons c r => rw [hq] at h1; simpa using h1
      · have hlt : u / 10 < 10 := by
          have hl := Lib.decDigits_length (u / 10)
          rw [h1] at hl
          have := Lib.lt_pow_nDigits (u / 10)
          rw [← hl] at this
          simpa using this
        rw [Lib.decDigits_one hlt]
        simp only [List.cons_append, List.getD_cons_zero]
        intro e
        have := congrArg UInt8.toNat e
        rw [(digit_of hlt).2] at this
        have : (48 : UInt8).toNat = 48 := rfl
        omega
theorem canon_eq {s : List UInt8} (h : Canon s) : Lib.decDigits (decV 0 s) = s := by
  obtain ⟨h1, h2, h3⟩ := h
  revert h1 h2 h3
  refine snocInd (p := fun s => s ≠ [] → (∀ c ∈ s, digit c) → (s.getD 0 0 ≠ 48 ∨ s.length = 1) → Lib.decDigits (decV 0 s) = s) ?_ ?_ s
  · intro h; exact absurd rfl h
  · intro l c ih _ hd h3
    have hc := hd c (by simp)
    have hcv : UInt8.ofNat (48 + (c.toNat - 48)) = c := by
      unfold digit at hc
      rw [show 48 + (c.toNat - 48) = c.toNat by omega]
      simp
    rw [decV_snoc]
    cases l with
    | nil =>
      rw [decV_nil, List.nil_append, Nat.zero_mul, Nat.zero_add]
      rw [Lib.decDigits, dif_pos (by unfold digit at hc; omega), hcv]
    | cons x r =>
      have hx : x ≠ 48 := by
        rcases h3 with h3 | h3
        · simpa using h3
        · simp at h3
      have hxd := hd x (by simp)
      have hge := decV_ge (r := r) hxd hx
      have hpos : 1 ≤ 10 ^ r.length := Nat.one_le_pow _ _ (by decide)
      have i := ih (by simp) (fun c hc => hd c (by simp at hc ⊢; rcases hc with rfl | hc; exact .inl rfl; exact .inr (.inl hc))) (.inl (by simpa using hx))
      generalize decV 0 (x :: r) = v at *
      unfold digit at hc
      rw [Lib.decDigits, dif_neg (by omega)]
      rw [show (v * 10 + (c.toNat - 48)) / 10 = v by omega, show (v * 10 + (c.toNat - 48)) % 10 = c.toNat - 48 by omega, i, hcv]
theorem decDigits_inj {a b : Nat} (h : Lib.decDigits a = Lib.decDigits b) : a = b := by rw [← decV_digits a, ← decV_digits b, h]
/-- How long a text is. -/
theorem digits_len_le {n k : Nat} (hk : 1 ≤ k) (h : n < 10 ^ k) : (Lib.decDigits n).length ≤ k := by
  have hl := Lib.decDigits_length n
  rcases Nat.lt_or_ge k (Lib.decDigits n).length with hlt | hge
  · exfalso
    have hc := canon_digits n
    have hv := decV_digits n
    cases hq : Lib.decDigits n with
    | nil => exact digits_ne n hq
    | cons c r =>
      rw [hq] at hc hv hlt
      simp only [List.length_cons] at hlt
      have hne : c ≠ 48 := by
        rcases hc.2.2 with h | h
        · simpa using h
        · simp at h; subst h; simp at hlt; omega
      have := decV_ge (r := r) (hc.2.1 c (by simp)) hne
      rw [hv] at this
      have : 10 ^ k ≤ 10 ^ r.length := Nat.pow_le_pow_right (by decide) (by omega)
      omega
  · exact hge
theorem digits_lt (n : Nat) : n < 10 ^ (Lib.decDigits n).length := by
  have := decV_lt (digits_digit n)
  rwa [decV_digits] at this

/-- Nine digits behind the others. -/
def pad (k m : Nat) : List UInt8 := List.replicate (k - (Lib.decDigits m).length) 48 ++ Lib.decDigits m
theorem decV_zeros (k : Nat) (l : List UInt8) : decV 0 (List.replicate k 48 ++ l) = decV 0 l := by
  induction k with
  | zero => rfl
  | succ k ih => rw [List.replicate_succ, List.cons_append, decV_cons]; exact ih
theorem pad_len {k m : Nat} (hk : 1 ≤ k) (h : m < 10 ^ k) : (pad k m).length = k := by
  have := digits_len_le hk h
  unfold pad; simp; omega
theorem pad_digit (k m : Nat) : ∀ c ∈ pad k m, digit c := by
  intro c hc
  unfold pad at hc
  rcases List.mem_append.1 hc with h | h
  · rw [(List.mem_replicate.1 h).2]; exact ⟨by decide, by decide⟩
  · exact digits_digit m c h
theorem digits_split {n k : Nat} (hk : 1 ≤ k) (h : 10 ^ k ≤ n) : Lib.decDigits n = Lib.decDigits (n / 10 ^ k) ++ pad k (n % 10 ^ k) := by
  have hp : 0 < 10 ^ k := Nat.pow_pos (by decide)
  have hm := Nat.mod_lt n hp
  have hd : n / 10 ^ k ≠ 0 := by have := Nat.div_pos h hp; omega
  have hc := canon_digits (n / 10 ^ k)
  have hcan : Canon (Lib.decDigits (n / 10 ^ k) ++ pad k (n % 10 ^ k)) := by
    refine ⟨by simp [hc.1], fun c hcm => ?_, .inl ?_⟩
    · rcases List.mem_append.1 hcm with h | h
      · exact hc.2.1 c h
      · exact pad_digit _ _ c h
    · cases hq : Lib.decDigits (n / 10 ^ k) with
      | nil => exact absurd hq hc.1
      | cons c r =>
        rw [hq] at hc
        simp only [List.cons_append, List.getD_cons_zero]
        rcases hc.2.2 with h | h
        · simpa using h
        · simp only [List.length_cons, Nat.add_eq_right, List.length_eq_zero_iff] at h
          subst h
          intro e
          subst e
          have := decV_digits (n / 10 ^ k)
          rw [hq] at this
          exact hd (this.symm.trans (by decide))
  have hv : decV 0 (Lib.decDigits (n / 10 ^ k) ++ pad k (n % 10 ^ k)) = n := by
    rw [decV_append, decV_digits, decV_acc, pad_len hk hm]
    have : decV 0 (pad k (n % 10 ^ k)) = n % 10 ^ k := by unfold pad; rw [decV_zeros, decV_digits]
    rw [this, Nat.mul_comm]
    exact Nat.div_add_mod n _
  have := canon_eq hcan
  rw [hv] at this
  exact this
end Go.Ax.Bg

/-
  More rules: one rest for several orders; a box that is only read from now on.
-/
namespace Go.Ax
variable [Pins]
open Go.RowKit

section
variable {P : Program} {fn : Func} {c : Ctx} {fr : Fr} {H H0 : AHeap} {k : List It} {M : M}
/-- Whatever order came before: one rest, over what is known then. -/
theorem ax_tail_any {all : Array Oper} {fuel : Nat} {listed : Array Bool} (L : Fr) (h1 : (∀ fr, knows fr L → Ax P fn c (.any all fuel listed k) fr H) → Ax P fn c M fr H0) (h2 : Ax P fn c (.any all fuel listed k) L H) : Ax P fn c M fr H0 :=
  h1 (fun _ hk w a σ S hr => h2 w a σ S (hr.weaken hk))
theorem ax_tail_code {x : Code} (L : Fr) (h1 : (∀ fr, knows fr L → Ax P fn c (.code x k) fr H) → Ax P fn c M fr H0) (h2 : Ax P fn c (.code x k) L H) : Ax P fn c M fr H0 :=
  h1 (fun _ hk w a σ S hr => h2 w a σ S (hr.weaken hk))
end
theorem fzk_know {HF : AHeap} {fr : Fr} : ∀ {L : Fr}, knows fr L → fzk HF fr L
  | [], _ => have _pin := (inferInstance : Pins); trivial
  | (t, v) :: r, h => ⟨⟨v, h.1, .inl rfl⟩, fzk_know h.2⟩
theorem look_it (t : Nat) (v : AV) (L : Fr) : look t ((t, v) :: L) = some v := by
  have _pin := (inferInstance : Pins)
  show (bif Nat.beq t t then some v else _) = _
  rw [Nat.beq_refl]; rfl
theorem know_swap {t : Nat} {p q : AV} {L : Fr} (hp : belowA 0 p = false) : ∀ (M : Fr), knows ((t, p) :: L) M → belowF 0 M = true → knows ((t, q) :: L) M
  | [], _, _ => have _pin := (inferInstance : Pins); trivial
  | (u, v) :: r, h, hb => by
    simp only [belowF, Bool.and_eq_true] at hb
    refine ⟨?_, know_swap hp r h.2 hb.2⟩
    have h1 : (bif Nat.beq u t then some p else look u L) = some v := h.1
    show (bif Nat.beq u t then _ else look u L) = some v
    cases hq : Nat.beq u t with
    | true => rw [hq] at h1; simp at h1; subst h1; rw [hp] at hb; exact absurd hb.1 (by decide)
    | false => rw [hq] at h1; simpa using h1
/-- From now on the only object is only read. -/
theorem ax_fzOne {P : Program} {fn : Func} {c : Ctx} {fr : Fr} {k : List It} {x : Code} {o : AObj} {v : AV} (t : Nat) (L : Fr) (v' : AV) (hn : refless o.c) (hv : belowA 0 v = false) (hv' : v' = v.frz [some o]) (hi : inB [some o] v) (hb' : belowA 0 v' = true) (hk1 : knows fr ((t, v) :: L)) (hk2 : knows ((t, v) :: L) L) (hb : belowF 0 L = true) (hfx : ∀ h, ¬ c.fix h)
    (h : Ax P fn c (.code x k) ((t, v') :: L) []) : Ax P fn c (.code x k) fr [some o] := by
  refine ax_freeze [some o] [none] ((t, v') :: L) (fun _ _ h => h) (refl1 hn) rfl ?_ ⟨⟨v, hk1.1, .inr (.inr ⟨hv', hi⟩)⟩, fzk_know hk1.2⟩ ?_
  · intro h o' ho'
    match h, ho' with
    | 0, ho' => simp at ho'
    | _ + 1, ho' => simp at ho'
  exact ax_cut [] [none] ((t, v') :: L) rfl ⟨look_it _ _ _, know_swap (p := v) hv L hk2 hb⟩ (fun h hh => (hfx h hh).elim) rfl (by simp only [belowF, Bool.and_eq_true]; exact ⟨hb', hb⟩) h
end Go.Ax

/-
  Rules: structs of single values compared.
-/
namespace Go.Ax
variable [Pins]
open Go.RowKit

def sclEq (P : Program) (t : TypeId) (x y : AV) : Option Bool := match P.underlying t, x, y with
  | some (.int _), .int k a, .int k' b => if k = k' then some (decide (a = b)) else none
  | some .string, .str a, .str b => some (decide (a = b))
  | some .bool, .bool a, .bool b => some (a == b)
  | _, _, _ => none
def eqFs (P : Program) (L M : List AV) : List Field → Option Bool
  | [] => some true
  | f :: fs => match eqFs P L M fs, L[f.offset]?, M[f.offset]? with
    | some r, some x, some y => (sclEq P f.type x y).map (· && r)
    | _, _, _ => none
theorem sclEq_run {P : Program} {w w' : World} {S : Nat → Prop} {σ : Nat → Option Blk} {t : TypeId} {x y : AV} {b : Bool} {v v' : Value} (h : sclEq P t x y = some b) (hv : VR w S σ x v) (hv' : VR w S σ y v') (d : Nat) :
    P.plainKey t = true ∧ (Op.equalIn (d + 1) t v v').run P w' = .ok b w' := by
  unfold sclEq at h
  split at h
  · rename_i hu
    split at h
    · rename_i hk
      subst hk
      simp only [Option.some.injEq] at h
      subst h
      cases hv; cases hv'
      refine ⟨by simp [Program.plainKey, hu], ?_⟩
      rw [run_equalIn_int w' d t _ _ _ _ hu]; rfl
    · cases h
  · rename_i hu
    simp only [Option.some.injEq] at h
    subst h
    cases hv; cases hv'
    refine ⟨by simp [Program.plainKey, hu], ?_⟩
    simp only [strV]
    rw [run_equalIn_string w' d t _ _ hu, toList_strB, toList_strB]
    congr 1
    rw [Bool.eq_iff_iff]; simp
  · rename_i hu
    simp only [Option.some.injEq] at h
    subst h
    cases hv; cases hv'
    exact ⟨by simp [Program.plainKey, hu], run_equalIn_bool' w' d t _ _ hu⟩
  · cases h

theorem vr_getA {w : World} {S : Nat → Prop} {σ : Nat → Option Blk} {L : List AV} {vs : Array Value} (hl : vs.size = L.length) (hv : ∀ i, i < L.length → VR w S σ (L.getD i .any) (vs.getD i undef)) {o : Nat} {x : AV} (h : L[o]? = some x) : ∃ v, vs[o]? = some v ∧ VR w S σ x v := by
  have _pin := (inferInstance : Pins)
  have hlt : o < L.length := (List.getElem?_eq_some_iff.1 h).1
  have h3 := hv o hlt
  have e : L.getD o .any = x := by simp [List.getD, h]
  rw [e] at h3
  exact ⟨_, by simp [Array.getD, hl, hlt], h3⟩

theorem run_eqFs {P : Program} {w w' : World} {S : Nat → Prop} {σ : Nat → Option Blk} {L M : List AV} {xs ys : Array Value} {d : Nat} (h1 : xs.size = L.length) (h2 : ∀ i, i < L.length → VR w S σ (L.getD i .any) (xs.getD i undef)) (h3 : ys.size = M.length) (h4 : ∀ i, i < M.length → VR w S σ (M.getD i .any) (ys.getD i undef)) :
    ∀ (fs : List Field) (b : Bool), (fs.all fun f => f.name != "_") = true → eqFs P L M fs = some b → (Op.eqFields (d + 1) xs ys fs).run P w' = .ok b w'
  | [], b, _, h => by simp [eqFs] at h; subst h; simp [Op.eqFields]
  | f :: fs, b, hn, h => by
    simp only [List.all_cons, Bool.and_eq_true] at hn
    have hne : f.name ≠ "_" := by simpa using hn.1
    simp only [eqFs] at h
    split at h
    · rename_i r x y hr hL hM
      have ih := run_eqFs (d := d) (w' := w') h1 h2 h3 h4 fs r hn.2 hr
      obtain ⟨v1, e1, r1⟩ := vr_getA h1 h2 hL
      obtain ⟨v2, e2, r2⟩ := vr_getA h3 h4 hM
      obtain ⟨q, hq, hb⟩ := Option.map_eq_some_iff.1 h
      obtain ⟨hp, hrun⟩ := sclEq_run (w' := w') hq r1 r2 d
      simp only [Op.eqFields, hne, ne_eq, not_false_eq_true, if_true]
      simp only [Sem.run_bind, run_part_plain w' hp e1, Result.andThen_ok, run_part_plain w' hp e2, hrun]
      subst hb
      cases q with
      | false => simp
      | true => simpa using ih
    · cases h

section
variable {P : Program} {fn : Func} {c : Ctx} {fr : Fr} {H : AHeap} {k : List It} {ind : Bool} {d : Option Nat} {ty : TypeId} {pos : String} {after : Array Edge} {g : Option (Nat × Bool)}
theorem q_structeq {x y : Operand} {t t' : TypeId} {fs : Array Field} {L M : List AV} {b : Bool} (hx : ev fr x = some (.agg L)) (hy : ev fr y = some (.agg M)) (ht : P.underlying t = some (.struct fs)) (hp : P.stoodInHeld t = false) (hg : P.eqGuardType P.depth t = false) (hn : (fs.toList.all fun f => f.name != "_") = true)
    (he : eqFs P L M fs.toList = some b) : QOp ind P fn c fr H ⟨d, .binOp .eql t x y t', ty, pos, after, g⟩ (.bool b) := by
  intro w a σ S hr
  have h1 := hr.evAt hx
  have h2 := hr.evAt hy
  generalize hz : a.eval x = z at h1
  generalize hzy : a.eval y = zy at h2
  have hfo : P.fieldsOf t = fs := by simp [Program.fieldsOf, ht]
  cases h1 with
  | agg _ _ xs a1 a2 a3 =>
    cases h2 with
    | agg _ _ ys b1 b2 b3 =>
      refine ⟨_, .bool _ _, fun w' _ => ?_⟩
      have hr := run_eqFs (d := 9998) (w' := w') a1 a2 b1 b2 fs.toList b hn he
      simp only [execOp, hz, hzy, Sem.run_bind, run_eqGuard_agg w' _ _ _ _ _ _ hg, Result.andThen_ok, run_eql_struct, show (10000 : Nat) = 9999 + 1 from rfl, run_equalIn_agg w' 9999 t _ _ (by rw [hfo]; exact ht) hp, hfo, hr]
      rfl
theorem q_structneq {x y : Operand} {t t' : TypeId} {fs : Array Field} {L M : List AV} {b : Bool} (hx : ev fr x = some (.agg L)) (hy : ev fr y = some (.agg M)) (ht : P.underlying t = some (.struct fs)) (hp : P.stoodInHeld t = false) (hg : P.eqGuardType P.depth t = false) (hn : (fs.toList.all fun f => f.name != "_") = true)
    (he : eqFs P L M fs.toList = some b) : QOp ind P fn c fr H ⟨d, .binOp .neq t x y t', ty, pos, after, g⟩ (.bool (!b)) := by
  intro w a σ S hr
  have h1 := hr.evAt hx
  have h2 := hr.evAt hy
  generalize hz : a.eval x = z at h1
  generalize hzy : a.eval y = zy at h2
  have hfo : P.fieldsOf t = fs := by simp [Program.fieldsOf, ht]
  cases h1 with
  | agg _ _ xs a1 a2 a3 =>
    cases h2 with
    | agg _ _ ys b1 b2 b3 =>
      refine ⟨_, .bool _ _, fun w' _ => ?_⟩
      have hr := run_eqFs (d := 9998) (w' := w') a1 a2 b1 b2 fs.toList b hn he
      simp only [execOp, hz, hzy, Sem.run_bind, run_eqGuard_agg w' _ _ _ _ _ _ hg, Result.andThen_ok, run_neq_struct, show (10000 : Nat) = 9999 + 1 from rfl, run_equalIn_agg w' 9999 t _ _ (by rw [hfo]; exact ht) hp, hfo, hr]
      rfl
/-- An error against nil. -/
def nilIf : AV → Option Bool
  | .iface => some false
  | .nilif => some true
  | _ => none
theorem vr_nilIf {w : World} {S : Nat → Prop} {σ : Nat → Option Blk} {v : AV} {z : Value} {b : Bool} (h : VR w S σ v z) (hv : nilIf v = some b) : (b = true ∧ z = .nilIface) ∨ (b = false ∧ ∃ t x, z = .iface t x) := by
  have _pin := (inferInstance : Pins)
  cases h <;> simp [nilIf] at hv <;> subst hv
  · exact .inr ⟨rfl, _, _, rfl⟩
  · exact .inl ⟨rfl, rfl⟩
theorem run_eqIf {P : Program} {t : TypeId} {ms : Array (String × TypeId)} (ht : P.underlying t = some (.interface ms)) {w : World} {z : Value} {b : Bool} (h : (b = true ∧ z = .nilIface) ∨ (b = false ∧ ∃ t x, z = .iface t x)) (d : Nat) : (Op.equalIn (d + 1) t z .nilIface).run P w = .ok b w := by
  have _pin := (inferInstance : Pins)
  rcases h with ⟨rfl, rfl⟩ | ⟨rfl, u, x, rfl⟩
  · simp [Op.equalIn, run_underlying ht]
  · simp [Op.equalIn, run_underlying ht]
theorem run_guardIf {P : Program} {t : TypeId} {x : Operand} {z : Value} {w : World} : (eqGuard .eql t x (.const .nilIface) z .nilIface).run P w = .ok () w ∧ (eqGuard .neq t x (.const .nilIface) z .nilIface).run P w = .ok () w := by
  have _pin := (inferInstance : Pins)
  cases z <;> simp [eqGuard]
theorem q_ifeqnil {x : Operand} {t t' : TypeId} {ms : Array (String × TypeId)} {v : AV} {b : Bool} (ht : P.underlying t = some (.interface ms)) (hx : ev fr x = some v) (hv : nilIf v = some b) : QOp ind P fn c fr H ⟨d, .binOp .eql t x (.const .nilIface) t', ty, pos, after, g⟩ (.bool b) := by
  intro w a σ S hr
  have h1 := hr.evAt hx
  generalize hz : a.eval x = z at h1
  have hn : a.eval (.const .nilIface) = .nilIface := rfl
  refine ⟨_, .bool _ _, fun w' _ => ?_⟩
  have hb : (binOp .eql t z .nilIface).run P w' = .ok (.bool b) w' := by
    have := run_eqIf ht (w := w') (vr_nilIf h1 hv) 9999
    rcases vr_nilIf h1 hv with ⟨rfl, rfl⟩ | ⟨rfl, u, q, rfl⟩
    · simp only [binOp]; simp [Op.equal, Op.maxDepth, this]
    · simp only [binOp]; simp [Op.equal, Op.maxDepth, this]
  simp only [execOp, hz, hn, Sem.run_bind, run_guardIf.1, Result.andThen_ok, hb]
  rfl
theorem q_ifneqnil {x : Operand} {t t' : TypeId} {ms : Array (String × TypeId)} {v : AV} {b : Bool} (ht : P.underlying t = some (.interface ms)) (hx : ev fr x = some v) (hv : nilIf v = some b) : QOp ind P fn c fr H ⟨d, .binOp .neq t x (.const .nilIface) t', ty, pos, after, g⟩ (.bool (!b)) := by
  intro w a σ S hr
  have h1 := hr.evAt hx
  generalize hz : a.eval x = z at h1
  have hn : a.eval (.const .nilIface) = .nilIface := rfl
  refine ⟨_, .bool _ _, fun w' _ => ?_⟩
  have hb : (binOp .neq t z .nilIface).run P w' = .ok (.bool (!b)) w' := by
    have := run_eqIf ht (w := w') (vr_nilIf h1 hv) 9999
    rcases vr_nilIf h1 hv with ⟨rfl, rfl⟩ | ⟨rfl, u, q, rfl⟩
    · simp only [binOp]; simp [Op.equal, Op.maxDepth, this]
    · simp only [binOp]; simp [Op.equal, Op.maxDepth, this]
  simp only [execOp, hz, hn, Sem.run_bind, run_guardIf.2, Result.andThen_ok, hb]
  rfl
end
end Go.Ax

/-
  Rules: words without a sign, as natural numbers.
-/
namespace Go.Ax
variable [Pins]
open Go.RowKit

/-- A kind without sign holds the numbers below M. -/
def UK (k : IntKind) (M : Nat) : Prop := ∀ n : Int, k.wrap n = n % (M : Int)
theorem uk64 : UK .u64 18446744073709551616 := have _pin := (inferInstance : Pins); fun n => IntKind.wrap_u64 n
theorem uk32 : UK .u32 4294967296 := have _pin := (inferInstance : Pins); fun n => IntKind.wrap_u32 n
theorem uk8 : UK .u8 256 := have _pin := (inferInstance : Pins); fun n => IntKind.wrap_u8 n
theorem UK.in {k : IntKind} {M : Nat} (h : UK k M) {m : Nat} (hm : m < M) : k.wrap (m : Int) = (m : Int) := by have _pin := (inferInstance : Pins); rw [h]; exact Int.emod_eq_of_lt (by omega) (by omega)
theorem UK.low {k : IntKind} {M : Nat} (h : UK k M) (m : Nat) : k.wrap (m : Int) = ((m % M : Nat) : Int) := by have _pin := (inferInstance : Pins); rw [h]; simp

section
variable {P : Program} {fn : Func} {c : Ctx} {fr : Fr} {H : AHeap} {k : List It} {ind : Bool} {d : Option Nat} {ty : TypeId} {pos : String} {after : Array Edge} {g : Option (Nat × Bool)}
/-- What it yields, told otherwise. -/
theorem QOp.res {o : Oper} {v v' : AV} (h : QOp ind P fn c fr H o v) (e : v = v') : QOp ind P fn c fr H o v' := e ▸ h
theorem q_uconv {x : Operand} {src dst : TypeId} {kk k' : IntKind} {u : TypeDesc} {m M : Nat} (hs : P.underlying src = some u) (hd : P.underlying dst = some (.int k')) (hx : ev fr x = some (.int kk (m : Nat))) (hk : UK k' M) (hm : m < M) :
    QOp ind P fn c fr H ⟨d, .convert src dst x, ty, pos, after, g⟩ (.int k' (m : Nat)) := (q_conv hs hd hx).res (congrArg (AV.int k') (hk.in hm))
theorem q_ulow {x : Operand} {src dst : TypeId} {kk k' : IntKind} {u : TypeDesc} {m M : Nat} (hs : P.underlying src = some u) (hd : P.underlying dst = some (.int k')) (hx : ev fr x = some (.int kk (m : Nat))) (hk : UK k' M) :
    QOp ind P fn c fr H ⟨d, .convert src dst x, ty, pos, after, g⟩ (.int k' (m % M : Nat)) := (q_conv hs hd hx).res (congrArg (AV.int k') (hk.low m))
theorem q_ushr {x y : Operand} {t t' : TypeId} {k k' : IntKind} {m s : Nat} (hx : ev fr x = some (.int k (m : Nat))) (hy : ev fr y = some (.int k' (s : Nat))) (hb : Nat.ble s k.bits = true) :
    QOp ind P fn c fr H ⟨d, .binOp .shr t x y t', ty, pos, after, g⟩ (.int k (m / 2 ^ s : Nat)) := by
  refine (q_shr hx hy (by omega)).res (congrArg (AV.int k) ?_)
  have hs : s ≤ k.bits := Nat.le_of_ble_eq_true hb
  unfold shrB
  rw [Int.toNat_natCast, Nat.min_eq_left hs, Int.fdiv_eq_ediv_of_nonneg _ (Int.pow_nonneg (by decide))]
  simp
theorem q_ushl {x y : Operand} {t t' : TypeId} {k k' : IntKind} {m s M : Nat} (hx : ev fr x = some (.int k (m : Nat))) (hy : ev fr y = some (.int k' (s : Nat))) (hb : s ≤ k.bits) (hk : UK k M) (hm : m * 2 ^ s < M) :
    QOp ind P fn c fr H ⟨d, .binOp .shl t x y t', ty, pos, after, g⟩ (.int k (m * 2 ^ s : Nat)) := by
  refine (q_shl hx hy (by omega)).res (congrArg (AV.int k) ?_)
  unfold shlB
  rw [Int.toNat_natCast, Nat.min_eq_left hb]
  have : ((m : Int) * 2 ^ s) = ((m * 2 ^ s : Nat) : Int) := by simp
  rw [this]; exact hk.in hm
theorem bvu {k : IntKind} {M : Nat} (hk : UK k M) (hM : M = 2 ^ k.bits) {m : Nat} (hm : m < M) : (BitVec.ofInt k.bits (m : Int)).toNat = m := by
  have _pin := (inferInstance : Pins)
  subst hM
  simp [BitVec.toNat_ofInt, Nat.mod_eq_of_lt hm]
theorem q_uor {x y : Operand} {t t' : TypeId} {k : IntKind} {m n M : Nat} (hx : ev fr x = some (.int k (m : Nat))) (hy : ev fr y = some (.int k (n : Nat))) (hk : UK k M) (hM : M = 2 ^ k.bits) (hm : m < M) (hn : n < M) :
    QOp ind P fn c fr H ⟨d, .binOp .or t x y t', ty, pos, after, g⟩ (.int k (m ||| n : Nat)) := by
  refine (q_or hx hy).res (congrArg (AV.int k) ?_)
  unfold orB
  rw [BitVec.toNat_or, bvu hk hM hm, bvu hk hM hn]
  exact hk.in (by subst hM; exact Nat.or_lt_two_pow hm hn)
theorem q_uand {x y : Operand} {t t' : TypeId} {k : IntKind} {m n M : Nat} (hx : ev fr x = some (.int k (m : Nat))) (hy : ev fr y = some (.int k (n : Nat))) (hk : UK k M) (hM : M = 2 ^ k.bits) (hm : m < M) (hn : n < M) :
    QOp ind P fn c fr H ⟨d, .binOp .and t x y t', ty, pos, after, g⟩ (.int k (m &&& n : Nat)) := by
  refine (q_and hx hy).res (congrArg (AV.int k) ?_)
  unfold andB
  rw [BitVec.toNat_and, bvu hk hM hm, bvu hk hM hn]
  exact hk.in (by subst hM; exact Nat.and_lt_two_pow m hn)
theorem q_uadd {x y : Operand} {t t' : TypeId} {k : IntKind} {m n M : Nat} (hx : ev fr x = some (.int k (m : Nat))) (hy : ev fr y = some (.int k (n : Nat))) (hk : UK k M) (hm : m + n < M) :
    QOp ind P fn c fr H ⟨d, .binOp .add t x y t', ty, pos, after, g⟩ (.int k (m + n : Nat)) := by
  refine (q_arith hx hy rfl).res (congrArg (AV.int k) ?_)
  have : (m : Int) + (n : Int) = ((m + n : Nat) : Int) := by simp
  rw [this]; exact hk.in hm
theorem q_umul {x y : Operand} {t t' : TypeId} {k : IntKind} {m n M : Nat} (hx : ev fr x = some (.int k (m : Nat))) (hy : ev fr y = some (.int k (n : Nat))) (hk : UK k M) (hm : m * n < M) :
    QOp ind P fn c fr H ⟨d, .binOp .mul t x y t', ty, pos, after, g⟩ (.int k (m * n : Nat)) := by
  refine (q_arith hx hy rfl).res (congrArg (AV.int k) ?_)
  have : (m : Int) * (n : Int) = ((m * n : Nat) : Int) := by simp
  rw [this]; exact hk.in hm
theorem q_usub {x y : Operand} {t t' : TypeId} {k : IntKind} {m n M : Nat} (hx : ev fr x = some (.int k (m : Nat))) (hy : ev fr y = some (.int k (n : Nat))) (hk : UK k M) (hm : m < M) (hn : n ≤ m) :
    QOp ind P fn c fr H ⟨d, .binOp .sub t x y t', ty, pos, after, g⟩ (.int k (m - n : Nat)) := by
  refine (q_arith hx hy rfl).res (congrArg (AV.int k) ?_)
  have : (m : Int) - (n : Int) = ((m - n : Nat) : Int) := by omega
  rw [this]; exact hk.in (by omega)
theorem q_urem {x y : Operand} {t t' : TypeId} {k : IntKind} {m n : Nat} (hx : ev fr x = some (.int k (m : Nat))) (hy : ev fr y = some (.int k (n : Nat))) (hn : 0 < n) :
    QOp ind P fn c fr H ⟨d, .binOp .rem t x y t', ty, pos, after, g⟩ (.int k (m % n : Nat)) :=
  (q_rem hx hy ⟨by omega, by omega⟩).res (congrArg (AV.int k) (by simp))
theorem q_uquo {x y : Operand} {t t' : TypeId} {k : IntKind} {m n M : Nat} (hx : ev fr x = some (.int k (m : Nat))) (hy : ev fr y = some (.int k (n : Nat))) (hk : UK k M) (hm : m < M) (hn : 0 < n) :
    QOp ind P fn c fr H ⟨d, .binOp .quo t x y t', ty, pos, after, g⟩ (.int k (m / n : Nat)) := by
  refine (q_quok hx hy (by omega)).res (congrArg (AV.int k) ?_)
  have : (m : Int).tdiv (n : Int) = ((m / n : Nat) : Int) := by simp
  rw [this]; exact hk.in (Nat.lt_of_le_of_lt (Nat.div_le_self _ _) hm)
end
end Go.Ax

/-
  Rules: a string's bytes appended to a row of bytes; texts of rows of bytes.
-/
namespace Go.Ax
variable [Pins]
open Go.RowKit

theorem run_append_str_mk {P : Program} (w : World) (t u ty e : TypeId) (inf : TypeInfo) (ht : P.underlying t = some (.slice e)) (hu : P.underlying u = some .string) (hi : P.info? e = some inf) (hs1 : inf.size = 1) (g n cap : Nat) (cur : Array Value) {mk : Nat × Nat} (hg : w.heap[g]? = some (.cells cur e mk)) (hm : mk.2 ≤ mk.1 ∨ cur.size ≤ mk.1)
    (s : ByteArray) (hroom : n + s.size ≤ cap) (hfit : n + s.size ≤ cur.size) :
    (Builtin.append_ #[t, u] ty #[.slice (some ⟨g, 0, none⟩) n cap, .string s]).run P w =
      .ok (.slice (some ⟨g, 0, none⟩) (n + s.size) cap) (w.setRow g (cur.toList.take n ++ Lib.strCells s ++ cur.toList.drop (n + s.size)).toArray) := by
  have _pin := (inferInstance : Pins)
  have hf := Lib.run_firstCells_string (P := P) w 1 s
  have hst := run_storeCells_mk P g n e mk (Lib.strCells s) 0 cur w hg hm (by simpa [Lib.strCells_length] using hfit) (Lib.strCells_oneCell s)
  simp only [Nat.add_zero, Lib.strCells_length] at hst
  simp [Builtin.append_, run_underlying ht, run_underlying hu, sizeOf, typeInfo, hi, hs1, Builtin.lenOf, hroom, hf, Addr.add_lit, hst]

section
variable {P : Program} {fn : Func} {c : Ctx} {fr : Fr} {H : AHeap} {k : List It}
/-- x = append(x, y...): x an object of one's own. -/
theorem ax_append_str {all : Array Oper} {d : Nat} {t u e : TypeId} {x y : Operand} {ty : TypeId} {pos : String} {after : Array Edge} {rest : List Oper} {inf : TypeInfo} {z : Value} {h n : Nat} {o : AObj} {s : List UInt8} {c' : Cells}
    (ht : P.underlying t = some (.slice e)) (hi : P.info? e = some inf) (hz : inf.zero = some z) (hszz : inf.size = o.c.sz) (hzs : z.cells.size = o.c.sz) (hpos : Nat.blt 0 o.c.sz = true)
    (hx : ev fr x = some (.sl h 0 n)) (hh : H[h]? = some (some o)) (hoty : o.ty = e) (hn : o.c.len = n) (hy : ev fr y = some (.str s)) (hu : P.underlying u = some .string) (hsz1 : o.c.sz = 1) (p1 : c'.sz = o.c.sz) (p3 : c'.len = o.c.len + s.length) (p4 : ∀ i' j, i' < o.c.len → j < o.c.sz → c'.at i' j = o.c.at i' j) (p5 : ∀ d j, d < s.length → j < o.c.sz → c'.at (o.c.len + d) j = .int .u8 ((s.getD d 0).toNat : Nat))
    (hb : (n + s.length) * inf.bytes ≤ 140737488355328 ∧ n + s.length ≤ 9223372036854775807) (hnr : ∀ i j, i < c'.len → j < c'.sz → (c'.at i j).forget h = c'.at i j) (hfix : ¬ c.fix h)
    (hk : Ax P fn c (.ops false all rest k) ((d, .sl h 0 (n + s.length)) :: forgetF h fr) ((forgetH h H).set h (some ⟨e, c'⟩))) : Ax P fn c (.ops false all (⟨some d, .call { callee := .builtin .append, args := #[x, y], argTypes := #[t, u] }, ty, pos, after, none⟩ :: rest) k) fr H := by
  refine ax_w (fun w a σ S hr => ?_) hk
  subst hoty
  have hpos' : 0 < o.c.sz := Nat.le_of_ble_eq_true hpos
  have h1 := hr.evAt hx
  have h2 := hr.evAt hy
  have hexec : ∀ r w', (Builtin.append_ #[t, u] ty #[a.eval x, a.eval y]).run P w = .ok r w' → (execOp a.eval ⟨some d, .call { callee := .builtin .append, args := #[x, y], argTypes := #[t, u] }, ty, pos, after, none⟩).run P w = .ok (.value r) w' := by
    intro r w' h
    simp [execOp, resolve, invoke, builtin, h]
  generalize hzx : a.eval x = vx at h1 hexec
  generalize hzy : a.eval y = vy at h2 hexec
  cases h2
  obtain ⟨m, hm⟩ : ∃ m, s.length = m := ⟨_, rfl⟩
  have hsz : (⟨s.toArray⟩ : ByteArray).size = m := by rw [← hm]; simp [ByteArray.size]
  obtain ⟨news, hnews⟩ : ∃ news, Lib.strCells ⟨s.toArray⟩ = news := ⟨_, rfl⟩
  have q1 : news.length = m * o.c.sz := by rw [hsz1, ← hnews, Lib.strCells_length, hsz, Nat.mul_one]
  have q3 : ∀ u ∈ news, u.oneCell' = true := by rw [← hnews]; exact Lib.strCells_oneCell _
  have q4 : ∀ d j, d < m → j < o.c.sz → ∃ v, news[d * o.c.sz + j]? = some v ∧ VR w S σ (.int .u8 ((s.getD d 0).toNat : Nat)) v := by
    intro d j hd hj
    rw [hsz1] at hj ⊢
    obtain rfl : j = 0 := by omega
    refine ⟨.int .u8 ((s.getD d 0).toNat : Nat), ?_, .int _ _ _⟩
    rw [← hnews]
    simp [Lib.strCells, List.getD, show d < s.length by omega]
  rw [hm] at p3 p5 hb ⊢
  -- what the old cells and the new ones give
  cases h1 with
  | sl _ _ _ _ b s C cap hσ hlen hcap =>
    subst hn
    obtain ⟨hs', cur, g1, g2, g3, g4, g5, g6⟩ := hr.obj hh hσ
    subst hs'
    have hcapC : cap = C := by omega
    subst hcapC
    obtain ⟨mk, g1, hmk, g3⟩ := g1.cells (by omega)
    have holds : ∀ i' j, i' < o.c.len → j < o.c.sz → ∃ u, (cur.toList.take (o.c.len * o.c.sz))[i' * o.c.sz + j]? = some u ∧ VR w S σ (c'.at i' j) u ∧ u.oneCell' = true := by
      intro i' j hi' hj
      obtain ⟨u, e1, e2, e3⟩ := g6 i' j hi' hj
      have hlt : i' * o.c.sz + j < o.c.len * o.c.sz := by
        have : (i' + 1) * o.c.sz ≤ o.c.len * o.c.sz := Nat.mul_le_mul_right _ (by omega)
        rw [Nat.add_mul] at this; omega
      refine ⟨u, ?_, by rw [p4 i' j hi' hj]; exact e2, e3⟩
      rw [List.getElem?_take, if_pos hlt]
      simpa using e1
    have hnle : o.c.len * o.c.sz ≤ cur.size := by rw [g2]; exact Nat.mul_le_mul_right _ hlen
    · by_cases hroom : o.c.len + m ≤ cap
      · have hfit : o.c.len * o.c.sz + news.length ≤ cur.size := by rw [q1, g2, ← Nat.add_mul]; exact Nat.mul_le_mul_right _ hroom
        have hrun := run_append_str_mk (P := P) w t u ty o.ty inf ht hu hi (by rw [hszz, hsz1]) b o.c.len cap cur g1 hmk ⟨s.toArray⟩ (by rw [hsz]; exact hroom) (by rw [hsz]; rw [q1, hsz1] at hfit; omega)
        rw [hsz, hnews, show cur.toList.take o.c.len = cur.toList.take (o.c.len * o.c.sz) by rw [hsz1, Nat.mul_one], show cur.toList.drop (o.c.len + m) = cur.toList.drop (o.c.len * o.c.sz + news.length) by rw [q1, hsz1, Nat.mul_one, Nat.mul_one]] at hrun
        have hL : (cur.toList.take (o.c.len * o.c.sz)).length = o.c.len * o.c.sz := by simp; omega
        refine ⟨_, _, _, S, hexec _ _ (by simpa [strV] using hrun), hr.movedM (w' := w.setRow b (cur.toList.take (o.c.len * o.c.sz) ++ news ++ cur.toList.drop (o.c.len * o.c.sz + news.length)).toArray) (c' := c') (C := cap) hh rfl rfl rfl (by simp) p1 (fun b' _ hb' => setRow_other w b b' _ hb') (setRow_heap w b cur _ _ _ g1) ?_ g3 (by omega) (.inr hσ) (.inr hσ) (fun i' j hi' hj => ?_) hnr ?_, ?_⟩
        · rw [p1, ← g2]; simp; omega
        · rw [p3] at hi'
          rw [p1] at hj ⊢
          by_cases hlo : i' < o.c.len
          · obtain ⟨u, e1, e2, e3⟩ := holds i' j hlo hj
            refine ⟨u, ?_, e2, e3⟩
            have hlt : i' * o.c.sz + j < o.c.len * o.c.sz := by
              have : (i' + 1) * o.c.sz ≤ o.c.len * o.c.sz := Nat.mul_le_mul_right _ (by omega)
              rw [Nat.add_mul] at this; omega
            simp only [List.getElem?_toArray, List.append_assoc]
            rw [List.getElem?_append_left (by omega)]
            exact e1
          · obtain ⟨u, e1, e2⟩ := q4 (i' - o.c.len) j (by omega) hj
            refine ⟨u, ?_, ?_, q3 u (List.mem_of_getElem? e1)⟩
            · have hidx : i' * o.c.sz + j = o.c.len * o.c.sz + ((i' - o.c.len) * o.c.sz + j) := by
                rw [← Nat.add_assoc, ← Nat.add_mul]; congr 2; omega
              have hlt : (i' - o.c.len) * o.c.sz + j < news.length := (List.getElem?_eq_some_iff.1 e1).1
              simp only [List.getElem?_toArray, List.append_assoc]
              rw [hidx, List.getElem?_append_right (by omega), hL, Nat.add_sub_cancel_left, List.getElem?_append_left hlt]
              exact e1
            · have := p5 (i' - o.c.len) j (by omega) hj
              rw [show o.c.len + (i' - o.c.len) = i' by omega] at this
              rw [this]; exact e2
        · have hsz : (cur.toList.take (o.c.len * o.c.sz) ++ news ++ cur.toList.drop (o.c.len * o.c.sz + news.length)).toArray.size = cur.size := by simp; omega
          rw [hsz]; exact hmk
        · have := VR.sl (w := w.setRow b (cur.toList.take (o.c.len * o.c.sz) ++ news ++ cur.toList.drop (o.c.len * o.c.sz + news.length)).toArray) (S := S) (upσ σ h (.at b c'.sz cap)) h 0 (o.c.len + m) b c'.sz cap cap (by simp [upσ]) hroom (by omega)
          simpa using this
      · have hxs : (cur.toList.take (o.c.len * o.c.sz)).length = o.c.len * inf.size := by rw [hszz]; simp; omega
        have hrun := Lib.run_append_grow_string (P := P) w t u ty o.ty inf z ht hu hi hz ⟨b, 0, none⟩ o.c.len cap (cur.toList.take (o.c.len * o.c.sz)) hxs (fun j u hu => ?_) ⟨s.toArray⟩ (by omega) (by omega) (by rw [hsz]; exact growslice_fits (by omega) hb.1)
        rotate_left
        · rw [List.getElem?_take] at hu
          split at hu
          · simp [World.cell?, Addr.add_lit, g1]; simpa using hu
          · cases hu
        rw [hsz, hnews] at hrun
        have hge := grownCap_ge w (o.c.len + m) cap o.ty
        have hle := grownCap_le_maxLen w (o.c.len + m) cap o.ty (by unfold maxLen; omega)
        generalize grownCap w (o.c.len + m) cap o.ty = G at hrun hge hle
        generalize hxx : cur.toList.take (o.c.len * o.c.sz) = xs at hrun holds hxs
        rw [hszz] at hxs
        refine ⟨_, w.drew.alloc (.cells (xs.toArray ++ news.toArray ++ Builtin.zeroCells z.cells (G - (o.c.len + m))) o.ty), _, S, hexec _ _ (by rw [Nat.zero_mul]; exact hrun), Rep.moved (w := w) (c' := c') (C := G) (b := w.heap.size) (cur := xs.toArray ++ news.toArray ++ Builtin.zeroCells z.cells (G - (o.c.len + m))) hr hh rfl rfl rfl (by simp) p1 (fun b' hb' _ => Below.heap_alloc w.drew (.cells (xs.toArray ++ news.toArray ++ Builtin.zeroCells z.cells (G - (o.c.len + m))) o.ty) b' hb') (heap_alloc_new w.drew _) ?_ hle (by omega) (.inl (Nat.le_refl _)) (.inl hfix) (fun i' j hi' hj => ?_) hnr, ?_⟩
        · simp only [Array.size_append, List.size_toArray, size_zeroCells, hxs, q1, hzs, p1, ← Nat.add_mul]
          congr 1; omega
        · rw [p3] at hi'
          rw [p1] at hj ⊢
          by_cases hlo : i' < o.c.len
          · obtain ⟨u, e1, e2, e3⟩ := holds i' j hlo hj
            refine ⟨u, ?_, e2, e3⟩
            have hlt := (List.getElem?_eq_some_iff.1 e1).1
            rw [Array.append_assoc, Array.getElem?_append_left (by simpa using hlt)]
            simpa using e1
          · obtain ⟨u, e1, e2⟩ := q4 (i' - o.c.len) j (by omega) hj
            refine ⟨u, ?_, ?_, q3 u (List.mem_of_getElem? e1)⟩
            · have hidx : i' * o.c.sz + j = o.c.len * o.c.sz + ((i' - o.c.len) * o.c.sz + j) := by
                rw [← Nat.add_assoc, ← Nat.add_mul]; congr 2; omega
              have hlt : (i' - o.c.len) * o.c.sz + j < news.length := (List.getElem?_eq_some_iff.1 e1).1
              rw [Array.append_assoc, hidx, Array.getElem?_append_right (by simp [hxs]), Array.getElem?_append_left (by simp [hxs]; exact hlt)]
              simp [hxs]
              exact e1
            · have := p5 (i' - o.c.len) j (by omega) hj
              rw [show o.c.len + (i' - o.c.len) = i' by omega] at this
              rw [this]; exact e2
        · have := VR.sl (w := w.drew.alloc (.cells (xs.toArray ++ news.toArray ++ Builtin.zeroCells z.cells (G - (o.c.len + m))) o.ty)) (S := S) (upσ σ h (.at w.heap.size c'.sz G)) h 0 (o.c.len + m) w.heap.size c'.sz G G (by simp [upσ]) hge (by omega)
          simpa using this
  | sl0 _ _ hσ =>
    have hl0 : o.c.len = 0 := hn
    · by_cases hm0 : m = 0
      · subst hm0
        have hrun : (Builtin.append_ #[t, u] ty #[.slice none 0 0, .string ⟨s.toArray⟩]).run P w = .ok (.slice none 0 0) w := by
          have hs0 : s = [] := List.length_eq_zero_iff.1 hm
          subst hs0
          simp [Builtin.append_, run_underlying ht, run_underlying hu, sizeOf, typeInfo, hi, Builtin.lenOf, Builtin.firstCells, ByteArray.size]
        refine ⟨_, w, σ, S, hexec _ _ hrun, hr.nowhere hh hσ p1 (by omega), ?_⟩
        exact .sl0 _ _ hσ
      · have hrun := run_append_nil_string (P := P) w t u ty o.ty inf z ht hu hi hz ⟨s.toArray⟩ (by omega) (by omega) (by
          rw [hsz]
          have hb1 := hb.1
          rw [Nat.zero_add] at hb1
          omega)
        rw [hsz, show ((⟨s.toArray⟩ : ByteArray).data.map (fun b => Value.int .u8 b.toNat)) = news.toArray by rw [← hnews]; simp [Lib.strCells]] at hrun
        have hge := grownCap_ge w m 0 o.ty
        have hle := grownCap_le_maxLen w m 0 o.ty (by unfold maxLen; omega)
        generalize grownCap w m 0 o.ty = G at hrun hge hle
        refine ⟨_, w.drew.alloc (.cells (news.toArray ++ Builtin.zeroCells z.cells (G - m)) o.ty), _, S, hexec _ _ hrun, Rep.moved (w := w) (c' := c') (C := G) (b := w.heap.size) (cur := news.toArray ++ Builtin.zeroCells z.cells (G - m)) hr hh rfl rfl rfl (by simp) p1 (fun b' hb' _ => Below.heap_alloc w.drew (.cells (news.toArray ++ Builtin.zeroCells z.cells (G - m)) o.ty) b' hb') (heap_alloc_new w.drew _) ?_ hle (by omega) (.inl (Nat.le_refl _)) (.inl hfix) (fun i' j hi' hj => ?_) hnr, ?_⟩
        · simp only [Array.size_append, List.size_toArray, size_zeroCells, q1, hzs, p1, ← Nat.add_mul]
          congr 1; omega
        · rw [p3] at hi'
          rw [p1] at hj ⊢
          obtain ⟨u, e1, e2⟩ := q4 i' j (by omega) hj
          refine ⟨u, ?_, ?_, q3 u (List.mem_of_getElem? e1)⟩
          · have hlt := (List.getElem?_eq_some_iff.1 e1).1
            rw [Array.getElem?_append_left (by simpa using hlt)]
            simpa using e1
          · have := p5 i' j (by omega) hj
            rw [show o.c.len + i' = i' by omega] at this
            rw [this]; exact e2
        · have := VR.sl (w := w.drew.alloc (.cells (news.toArray ++ Builtin.zeroCells z.cells (G - m)) o.ty)) (S := S) (upσ σ h (.at w.heap.size c'.sz G)) h 0 m w.heap.size c'.sz G G (by simp [upσ]) hge (by omega)
          simpa [hl0] using this
end
end Go.Ax

/-
  Rules: copy; a call that moves one object.
-/
namespace Go.Ax
variable [Pins]
open Go.RowKit

section
variable {P : Program} {fn : Func} {c : Ctx} {fr : Fr} {H : AHeap} {k : List It}
/-- copy(x, y): x a part of an object of one's own. -/
theorem ax_copy {all : Array Oper} {d : Nat} {t tx e : TypeId} {x y : Operand} {ty : TypeId} {pos : String} {after : Array Edge} {rest : List Oper} {inf : TypeInfo} {h i n : Nat} {o : AObj} {v : AV} {cx c' : Cells} {i2 m q : Nat}
    (ht : P.underlying t = some (.slice e)) (hi : P.info? e = some inf) (hszz : inf.size = o.c.sz) (hx : ev fr x = some (.sl h i n)) (hh : H[h]? = some (some o)) (hy : ev fr y = some v) (hs : srcOf H v = some (cx, i2, m))
    (hin0 : i + n ≤ o.c.len) (hn : 0 < n) (hin : i2 + m ≤ cx.len) (hm : 0 < m) (hq : Nat.min m n = q) (p1 : c'.sz = o.c.sz) (p2 : cx.sz = o.c.sz) (p3 : c'.len = o.c.len)
    (p4 : ∀ i' j, i' < o.c.len → j < o.c.sz → c'.at i' j = if i ≤ i' ∧ i' < i + q then cx.at (i2 + (i' - i)) j else o.c.at i' j)
    (hk : Ax P fn c (.ops false all rest k) ((d, .int .i64 (q : Nat)) :: fr) (H.set h (some ⟨o.ty, c'⟩))) (hz : o.c.sz ≠ 0 := by (intro hh; cases hh)) : Ax P fn c (.ops false all (⟨some d, .call { callee := .builtin .copy, args := #[x, y], argTypes := #[t, tx] }, ty, pos, after, none⟩ :: rest) k) fr H := by
  refine ax_w (fun w a σ S hr => ?_) hk
  have h1 := hr.evAt hx
  have h2 := hr.evAt hy
  have hsrc := hr.src h2 hs (fun _ _ => hin)
  have hexec : ∀ r w', (Builtin.copy_ #[t, tx] ty #[a.eval x, a.eval y]).run P w = .ok r w' → (execOp a.eval ⟨some d, .call { callee := .builtin .copy, args := #[x, y], argTypes := #[t, tx] }, ty, pos, after, none⟩).run P w = .ok (.value r) w' := by
    intro r w' h
    simp [execOp, resolve, invoke, builtin, h]
  generalize hzx : a.eval x = vx at h1 hexec
  generalize hzy : a.eval y = vy at h2 hsrc hexec
  unfold Src at hsrc
  rw [p2] at hsrc
  have hq1 : q ≤ m ∧ q ≤ n := by subst hq; exact ⟨Nat.min_le_left _ _, Nat.min_le_right _ _⟩
  cases h1 with
  | sl0 _ _ hσ => omega
  | sl _ _ _ _ b s C cap hσ hlen hcap =>
    obtain ⟨hs', cur, g1, g2, g3, g4, g5, g6⟩ := hr.obj hh hσ
    subst hs'
    obtain ⟨mk, g1, hmk, hrow⟩ := g1.cells hz
    rcases hsrc with ⟨rfl, ax, capx, rfl⟩ | ⟨ad, capx, news, rfl, q1, q2, q3, q4⟩
    · omega
    · have hle : q * o.c.sz ≤ news.length := by rw [q1]; exact Nat.mul_le_mul_right _ hq1.1
      have htl : (news.take (q * o.c.sz)).length = q * o.c.sz := by rw [List.length_take]; omega
      have hfits : i * o.c.sz + q * o.c.sz ≤ cur.size := by
        rw [g2, ← Nat.add_mul]; exact Nat.mul_le_mul_right _ (by omega)
      have hf := run_firstCells_some (P := P) w o.c.sz q ad m capx (news.take (q * o.c.sz)) htl (fun j u hu => by
        rw [List.getElem?_take] at hu
        split at hu
        · exact q2 j u hu
        · cases hu)
      have hst := run_storeCells_mk P b (i * o.c.sz) o.ty mk (news.take (q * o.c.sz)) 0 cur w g1 hmk (by rw [htl]; omega) (fun u hu => q3 u (List.mem_of_mem_take hu))
      simp only [Nat.add_zero, htl] at hst
      have hrun : (Builtin.copy_ #[t, tx] ty #[.slice (some ⟨b, i * o.c.sz, none⟩) n cap, .slice (some ad) m capx]).run P w = .ok (.int .i64 (q : Nat)) (w.setRow b (cur.toList.take (i * o.c.sz) ++ news.take (q * o.c.sz) ++ cur.toList.drop (i * o.c.sz + q * o.c.sz)).toArray) := by
        simp [Builtin.copy_, run_underlying ht, sizeOf, typeInfo, hi, hszz, Builtin.lenOf, hq, hf, hst, goInt]
      have hb0 : (cur.toList.take (i * o.c.sz)).length = i * o.c.sz := by rw [List.length_take]; simp; omega
      refine ⟨_, _, σ, S, hexec _ _ hrun, hr.setRow hh hσ hrow p1 (by omega) ?_ (fun i' j hi' hj => ?_), .int _ _ _⟩
      · rw [← g2]; simp; omega
      · rw [p3] at hi'
        rw [p1] at hj ⊢
        rw [p4 i' j hi' hj]
        split
        · rename_i hr1
          obtain ⟨u, e1, e2⟩ := q4 (i' - i) j (by omega) hj
          refine ⟨u, ?_, e2, q3 u (List.mem_of_getElem? e1)⟩
          have hidx : i' * o.c.sz + j = i * o.c.sz + ((i' - i) * o.c.sz + j) := by
            rw [← Nat.add_assoc, ← Nat.add_mul]; congr 2; omega
          have hlt : (i' - i) * o.c.sz + j < q * o.c.sz := by
            have : (i' - i + 1) * o.c.sz ≤ q * o.c.sz := Nat.mul_le_mul_right _ (by omega)
            rw [Nat.add_mul] at this; omega
          simp only [List.getElem?_toArray, List.append_assoc]
          rw [hidx, List.getElem?_append_right (by omega), hb0, Nat.add_sub_cancel_left, List.getElem?_append_left (by omega), List.getElem?_take, if_pos hlt]
          exact e1
        · rename_i hr1
          obtain ⟨u, e1, e2, e3⟩ := g6 i' j hi' hj
          refine ⟨u, ?_, e2, e3⟩
          simp only [List.getElem?_toArray, List.append_assoc]
          by_cases hlo : i' < i
          · have hlt : i' * o.c.sz + j < i * o.c.sz := by
              have : (i' + 1) * o.c.sz ≤ i * o.c.sz := Nat.mul_le_mul_right _ (by omega)
              rw [Nat.add_mul] at this; omega
            rw [List.getElem?_append_left (by omega), List.getElem?_take, if_pos hlt]
            simpa using e1
          · have hge : i + q ≤ i' := by omega
            have hge2 : i * o.c.sz + q * o.c.sz ≤ i' * o.c.sz + j := by
              have : (i + q) * o.c.sz ≤ i' * o.c.sz := Nat.mul_le_mul_right _ hge
              rw [Nat.add_mul] at this; omega
            rw [List.getElem?_append_right (by omega), hb0, List.getElem?_append_right (by omega), htl, List.getElem?_drop]
            rw [show i * o.c.sz + q * o.c.sz + (i' * o.c.sz + j - i * o.c.sz - q * o.c.sz) = i' * o.c.sz + j by omega]
            simpa using e1

/-- A call that may move one object. -/
theorem Rep.calledM {w w' : World} {a : Act} {σ σ' : Nat → Option Blk} {S S' : Nat → Prop} {n m : Nat} {H' : AHeap} {fix : Nat → Prop} {K : AV → AHeap → Prop} (hr : Rep c w a σ S n fr H) (hall : ∀ h, h < H.length → h ≠ m → fix h) (hcm : ¬ c.fix m) (hhr : HR w' S' σ' H') {hp : PinUp w S σ H} (hlen : H.length ≤ H'.length) (hkp : Kp (mkCtx w S σ H fix K hp) w' S' σ' H') :
    Rep c w' a σ' S' n (forgetF m fr) H' := by
  have hne : ∀ h, h ≠ m → ∀ B, σ h = some B → σ' h = some B := by
    intro h hm B hB
    have hlt : h < H.length := by
      rcases Nat.lt_or_ge h H.length with hl | hl
      · exact hl
      · rw [hr.hr.dom h hl] at hB; cases hB
    rw [hkp.fixed h (hall h hlt hm)]; exact hB
  have hSO : ∀ b, S b → ¬ Owned σ H b := by
    rintro b hs ⟨h, o, s, C, h1, h2⟩
    exact (hr.obj h1 h2).2.choose_spec.2.2.2.2.1 hs
  have hS : ∀ b, S b → w'.heap[b]? = w.heap[b]? := fun b hs => hkp.block b (hr.hr.small b hs) (hSO b hs)
  refine ⟨hhr, ?_, hr.defers, hr.size, fun t v hl => ?_⟩
  · refine ⟨hkp.os.trans hr.kp.os, hkp.output.trans hr.kp.output, hkp.tape.trans hr.kp.tape, Nat.le_trans hr.kp.size hkp.size, fun b hb ho => ?_, fun b hb => hkp.S1 b (hr.kp.S1 b hb), fun b hb => ?_, fun h hf => ?_, fun h hf => Nat.lt_of_lt_of_le (hr.kp.fixlt h hf) hlen, fun h o b s C h1 h2 => ?_⟩
    · rw [← hr.kp.block b hb ho]
      have hs1 := hr.kp.size
      refine hkp.block b (by simp only [mkCtx]; omega) ?_
      rintro ⟨h, o, s, C, h1, h2⟩
      rcases hr.kp.own h o b s C h1 h2 with h3 | h3
      · exact ho h3
      · omega
    · rcases hkp.S2 b hb with h1 | h1 | h1
      · exact hr.kp.S2 b h1
      · obtain ⟨h, o, s, C, g1, g2⟩ := h1
        rcases hr.kp.own h o b s C g1 g2 with g3 | g3
        · exact .inr (.inl g3)
        · exact .inr (.inr g3)
      · right; right; have := hr.kp.size; simp only [mkCtx] at h1; omega
    · have hm : h ≠ m := fun e => hcm (e ▸ hf)
      rw [hkp.fixed h (hall h (hr.kp.fixlt h hf) hm)]
      exact hr.kp.fixed h hf
    · rcases hkp.own h o b s C h1 h2 with ⟨h', o', s', C', g1, g2⟩ | h3
      · exact hr.kp.own h' o' b s' C' g1 g2
      · right; have := hr.kp.size; simp only [mkCtx] at h3; omega
  · rw [look_forgetF] at hl
    cases hq : look t fr with
    | none => simp [hq] at hl
    | some v0 =>
      simp [hq] at hl
      subst hl
      obtain ⟨s1, s2⟩ := hr.slots t v0 hq
      refine ⟨s1, ?_⟩
      have s3 := s2.forget (h := m) (fun h => if h = m then σ' m else σ h) (fun h' hh => by simp [hh])
      exact s3.mono hkp.S1 hS _ (fun h B hB => by
        by_cases hh : h = m
        · subst hh; simpa using hB
        · simp only [hh, if_false] at hB; exact hne h hh B hB)
theorem ax_callm {all : Array Oper} {d : Option Nat} {g : Operand} {args : List Operand} {ats : Array TypeId} {ty : TypeId} {pos : String} {after : Array Edge} {rest : List Oper} {f : FuncId} {caps ags ags' : List AV} {fix : Nat → Prop} {K : AV → AHeap → Prop} (m : Nat)
    (hg : ev fr g = some (.fn f caps)) (ha : evs fr args = some ags) (has : ags ++ caps = ags') (hcall : ACall P f ags' H fix K) (hall : ∀ h, h < H.length → h ≠ m → fix h) (hfl : ∀ h, fix h → h < H.length) (hcm : ¬ c.fix m)
    (hk : ∀ r H', K r H' → H.length ≤ H'.length ∧ Ax P fn c (.ops false all rest k) (match d with | some d => (d, r) :: forgetF m fr | none => forgetF m fr) H') : Ax P fn c (.ops false all (⟨d, .call { callee := .value g, args := args.toArray, argTypes := ats }, ty, pos, after, none⟩ :: rest) k) fr H := by
  intro hd w a σ S hr
  obtain ⟨hd1, hd2⟩ := dsts_cons hd
  obtain ⟨⟨gfn, hgf, hgn, hgb⟩, hc⟩ := hcall
  subst has
  have h1 := hr.evAt hg
  obtain ⟨e1, e2⟩ := evs_spec hr args ags ha
  generalize hz : a.eval g = z at h1
  refine wpList_step (fun K' hK' => ?_)
  simp only [Region.wanted, if_true]
  unfold Oper.wp
  cases h1 with
  | fn _ _ _ vs hl hv =>
    have hrun : (execOp a.eval ⟨d, .call { callee := .value g, args := args.toArray, argTypes := ats }, ty, pos, after, none⟩).run P w = .ok (.enter f ((args.map a.eval).toArray ++ vs)) w := by
      simp only [execOp, resolve, hz, Deferred.ofValue, Sem.run_bind, Sem.run_pure, Result.andThen_ok, invoke, callFunc, List.map_toArray, Array.empty_append, program, Sem.run, hgf]
      simp [hgn, hgb]
    rw [hrun]
    have hargs : VRs w S σ (ags ++ caps) ((args.map a.eval).toArray ++ vs) := by
      refine ⟨by simp [e1, hl], fun i hi => ?_⟩
      simp only [List.length_append] at hi
      by_cases hlt : i < ags.length
      · have := e2 i hlt
        have hlt' : i < args.length := by omega
        have ea : (ags ++ caps).getD i .any = ags.getD i .any := by simp [List.getD, List.getElem?_append, hlt]
        have eb : ((args.map a.eval).toArray ++ vs).getD i undef = (args.map a.eval).getD i undef := by simp [Array.getElem?_append, hlt', List.getD]
        rw [ea, eb]; exact this
      · have := hv (i - ags.length) (by omega)
        have hnl : ¬ i < args.length := by omega
        have ea : (ags ++ caps).getD i .any = caps.getD (i - ags.length) .any := by simp [List.getD, List.getElem?_append, hlt]
        have eb : ((args.map a.eval).toArray ++ vs).getD i undef = vs.getD (i - ags.length) undef := by simp [Array.getElem?_append, e1, hlt]
        rw [ea, eb]; exact this
    refine Calls.mono (hc w σ S _ hr.pinUp hr.hr hfl hargs) ?_
    rintro e w' ⟨v, r, σ', S', H', rfl, g1, g2, g3, g4⟩
    obtain ⟨hlen, hk2⟩ := hk r H' g4
    have hrep := hr.calledM hall hcm g1 hlen g3
    refine hK' _ _ ?_
    cases d with
    | none => exact hk2 hd2 w' _ σ' S' hrep
    | some d => exact hk2 hd2 w' _ σ' S' (hrep.put g2 (hd1 d rfl))
end
end Go.Ax

/-
  Rules: what strings.Builder does with pointers.
-/
namespace Go.Ax
variable [Pins]
open Go.RowKit

theorem liesAt_one {P : Program} {e : TypeId} {s : Nat} (hc : P.cellsOf e = s) (hs : 0 < s) (count : Nat) (hn : 1 ≤ count) : liesAt P P.depth e count 0 e 1 = true := by
  have _pin := (inferInstance : Pins)
  have hd : P.depth = (2 * (P.types.size + Made.depth) + 1) + 1 := rfl
  rw [hd]
  simp only [liesAt, Bool.or_eq_true]
  left
  rw [hd]
  have : ¬ s = 0 := by omega
  simp [rowAt, hc, hn, sameLayout, this]

section
variable {ind : Bool} {P : Program} {fn : Func} {c : Ctx} {fr : Fr} {H : AHeap} {k : List It} {d : Option Nat} {ty : TypeId} {pos : String} {after : Array Edge} {g : Option (Nat × Bool)}

theorem Rep.shape {w : World} {a : Act} {σ : Nat → Option Blk} {S : Nat → Prop} {n : Nat} (hr : Rep c w a σ S n fr H) {h b s C : Nat} {o : AObj} (hh : H[h]? = some (some o)) (hσ : σ h = some (.at b s C)) (hz : o.c.sz ≠ 0) : w.shape? b = some (o.ty, C * o.c.sz) := by
  obtain ⟨hs, cur, g1, g2, _⟩ := hr.obj hh hσ
  obtain ⟨mk, g1, _, _⟩ := g1.cells hz
  unfold World.shape?
  rw [g1]
  show some (o.ty, cur.size) = _
  rw [g2]
/-- *T to unsafe.Pointer. -/
theorem q_tounsafe {x : Operand} {src dst tt : TypeId} {j : TypeInfo} {h : Nat} {o : AObj} (hs : P.underlying src = some (.pointer tt)) (hd : P.underlying dst = some .unsafePointer) (ht : P.info? tt = some j) (hj : Nat.beq j.size 0 = false)
    (hx : ev fr x = some (.ptr h 0 0)) (hh : H[h]? = some (some o)) (hlen : 0 < o.c.len) (hsz : 0 < o.c.sz) : QOp false P fn c fr H ⟨d, .convert src dst x, ty, pos, after, g⟩ (.ptr h 0 0) := by
  intro w a σ S hr
  have h1 := hr.evAt hx
  generalize hz : a.eval x = z at h1
  cases h1 with
  | ptr _ _ _ _ b s C hσ =>
    have hsh := hr.shape hh hσ (by omega)
    obtain ⟨hs', cur, g1, g2, g3, g4, _⟩ := hr.obj hh hσ
    have hpos : 0 < C * o.c.sz := Nat.mul_pos (by omega) hsz
    refine ⟨_, .ptr _ _ _ _ b s C hσ, fun w' hw => ?_⟩
    have hw' : w'.shape? b = some (o.ty, C * o.c.sz) := by
      rcases hw with hw | hw
      · cases hw
      · unfold World.shape?; rw [hw]; exact hsh
    have hrun := Lib.run_to_unsafe (P := P) w' (src := src) (dst := dst) ⟨b, 0 * s + 0, none⟩ hs hd ht (by intro e; rw [e] at hj; cases hj) hw' (by simpa using hpos)
    simp only [execOp, hz, Sem.run_bind, hrun]
    rfl
/-- unsafe.Pointer to *T. -/
theorem q_fromunsafe {x : Operand} {src dst u : TypeId} {j : TypeInfo} {h : Nat} {o : AObj} (hs : P.underlying src = some .unsafePointer) (hd : P.underlying dst = some (.pointer u)) (hu : P.info? u = some j) (hx : ev fr x = some (.ptr h 0 0)) (hh : H[h]? = some (some o)) (hot : o.ty = u) (hce : P.cellsOf u = o.c.sz)
    (hlen : 0 < o.c.len) (hsz : 0 < o.c.sz) : QOp false P fn c fr H ⟨d, .convert src dst x, ty, pos, after, g⟩ (.ptr h 0 0) := by
  intro w a σ S hr
  have h1 := hr.evAt hx
  generalize hz : a.eval x = z at h1
  cases h1 with
  | ptr _ _ _ _ b s C hσ =>
    have hsh := hr.shape hh hσ (by omega)
    obtain ⟨hs', cur, g1, g2, g3, g4, _⟩ := hr.obj hh hσ
    refine ⟨_, .ptr _ _ _ _ b s C hσ, fun w' hw => ?_⟩
    have hw' : w'.shape? b = some (u, C * o.c.sz) := by
      subst hot
      rcases hw with hw | hw
      · cases hw
      · unfold World.shape?; rw [hw]; exact hsh
    have hl := liesAt_one hce hsz (C * o.c.sz / P.cellsOf u) (by rw [hce, Nat.mul_div_cancel _ hsz]; omega)
    have hrun := Lib.run_from_unsafe (P := P) w' (src := src) (dst := dst) ⟨b, 0 * s + 0, none⟩ hs hd hu hw' (by simpa using hl)
    simp only [execOp, hz, Sem.run_bind, hrun]
    rfl
/-- internal/abi.NoEscape -/
theorem q_noescape {gg x : Operand} {ats : Array TypeId} {f : FuncId} {fx : Func} {v : AV} (hg : ev fr gg = some (.fn f [])) (hx : ev fr x = some v) (hf : P.funcs[f]? = some fx) (hname : (fx.name == "runtime.NumGoroutine") = false) (hb : fx.body.isNone = true) (hn : Extern.findNext fx = none) (he : Extern.find fx = some Extern.AbiNoEscape.same) :
    QOp ind P fn c fr H ⟨d, .call { callee := .value gg, args := #[x], argTypes := ats }, ty, pos, after, g⟩ v :=
  q_extern (args := [x]) (ags := [v]) hg (by simp [evs, hx]) hf hname hb hn he (fun w S σ vals hv => by
    obtain ⟨h1, h2⟩ := hv
    have q := h2 0 (by simp)
    have hl : vals.toList.length = 1 := by simpa using h1
    match hq : vals.toList, hl with
    | [y], _ =>
      have e : vals = #[y] := by rw [← Array.toArray_toList (xs := vals), hq]
      subst e
      exact ⟨y, by simpa using q, fun w' => rfl⟩)
/-- A pointer against itself. -/
theorem q_ptrneqself {x y : Operand} {t t' e : TypeId} {j : TypeInfo} {h i jj : Nat} (ht : P.underlying t = some (.pointer e)) (hte : P.info? e = some j) (hx : ev fr x = some (.ptr h i jj)) (hy : ev fr y = some (.ptr h i jj)) : QOp ind P fn c fr H ⟨d, .binOp .neq t x y t', ty, pos, after, g⟩ (.bool false) := by
  intro w a σ S hr
  have h1 := hr.evAt hx
  have h2 := hr.evAt hy
  generalize hz : a.eval x = z at h1
  generalize hzy : a.eval y = zy at h2
  cases h1 with
  | ptr _ _ _ _ b s C hσ =>
    cases h2 with
    | ptr _ _ _ _ b' s' C' hσ' =>
      rw [hσ] at hσ'
      simp only [Option.some.injEq, Blk.at.injEq] at hσ'
      obtain ⟨rfl, rfl, rfl⟩ := hσ'
      refine ⟨_, .bool _ _, fun w' _ => ?_⟩
      simp only [execOp, hz, hzy, Sem.run_bind, run_eqGuard_ptr, Result.andThen_ok, Lib.run_neq_ptr_same w' _ ht hte]
      rfl
/-- unsafe.SliceData of a row of one's own that is not empty. -/
theorem q_slicedata {x : Operand} {ats : Array TypeId} {h n : Nat} (hx : ev fr x = some (.sl h 0 n)) (hn : 0 < n) : QOp ind P fn c fr H ⟨d, .call { callee := .builtin .unsafeSliceData, args := #[x], argTypes := ats }, ty, pos, after, g⟩ (.ptr h 0 0) := by
  intro w a σ S hr
  have h1 := hr.evAt hx
  generalize hz : a.eval x = z at h1
  cases h1 with
  | sl0 => omega
  | sl _ _ _ _ b s C cap hσ hlen hcap =>
    have e : (0 * s : Nat) = 0 * s + 0 := rfl
    refine ⟨_, .ptr _ _ _ _ b s C hσ, fun w' _ => ?_⟩
    have hrun := Lib.run_unsafeSliceData_row (P := P) w' ats ty ⟨b, 0 * s, none⟩ n cap (by omega)
    simp [execOp, resolve, invoke, builtin, hz]
    rw [show (⟨b, 0, none⟩ : Addr) = ⟨b, 0 * s, none⟩ by simp]
    simp only [hrun]
    rfl
/-- .. of nil. -/
theorem q_slicedata_nil {x : Operand} {ats : Array TypeId} (hx : ev fr x = some .nil) : QOp ind P fn c fr H ⟨d, .call { callee := .builtin .unsafeSliceData, args := #[x], argTypes := ats }, ty, pos, after, g⟩ .nilp := by
  intro w a σ S hr
  have h1 := hr.evAt hx
  generalize hz : a.eval x = z at h1
  cases h1
  refine ⟨_, .nilp _, fun w' _ => ?_⟩
  have hrun := Lib.run_unsafeSliceData_nil (P := P) w' ats ty 0 0
  simp [execOp, resolve, invoke, builtin, hz]
  simp only [hrun]
  rfl
/-- unsafe.String of nothing. -/
theorem q_ustr_nil {x y : Operand} {ats : Array TypeId} (hx : ev fr x = some .nilp) (hy : ev fr y = some (.int .i64 0)) (hat : ats.size = 2) : QOp ind P fn c fr H ⟨d, .call { callee := .builtin .unsafeString, args := #[x, y], argTypes := ats }, ty, pos, after, g⟩ (.str []) := by
  intro w a σ S hr
  have h1 := hr.evAt hx
  have h2 := hr.evAt hy
  generalize hz : a.eval x = z at h1
  generalize hzy : a.eval y = zy at h2
  cases h1
  cases h2
  refine ⟨_, .str _ [], fun w' _ => ?_⟩
  obtain ⟨l⟩ := ats
  match l, hat with
  | [t1, t2], _ =>
    have hrun := Lib.run_unsafeString_none (P := P) w' t1 t2 ty
    simp [execOp, resolve, invoke, builtin, hz, hzy]
    simp only [hrun]
    rfl
/-- unsafe.String of a row of bytes: from now on nobody writes it. -/
theorem ax_ustr {all : Array Oper} {d : Nat} {x y : Operand} {pt it e : TypeId} {rest : List Oper} {h : Nat} {l : List UInt8} {o : AObj} (hp : P.underlying pt = some (.pointer e)) (hc : P.cellsOf e = 1) (hx : ev fr x = some (.ptr h 0 0)) (hy : ev fr y = some (.int .i64 (l.length : Nat)))
    (hh : H[h]? = some (some o)) (hot : o.ty = e) (hsz : o.c.sz = 1) (hlen : o.c.len = l.length) (hat : ∀ i, i < l.length → o.c.at i 0 = .int .u8 ((l.getD i 0).toNat : Nat)) (h0 : l ≠ []) (hl : l.length ≤ 9223372036854775807)
    (hk : Ax P fn c (.ops false all rest k) ((d, .str l) :: fr) (H.set h none)) : Ax P fn c (.ops false all (⟨some d, .call { callee := .builtin .unsafeString, args := #[x, y], argTypes := #[pt, it] }, ty, pos, after, none⟩ :: rest) k) fr H := by
  refine ax_w (fun w a σ S hr => ?_) hk
  have h1 := hr.evAt hx
  have h2 := hr.evAt hy
  generalize hz : a.eval x = z at h1
  generalize hzy : a.eval y = zy at h2
  cases h2
  cases h1 with
  | ptr _ _ _ _ b s C hσ =>
    have hsh := hr.shape hh hσ (by omega)
    obtain ⟨hs', cur, g1, g2, g3, g4, g5, g6⟩ := hr.obj hh hσ
    obtain ⟨mk, g1, hmk, hrow⟩ := g1.cells (by omega)
    rw [hsz, Nat.mul_one, hot] at hsh
    have hcell : ∀ j q, l[j]? = some q → w.cell? ((⟨b, 0, none⟩ : Addr).add j) = some (.int .u8 q.toNat) := by
      intro j q hq
      have hj : j < l.length := (List.getElem?_eq_some_iff.1 hq).1
      obtain ⟨v, e1, e2, e3⟩ := g6 j 0 (by omega) (by omega)
      rw [hat j hj] at e2
      rw [hsz, Nat.mul_one, Nat.add_zero] at e1
      cases e2
      have : l.getD j 0 = q := by simp [List.getD, hq]
      rw [this] at e1
      simp [World.cell?, Addr.add_lit, g1, e1]
    have hrun := Lib.run_unsafeString_row (P := P) w pt it ty e hp hc b C hsh l h0 (by omega) hl hcell
    have hexec : (execOp a.eval ⟨some d, .call { callee := .builtin .unsafeString, args := #[x, y], argTypes := #[pt, it] }, ty, pos, after, none⟩).run P w = .ok (.value (.string ⟨l.toArray⟩)) (w.freeze ⟨b, 0, none⟩ l.length) := by
      simp [execOp, resolve, invoke, builtin, hz, hzy]
      simp only [hrun]
      rfl
    have hfz : ∀ b', b' ≠ b → (w.freeze ⟨b, 0, none⟩ l.length).heap[b']? = w.heap[b']? := by
      intro b' hb
      unfold World.freeze
      split
      · rfl
      · simp [Array.getElem?_modify, Ne.symm hb]
    have hsize : (w.freeze ⟨b, 0, none⟩ l.length).heap.size = w.heap.size := by
      unfold World.freeze
      split
      · rfl
      · simp
    have hrest : (w.freeze ⟨b, 0, none⟩ l.length).os = w.os ∧ (w.freeze ⟨b, 0, none⟩ l.length).output = w.output ∧ (w.freeze ⟨b, 0, none⟩ l.length).tape = w.tape := by
      unfold World.freeze
      split <;> exact ⟨rfl, rfl, rfl⟩
    have hown := hr.kp.own h o b s C hh hσ
    have hv : ∀ {σ' : Nat → Option Blk} {x v}, VR w S σ' x v → VR (w.freeze ⟨b, 0, none⟩ l.length) S σ' x v := fun q => q.mono (fun _ h => h) (fun b' hb => hfz b' (fun e => g5 (e ▸ hb))) _ (fun _ _ h => h)
    have hget : ∀ {h' : Nat} {o' : AObj}, (H.set h none)[h']? = some (some o') → h' ≠ h ∧ H[h']? = some (some o') := by
      intro h' o' ho
      have hlt : h < H.length := (List.getElem?_eq_some_iff.1 hh).1
      by_cases he : h' = h
      · subst he
        rw [List.getElem?_set_self hlt] at ho
        simp at ho
      · rw [List.getElem?_set_ne (Ne.symm he)] at ho
        exact ⟨he, ho⟩
    refine ⟨_, _, σ, S, hexec, ⟨⟨fun h' o' ho => ?_, fun h1 h2 o1 o2 b1 s1 C1 s2 C2 q1 q2 => hr.hr.dist h1 h2 o1 o2 b1 s1 C1 s2 C2 (hget q1).2 (hget q2).2, fun b' hb => by rw [hsize]; exact hr.hr.small b' hb, fun h' hl' => hr.hr.dom h' (by simpa using hl')⟩,
      ⟨hrest.1.trans hr.kp.os, hrest.2.1.trans hr.kp.output, hrest.2.2.trans hr.kp.tape, by rw [hsize]; exact hr.kp.size, fun b' hb ho => ?_, hr.kp.S1, hr.kp.S2, hr.kp.fixed, fun h' hf => by simpa using hr.kp.fixlt h' hf, fun h' o' b' s' C' ho => hr.kp.own h' o' b' s' C' (hget ho).2⟩, hr.defers, hr.size, fun t v hl' => ⟨(hr.slots t v hl').1, hv (hr.slots t v hl').2⟩⟩, .str _ l⟩
    · obtain ⟨hne, ho'⟩ := hget ho
      rcases hr.hr.live h' o' ho' with hn | ⟨b', C', cu, k1, k2, k3, k4, k5, k6, k7⟩
      · exact .inl hn
      · have hbb : b' ≠ b := fun e => hne (hr.hr.dist h' h o' o b' _ C' s C ho' hh k1 (by rw [hσ, e]))
        refine .inr ⟨b', C', cu, k1, k2.mono (hfz b' hbb) hv, k3, k4, k5, k6, fun i j hi hj => ?_⟩
        obtain ⟨v, e1, e2, e3⟩ := k7 i j hi hj
        exact ⟨v, e1, hv e2, e3⟩
    · have hbb : b' ≠ b := by
        rintro rfl
        rcases hown with h | h
        · exact ho h
        · omega
      rw [hfz b' hbb]
      exact hr.kp.block b' hb ho
end
end Go.Ax

/-
  Rules: an object of one's own is only read from now on; loaded numbers told as naturals.
-/
namespace Go.Ax
variable [Pins]
open Go.RowKit

section
variable {P : Program} {fn : Func} {c : Ctx} {fr : Fr} {H : AHeap} {k : List It}
theorem give_sub {h : Nat} {o : AObj} (hh : H[h]? = some (some o)) : subH (List.replicate h none ++ [some o]) H := by
  have _pin := (inferInstance : Pins)
  intro h' o' ho
  rcases Nat.lt_trichotomy h' h with q | q | q
  · rw [List.getElem?_append_left (by simpa using q)] at ho
    simp [List.getElem?_replicate, q] at ho
  · subst q
    rw [List.getElem?_append_right (by simp)] at ho
    simp at ho; subst ho; exact hh
  · rw [List.getElem?_eq_none (by simp; omega)] at ho; cases ho
theorem give_refl {h : Nat} {o : AObj} (hrl : refless o.c) : ∀ (h' : Nat) (o' : AObj), (List.replicate h none ++ [some o] : AHeap)[h']? = some (some o') → refless o'.c := by
  have _pin := (inferInstance : Pins)
  intro h' o' ho
  have hm := List.mem_of_getElem? ho
  rcases List.mem_append.1 hm with q | q
  · have := (List.mem_replicate.1 q).2; cases this
  · simp at q; subst q; exact hrl
theorem give_at {h : Nat} {o : AObj} : (List.replicate h none ++ [some o] : AHeap)[h]? = some (some o) := by
  have _pin := (inferInstance : Pins)
  rw [List.getElem?_append_right (by simp)]; simp
theorem Rep.give {w : World} {a : Act} {σ : Nat → Option Blk} {S : Nat → Prop} {N : Nat} (hr : Rep c w a σ S N fr H) (h t n : Nat) {o : AObj} (L : Fr) (hh : H[h]? = some (some o)) (hrl : refless o.c) (hl : look t fr = some (.sl h 0 n)) (hn : n ≤ o.c.len) (hL : knows fr L) :
    ∃ S', Rep c w a σ S' N ((t, .ro o.c 0 n) :: L) (H.set h none) := by
  have hlt : h < H.length := (List.getElem?_eq_some_iff.1 hh).1
  refine hr.freeze (List.replicate h none ++ [some o]) (H.set h none) (give_sub hh) (give_refl hrl) (by simp) ?_ ⟨⟨_, hl, .inr (.inr ⟨?_, ?_⟩)⟩, fzk_know hL⟩
  · intro h' o' ho
    have hne : h' ≠ h := by
      rintro rfl
      rw [List.getElem?_set_self hlt] at ho; cases ho
    rw [List.getElem?_set_ne (Ne.symm hne)] at ho
    refine ⟨fun o2 h2 => ?_, o', ho, rfl, rfl, rfl, fun i j _ _ => .inl rfl⟩
    rcases Nat.lt_or_ge h' h with q | q
    · rw [List.getElem?_append_left (by simpa using q)] at h2
      simp [List.getElem?_replicate, q] at h2
    · rw [List.getElem?_eq_none (by simp; omega)] at h2; cases h2
  · simp only [AV.frz, give_at]
  · intro o2 h2
    rw [give_at] at h2
    cases h2
    omega
/-- A row of one's own is only read from now on. -/
theorem ax_give {all : Array Oper} {rest : List Oper} (h t n : Nat) {o : AObj} (L : Fr) (hh : H[h]? = some (some o)) (hrl : refless o.c) (hl : look t fr = some (.sl h 0 n)) (hn : n ≤ o.c.len) (hL : knows fr L)
    (hk : Ax P fn c (.ops false all rest k) ((t, .ro o.c 0 n) :: L) (H.set h none)) : Ax P fn c (.ops false all rest k) fr H := by
  intro hd w a σ S hr
  obtain ⟨S', hr'⟩ := hr.give h t n L hh hrl hl hn hL
  exact hk hd w a σ S' hr'
theorem ax_give_code {x : Code} (h t n : Nat) {o : AObj} (L : Fr) (hh : H[h]? = some (some o)) (hrl : refless o.c) (hl : look t fr = some (.sl h 0 n)) (hn : n ≤ o.c.len) (hL : knows fr L)
    (hk : Ax P fn c (.code x k) ((t, .ro o.c 0 n) :: L) (H.set h none)) : Ax P fn c (.code x k) fr H := by
  intro w a σ S hr
  obtain ⟨S', hr'⟩ := hr.give h t n L hh hrl hl hn hL
  exact hk w a σ S' hr'
theorem ax_heap_eq_ops {q : Bool} {all : Array Oper} {rest : List Oper} (H' : AHeap) (he : H = H') (hk : Ax P fn c (.ops q all rest k) fr H') : Ax P fn c (.ops q all rest k) fr H := by
  subst he; exact hk
variable {ind : Bool} {d : Option Nat} {ty : TypeId} {pos : String} {after : Array Edge} {g : Option (Nat × Bool)}
theorem run_eqGuard_bool {op : BinOp} {t : TypeId} {x y : Operand} {a b : Bool} {w : World} : (eqGuard op t x y (.bool a) (.bool b)).run P w = .ok () w := by
  have _pin := (inferInstance : Pins)
  unfold eqGuard
  split <;> rfl
theorem q_boolneq {x y : Operand} {t t' : TypeId} {a b : Bool} (ht : P.underlying t = some .bool) (hx : ev fr x = some (.bool a)) (hy : ev fr y = some (.bool b)) : QOp ind P fn c fr H ⟨d, .binOp .neq t x y t', ty, pos, after, g⟩ (.bool (!(a == b))) := by
  intro w ac σ S hr
  refine ⟨_, .bool _ _, fun w' _ => ?_⟩
  have h1 := hr.evBool hx
  have h2 := hr.evBool hy
  have h3 := run_neq_bool (P := P) w' t a b ht
  simp [execOp, h1, h2, run_eqGuard_bool, h3]
  try (cases a <;> cases b <;> rfl)
theorem q_booleq {x y : Operand} {t t' : TypeId} {a b : Bool} (ht : P.underlying t = some .bool) (hx : ev fr x = some (.bool a)) (hy : ev fr y = some (.bool b)) : QOp ind P fn c fr H ⟨d, .binOp .eql t x y t', ty, pos, after, g⟩ (.bool (a == b)) := by
  intro w ac σ S hr
  refine ⟨_, .bool _ _, fun w' _ => ?_⟩
  have h1 := hr.evBool hx
  have h2 := hr.evBool hy
  have h3 := run_eql_bool (P := P) w' t a b ht
  simp [execOp, h1, h2, run_eqGuard_bool, h3]
/-- Bits pushed out on the left are lost. -/
theorem q_ushlw {x y : Operand} {t t' : TypeId} {kk k' : IntKind} {m s M : Nat} (hx : ev fr x = some (.int kk (m : Nat))) (hy : ev fr y = some (.int k' (s : Nat))) (hb : s ≤ kk.bits) (hk : UK kk M) :
    QOp ind P fn c fr H ⟨d, .binOp .shl t x y t', ty, pos, after, g⟩ (.int kk (m * 2 ^ s % M : Nat)) := by
  refine (q_shl hx hy (by omega)).res (congrArg (AV.int kk) ?_)
  unfold shlB
  rw [Int.toNat_natCast, Nat.min_eq_left hb]
  have : ((m : Int) * 2 ^ s) = ((m * 2 ^ s : Nat) : Int) := by simp
  rw [this]; exact hk.low _
end
end Go.Ax

/-
  Numbers of any size as abstract values: limbs that are only read.
-/
namespace Go.Ax
open Go.Ax.Bg
variable [Pins]
def limA (l : List Int) : AV := .ro (.ints .u32 l) 0 l.length
def natA (n : Nat) : AV := .ro (.ints .u32 (natL n)) 0 (natL n).length
theorem natA_eq (n : Nat) : natA n = limA (natL n) := have _pin := (inferInstance : Pins); rfl
/-- Limbs cut at their true length are the number's. -/
theorem AEq.lim {l : List Int} {k n : Nat} (h : l.take k = natL n) (hk : k ≤ l.length) : AEq (.ro (.ints .u32 l) 0 k) (natA n) := by
  have hl : (natL n).length = k := by rw [← h, List.length_take, Nat.min_eq_left hk]
  refine AEq.trans AEq.take ?_
  rw [h]
  unfold natA
  rw [hl]
  exact AEq.rfl'
theorem AEq.natNil : AEq .nil (natA 0) := by
  have : natA 0 = .ro (.ints .u32 []) 0 0 := by unfold natA; rw [natL_zero]; rfl
  rw [this]
  exact AEq.nil
theorem natL_pos_len {n : Nat} : 0 < (natL n).length ↔ n ≠ 0 := by
  have _pin := (inferInstance : Pins)
  constructor
  · rintro h rfl; rw [natL_zero] at h; simp at h
  · intro h; rcases Nat.eq_zero_or_pos (natL n).length with q | q
    · exact absurd (natL_nil.1 (List.length_eq_zero_iff.1 q)) h
    · exact q
end Go.Ax

namespace Go.Proofs.YtbeegiiiochblaaGreatDoor
open Go.Ax Go.Ax.Bg Go.RowKit
attribute [local irreducible] Ax Post QOp ACall
set_option maxRecDepth 100000
set_option maxHeartbeats 4000000

theorem norm_raw (l : List Int) (hl : Lim l) (hlen : l.length ≤ 1000000000) : VCall Tryz.prog 73 [.ro (.ints .u32 l) 0 l.length] (.ro (.ints .u32 l) 0 (natL (valL l)).length) := by
  refine ACall.value0 (acall_of_ax (P := Tryz.prog) (fn := Tryz.f73) rfl rfl (by kernel_rfl) rfl (fun c hR hfix => ?_)) (fix := fun _ => False) (fun _ h => h) rfl rfl
  repeat (first
    | refine ax_q (q_assign rfl) ?_
    | refine ax_ops_nil ?_
    | refine ax_post_code ?_
    | refine ax_seq ?_
    | refine ax_region rfl ?_
    | refine ax_block ?_)
  refine ax_loop (ι := Nat) (fun k => [(0, .ro (.ints .u32 l) 0 k)]) (fun _ => []) (fun k => k ≤ l.length ∧ ∀ i, k ≤ i → i < l.length → l.getD i 0 = 0) (fun k => k) l.length ⟨⟨rfl, trivial⟩, rfl, Nat.le_refl _, fun i h1 h2 => by omega⟩ ?_
  rintro k ⟨hk, hz⟩
  have fin : (k = 0 ∨ l.getD (k - 1) 0 ≠ 0) → (natL (valL l)).length = k := fun h => by
    rw [← norm_take hl hk hz h, List.length_take, Nat.min_eq_left hk]
  repeat (first
    | refine ax_q (q_move rfl) ?_
    | refine ax_seq ?_
    | refine ax_region rfl ?_
    | refine ax_q (q_gtr rfl rfl) ?_
    | refine ax_q (q_len rfl rfl rfl) ?_)
  refine ax_gsplit rfl rfl (fun h0 => ?_) (fun h0 => ?_)
  · have hk1 : 0 < k := by omega
    have e1 : ((k : Int) - 1).toNat = k - 1 := by omega
    repeat (first
      | refine ax_q (q_move rfl) ?_
      | refine ax_q (q_loadi_rp rfl rfl rfl) ?_
      | refine ax_ops_nil ?_
      | refine ax_post_code ?_
      | refine ax_guard rfl rfl ?_
      | refine ax_q (q_eql rfl rfl) ?_
      | refine ax_q (q_pick rfl rfl) ?_
      | refine ax_q (q_len rfl rfl rfl) ?_
      | refine ax_q (q_sub rfl rfl (by omega)) ?_
      | refine ax_q (q_index_ro' rfl rfl rfl rfl (by first | (simp only [Nat.zero_add, Int.toNat_natCast, Int.toNat_zero]; exact rfl) | exact rfl) (by omega)) ?_)
    refine ax_cond_dec rfl (fun h1 => ?_) (fun h1 => ?_)
    · rw [e1] at h1
      repeat (first
        | refine ax_q (q_move rfl) ?_
        | refine ax_q (q_assign rfl) ?_
        | refine ax_ops_nil ?_
        | refine ax_post_code ?_
        | refine ax_region rfl ?_
        | refine ax_post_blk ?_
        | refine ax_block ?_
        | refine ax_skip ?_
        | refine ax_q (q_len rfl rfl rfl) ?_
        | refine ax_q (q_sub rfl rfl (by omega)) ?_
        | refine ax_q (q_slice_ro rfl rfl rfl rfl rfl rfl rfl (by omega)) ?_)
      refine ax_post_inv ⟨k - 1, ⟨by omega, fun i h2 h3 => ?_⟩, by omega, ⟨?_, trivial⟩, rfl⟩
      · by_cases h4 : i = k - 1
        · subst h4; exact h1
        · exact hz i (by omega) h3
      · show some (AV.ro (.ints .u32 l) (0 + 0) _) = _
        congr 2
        omega
    · rw [e1] at h1
      repeat (first
        | refine ax_q (q_move rfl) ?_
        | refine ax_q (q_assign rfl) ?_
        | refine ax_ops_nil ?_
        | refine ax_post_code ?_
        | refine ax_seq ?_
        | refine ax_region rfl ?_
        | refine ax_exit ?_
        | refine ax_exit_here ?_
        | refine ax_exit_code ?_
        | refine ax_exit_inv ?_
        | refine ax_return ?_)
      exact ax_ret hR rfl (by rw [fin (.inr h1)]; rfl)
  · repeat (first
      | refine ax_q (q_move rfl) ?_
      | refine ax_q (q_assign rfl) ?_
      | refine ax_ops_nil ?_
      | refine ax_post_code ?_
      | refine ax_seq ?_
      | refine ax_region rfl ?_
      | refine ax_skip_not rfl rfl rfl ?_
      | refine ax_cond_false rfl ?_
      | refine ax_exit ?_
      | refine ax_exit_here ?_
      | refine ax_exit_code ?_
      | refine ax_exit_inv ?_
      | refine ax_return ?_
      | refine ax_q (q_pick rfl rfl) ?_)
    exact ax_ret hR rfl (by rw [fin (.inl (by omega))]; rfl)
theorem norm_ok (l : List Int) (hl : Lim l) (hlen : l.length ≤ 1000000000) : VCall Tryz.prog 73 [limA l] (natA (valL l)) := by
  refine VCall.res (norm_raw l hl hlen) ?_
  exact AEq.lim (take_true hl) (natL_len_le (valL_lt hl))
end Go.Proofs.YtbeegiiiochblaaGreatDoor

namespace Go.Proofs.YtbeegiiiochblaaGreatDoor
open Go.Ax Go.Ax.Bg Go.RowKit
attribute [local irreducible] Ax Post QOp ACall
set_option maxRecDepth 100000
set_option maxHeartbeats 4000000

theorem small_ok (m : Nat) (hm : m < 18446744073709551616) : VCall Tryz.prog 79 [.int .u64 (m : Nat)] (natA m) := by
  have hc := norm_ok [((m % 4294967296 : Nat) : Int), ((m / 2 ^ 32 % 4294967296 : Nat) : Int)] (by
    rw [Lim.cons]; exact ⟨mod_lim m, Lim.one (mod_lim _)⟩) (by simp)
  have hv : valL [((m % 4294967296 : Nat) : Int), ((m / 2 ^ 32 % 4294967296 : Nat) : Int)] = m := by
    simp only [valL, Int.toNat_natCast]
    unfold B
    omega
  rw [hv] at hc
  refine ACall.value0 (acall_of_ax (P := Tryz.prog) (fn := Tryz.f79) rfl rfl (by kernel_rfl) rfl (fun c hR hfix => ?_)) (fix := fun _ => False) (fun _ h => h) rfl rfl
  repeat (first
    | refine ax_q (q_move rfl) ?_
    | refine ax_q (q_assign rfl) ?_
    | refine ax_ops_nil ?_
    | refine ax_post_code ?_
    | refine ax_seq ?_
    | refine ax_region rfl ?_)
  refine ax_q (q_ulow (m := m) rfl rfl rfl uk32) ?_
  repeat (refine ax_q (q_move rfl) ?_)
  refine ax_q (q_ushr (m := m) (s := 32) rfl rfl rfl) ?_
  refine ax_q (q_ulow rfl rfl rfl uk32) ?_
  repeat (refine ax_buildSliceRo rfl rfl rfl rfl rfl rfl rfl rfl rfl rfl rfl ?_)
  refine ax_callv rfl rfl rfl hc ?_
  repeat (first
    | refine ax_q (q_assign rfl) ?_
    | refine ax_ops_nil ?_
    | refine ax_post_code ?_
    | refine ax_return ?_)
  exact ax_ret hR rfl rfl

theorem mul_bd {a b c : Nat} (ha : a < 4294967296) (hb : b < 4294967296) (hc : c < 4294967296) : a * b < 18446744073709551616 ∧ c + a * b < 18446744073709551616 := by
  have : a * b ≤ 4294967295 * 4294967295 := Nat.mul_le_mul (by omega) (by omega)
  omega
theorem mulAdd_ok (n : List Int) (x y : Nat) (hn : Lim n) (hlen : n.length ≤ 100000000) (hx : x < 4294967296) (hy : y < 4294967296) :
    VCall Tryz.prog 109 [limA n, .int .u32 (x : Nat), .int .u32 (y : Nat)] (natA (valL n * x + y)) := by
  refine ACall.value0 (acall_of_ax (P := Tryz.prog) (fn := Tryz.f109) rfl rfl (by kernel_rfl) rfl (fun c hR hfix => ?_)) (fix := fun _ => False) (fun _ h => h) rfl rfl
  repeat (first
    | refine ax_q (q_move rfl) ?_
    | refine ax_q (q_assign rfl) ?_
    | refine ax_ops_nil ?_
    | refine ax_post_code ?_
    | refine ax_seq ?_
    | refine ax_region rfl ?_
    | refine ax_q (q_len rfl rfl rfl) ?_
    | refine ax_q (q_add rfl rfl (by omega)) ?_)
  refine ax_make rfl rfl rfl rfl rfl rfl rfl rfl (by show (0 : Int) ≤ 0 ∧ _ ≤ _ ∧ (4 : Int) * _ ≤ _ ∧ _; omega) ?_
  repeat (first
    | refine ax_q (q_move rfl) ?_
    | refine ax_q (q_assign rfl) ?_
    | refine ax_ops_nil ?_
    | refine ax_post_code ?_
    | refine ax_seq ?_
    | refine ax_region rfl ?_)
  refine ax_q (q_uconv (m := y) rfl rfl rfl uk64 (by omega)) ?_
  refine ax_trunc_ops 0 (.ints .u32 []) rfl ⟨Nat.zero_le _, rfl, fun i j hi _ => absurd hi (Nat.not_lt_zero _)⟩ ?_
  repeat (first
    | refine ax_q (q_move rfl) ?_
    | refine ax_q (q_assign rfl) ?_
    | refine ax_ops_nil ?_
    | refine ax_post_code ?_
    | refine ax_seq ?_
    | refine ax_region rfl ?_
    | refine ax_block ?_
    | refine ax_q (q_len rfl rfl rfl) ?_)
  refine ax_loop (ι := Nat × List Int × Nat) (fun p => [(0, limA n), (1, .int .u32 (x : Nat)), (7, .sl 0 0 p.1), (8, .int .u64 (p.2.2 : Nat)), (17, limA n), (18, .int .i64 (n.length : Nat)), (19, .int .i64 (p.1 : Nat))]) (fun p => [some ⟨95, .ints .u32 p.2.1⟩])
    (fun p => p.1 ≤ n.length ∧ p.2.1.length = p.1 ∧ Lim p.2.1 ∧ p.2.2 < 4294967296 ∧ valL p.2.1 + B ^ p.1 * p.2.2 = valL (n.take p.1) * x + y) (fun p => n.length - p.1) (0, [], y) ⟨⟨rfl, rfl, rfl, rfl, rfl, rfl, rfl, trivial⟩, rfl, Nat.zero_le _, rfl, Lim.nil, hy, by simp [valL]⟩ ?_
  rintro ⟨i, out, cr⟩ ⟨h1, h2, h3, h4, h5⟩
  simp only at *
  repeat (first
    | refine ax_ops_nil ?_
    | refine ax_post_code ?_
    | refine ax_seq ?_
    | refine ax_region rfl ?_
    | refine ax_q (q_lss rfl rfl) ?_)
  refine ax_cond_dec rfl (fun h6 => ?_) (fun h6 => ?_)
  · have hil : i < n.length := by omega
    obtain ⟨d, hd, hdB⟩ := hn.nat i
    have hb := mul_bd (a := d) (b := x) (c := cr) hdB hx h4
    have hq : (cr + d * x) / 4294967296 < 4294967296 := by omega
    repeat (first
      | refine ax_q (q_move rfl) ?_
      | refine ax_q (q_assign rfl) ?_
      | refine ax_q (q_loadi_rp rfl rfl rfl) ?_
      | refine ax_ops_nil ?_
      | refine ax_post_code ?_
      | refine ax_seq ?_
      | refine ax_region rfl ?_
      | refine ax_block ?_
      | refine ax_skip ?_
      | refine ax_q (q_index_ro' rfl rfl rfl rfl (by first | (simp only [Nat.zero_add, Int.toNat_natCast, Int.toNat_zero]; exact rfl) | exact rfl) (by omega)) ?_)
    refine ax_slot_ops 24 (.int .u32 (d : Nat)) rfl (AEq.of_eq (by rw [hd])) ?_
    refine ax_q (q_uconv (m := d) rfl rfl rfl uk64 (by omega)) ?_
    repeat (refine ax_q (q_move rfl) ?_)
    refine ax_q (q_uconv (m := x) rfl rfl rfl uk64 (by omega)) ?_
    refine ax_q (q_umul rfl rfl uk64 hb.1) ?_
    refine ax_q (q_uadd rfl rfl uk64 hb.2) ?_
    repeat (first
      | refine ax_q (q_move rfl) ?_
      | refine ax_q (q_assign rfl) ?_
      | refine ax_ops_nil ?_
      | refine ax_post_code ?_
      | refine ax_seq ?_
      | refine ax_region rfl ?_)
    refine ax_q (q_ulow rfl rfl rfl uk32) ?_
    repeat (refine ax_buildSliceRo rfl rfl rfl rfl rfl rfl rfl rfl rfl rfl rfl ?_)
    refine ax_append rfl rfl rfl rfl rfl rfl rfl rfl rfl h2 rfl rfl (Nat.le_refl 1) rfl (by show (i + 1) * 4 ≤ _ ∧ _; omega) (fun i j _ _ => rfl) (by rw [hfix]; exact fun h => h) ?_
    repeat (first
      | refine ax_q (q_move rfl) ?_
      | refine ax_q (q_assign rfl) ?_
      | refine ax_ops_nil ?_
      | refine ax_post_code ?_
      | refine ax_region rfl ?_)
    refine ax_q (q_ushr (s := 32) rfl rfl rfl) ?_
    repeat (first
      | refine ax_q (q_move rfl) ?_
      | refine ax_q (q_assign rfl) ?_
      | refine ax_ops_nil ?_
      | refine ax_post_code ?_
      | refine ax_region rfl ?_
      | refine ax_post_blk ?_
      | refine ax_q (q_add rfl rfl (by omega)) ?_)
    refine ax_post_inv ⟨(i + 1, out ++ [(((cr + d * x) % 4294967296 : Nat) : Int)], (cr + d * x) / 4294967296), ⟨by simp only; omega, by simp [h2], Lim.append.2 ⟨h3, Lim.one (mod_lim _)⟩, hq, ?_⟩, by simp only; omega, ⟨rfl, rfl, rfl, rfl, rfl, rfl, rfl, trivial⟩, rfl⟩
    have := snoc_carry h2 h5 (c := cr + d * x) (d := d * x) rfl
    rw [valL_take_succ' n i, hd, Int.toNat_natCast, Nat.add_mul, Nat.mul_assoc]
    simp only at this ⊢
    rw [this]
    omega
  · have hie : i = n.length := by omega
    subst hie
    rw [List.take_length] at h5
    repeat (first
      | refine ax_q (q_move rfl) ?_
      | refine ax_post_code ?_
      | refine ax_seq ?_
      | refine ax_region rfl ?_
      | refine ax_exit ?_
      | refine ax_exit_here ?_
      | refine ax_exit_code ?_
      | refine ax_exit_inv ?_)
    refine ax_q (q_ulow (m := cr) rfl rfl rfl uk32) ?_
    repeat (refine ax_buildSliceRo rfl rfl rfl rfl rfl rfl rfl rfl rfl rfl rfl ?_)
    refine ax_append rfl rfl rfl rfl rfl rfl rfl rfl rfl h2 rfl rfl (Nat.le_refl 1) rfl (by show (n.length + 1) * 4 ≤ _ ∧ _; omega) (fun i j _ _ => rfl) (by rw [hfix]; exact fun h => h) ?_
    have hl : Lim (out ++ [((cr % 4294967296 : Nat) : Int)]) := Lim.append.2 ⟨h3, Lim.one (mod_lim _)⟩
    have hc := norm_ok _ hl (by simp; omega)
    have hv : valL (out ++ [((cr % 4294967296 : Nat) : Int)]) = valL n * x + y := by
      rw [valL_snoc, h2, Int.toNat_natCast, Nat.mod_eq_of_lt h4]; exact h5
    rw [hv] at hc
    refine ax_give 0 42 (n.length + 1) [] rfl refless_ints rfl (by show _ ≤ (out ++ [((cr % 4294967296 : Nat) : Int)]).length; simp; omega) trivial ?_
    refine ax_callv rfl rfl (by show [AV.ro _ 0 (n.length + 1)] ++ [] = [limA (out ++ [((cr % 4294967296 : Nat) : Int)])]; simp only [limA, List.length_append, h2]; rfl) hc ?_
    repeat (first
      | refine ax_q (q_assign rfl) ?_
      | refine ax_ops_nil ?_
      | refine ax_post_code ?_
      | refine ax_return ?_)
    exact ax_ret hR rfl rfl
end Go.Proofs.YtbeegiiiochblaaGreatDoor

namespace Go.Proofs.YtbeegiiiochblaaGreatDoor
open Go.Ax Go.Ax.Bg Go.RowKit
attribute [local irreducible] Ax Post QOp ACall
set_option maxRecDepth 100000
set_option maxHeartbeats 4000000

theorem isNaNi (n : Int) : VCall Tryz.prog 110 [.int .i64 n] (.bool false) := by
  refine ACall.value0 (acall_of_ax (P := Tryz.prog) (fn := Tryz.f110) rfl rfl (by kernel_rfl) rfl (fun c hR hfix => ?_)) (fix := fun _ => False) (fun _ h => h) rfl rfl
  repeat (first
    | refine ax_q (q_move rfl) ?_
    | refine ax_q (q_assign rfl) ?_
    | refine ax_ops_nil ?_
    | refine ax_post_code ?_
    | refine ax_seq ?_
    | refine ax_region rfl ?_
    | refine ax_return ?_
    | refine ax_q (q_neq rfl rfl) ?_)
  refine ax_ret hR rfl ?_
  simp [tupOf]
theorem isNaNu (n : Int) : VCall Tryz.prog 111 [.int .u32 n] (.bool false) := by
  refine ACall.value0 (acall_of_ax (P := Tryz.prog) (fn := Tryz.f111) rfl rfl (by kernel_rfl) rfl (fun c hR hfix => ?_)) (fix := fun _ => False) (fun _ h => h) rfl rfl
  repeat (first
    | refine ax_q (q_move rfl) ?_
    | refine ax_q (q_assign rfl) ?_
    | refine ax_ops_nil ?_
    | refine ax_post_code ?_
    | refine ax_seq ?_
    | refine ax_region rfl ?_
    | refine ax_return ?_
    | refine ax_q (q_neq rfl rfl) ?_)
  refine ax_ret hR rfl ?_
  simp [tupOf]
theorem cmpi (x y : Int) : VCall Tryz.prog 74 [.int .i64 x, .int .i64 y] (.int .i64 (cmpZ x y)) := by
  refine ACall.value0 (acall_of_ax (P := Tryz.prog) (fn := Tryz.f74) rfl rfl (by kernel_rfl) rfl (fun c hR hfix => ?_)) (fix := fun _ => False) (fun _ h => h) rfl rfl
  repeat (first
    | refine ax_q (q_move rfl) ?_
    | refine ax_q (q_assign rfl) ?_
    | refine ax_ops_nil ?_
    | refine ax_post_code ?_
    | refine ax_seq ?_
    | refine ax_region rfl ?_)
  refine ax_callv rfl rfl rfl (isNaNi x) ?_
  repeat (first
    | refine ax_q (q_move rfl) ?_
    | refine ax_q (q_assign rfl) ?_
    | refine ax_ops_nil ?_
    | refine ax_post_code ?_
    | refine ax_seq ?_
    | refine ax_region rfl ?_)
  refine ax_callv rfl rfl rfl (isNaNi y) ?_
  repeat (first
    | refine ax_q (q_move rfl) ?_
    | refine ax_q (q_assign rfl) ?_
    | refine ax_ops_nil ?_
    | refine ax_post_code ?_
    | refine ax_seq ?_
    | refine ax_region rfl ?_
    | refine ax_cond_false rfl ?_
    | refine ax_skip ?_
    | refine ax_q (q_lss rfl rfl) ?_)
  refine ax_cond_dec rfl (fun h => ?_) (fun h => ?_)
  · repeat (first
      | refine ax_q (q_assign rfl) ?_
      | refine ax_ops_nil ?_
      | refine ax_post_code ?_
      | refine ax_seq ?_
      | refine ax_region rfl ?_
      | refine ax_return ?_
      | refine ax_ret_code ?_)
    refine ax_ret hR rfl ?_
    unfold cmpZ; rw [if_pos h]; rfl
  · repeat (first
      | refine ax_q (q_move rfl) ?_
      | refine ax_ops_nil ?_
      | refine ax_post_code ?_
      | refine ax_seq ?_
      | refine ax_region rfl ?_
      | refine ax_skip ?_
      | refine ax_q (q_gtr rfl rfl) ?_)
    refine ax_cond_dec rfl (fun h2 => ?_) (fun h2 => ?_)
    · repeat (first
        | refine ax_q (q_assign rfl) ?_
        | refine ax_ops_nil ?_
        | refine ax_post_code ?_
        | refine ax_seq ?_
        | refine ax_region rfl ?_
        | refine ax_return ?_
        | refine ax_ret_code ?_)
      refine ax_ret hR rfl ?_
      unfold cmpZ; rw [if_neg h, if_pos h2]; rfl
    · repeat (first
        | refine ax_q (q_assign rfl) ?_
        | refine ax_ops_nil ?_
        | refine ax_post_code ?_
        | refine ax_seq ?_
        | refine ax_region rfl ?_
        | refine ax_skip ?_
        | refine ax_return ?_)
      refine ax_ret hR rfl ?_
      unfold cmpZ; rw [if_neg h, if_neg h2]; rfl
theorem cmpu (x y : Int) : VCall Tryz.prog 75 [.int .u32 x, .int .u32 y] (.int .i64 (cmpZ x y)) := by
  refine ACall.value0 (acall_of_ax (P := Tryz.prog) (fn := Tryz.f75) rfl rfl (by kernel_rfl) rfl (fun c hR hfix => ?_)) (fix := fun _ => False) (fun _ h => h) rfl rfl
  repeat (first
    | refine ax_q (q_move rfl) ?_
    | refine ax_q (q_assign rfl) ?_
    | refine ax_ops_nil ?_
    | refine ax_post_code ?_
    | refine ax_seq ?_
    | refine ax_region rfl ?_)
  refine ax_callv rfl rfl rfl (isNaNu x) ?_
  repeat (first
    | refine ax_q (q_move rfl) ?_
    | refine ax_q (q_assign rfl) ?_
    | refine ax_ops_nil ?_
    | refine ax_post_code ?_
    | refine ax_seq ?_
    | refine ax_region rfl ?_)
  refine ax_callv rfl rfl rfl (isNaNu y) ?_
  repeat (first
    | refine ax_q (q_move rfl) ?_
    | refine ax_q (q_assign rfl) ?_
    | refine ax_ops_nil ?_
    | refine ax_post_code ?_
    | refine ax_seq ?_
    | refine ax_region rfl ?_
    | refine ax_cond_false rfl ?_
    | refine ax_skip ?_
    | refine ax_q (q_lss rfl rfl) ?_)
  refine ax_cond_dec rfl (fun h => ?_) (fun h => ?_)
  · repeat (first
      | refine ax_q (q_assign rfl) ?_
      | refine ax_ops_nil ?_
      | refine ax_post_code ?_
      | refine ax_seq ?_
      | refine ax_region rfl ?_
      | refine ax_return ?_
      | refine ax_ret_code ?_)
    refine ax_ret hR rfl ?_
    unfold cmpZ; rw [if_pos h]; rfl
  · repeat (first
      | refine ax_q (q_move rfl) ?_
      | refine ax_ops_nil ?_
      | refine ax_post_code ?_
      | refine ax_seq ?_
      | refine ax_region rfl ?_
      | refine ax_skip ?_
      | refine ax_q (q_gtr rfl rfl) ?_)
    refine ax_cond_dec rfl (fun h2 => ?_) (fun h2 => ?_)
    · repeat (first
        | refine ax_q (q_assign rfl) ?_
        | refine ax_ops_nil ?_
        | refine ax_post_code ?_
        | refine ax_seq ?_
        | refine ax_region rfl ?_
        | refine ax_return ?_
        | refine ax_ret_code ?_)
      refine ax_ret hR rfl ?_
      unfold cmpZ; rw [if_neg h, if_pos h2]; rfl
    · repeat (first
        | refine ax_q (q_assign rfl) ?_
        | refine ax_ops_nil ?_
        | refine ax_post_code ?_
        | refine ax_seq ?_
        | refine ax_region rfl ?_
        | refine ax_skip ?_
        | refine ax_return ?_)
      refine ax_ret hR rfl ?_
      unfold cmpZ; rw [if_neg h, if_neg h2]; rfl
theorem cmp_ok (a b : Nat) (ha : (natL a).length ≤ 1000000000) (hb : (natL b).length ≤ 1000000000) : VCall Tryz.prog 44 [natA a, natA b] (.int .i64 (cmpZ a b)) := by
  have c1 := cmpi (natL a).length (natL b).length
  refine ACall.value0 (acall_of_ax (P := Tryz.prog) (fn := Tryz.f44) rfl rfl (by kernel_rfl) rfl (fun c hR hfix => ?_)) (fix := fun _ => False) (fun _ h => h) rfl rfl
  have la := natL_lim a
  have lb := natL_lim b
  have e1 := cmp_len a b
  have e2 : ∀ i, i < (natL a).length → (natL a).length = (natL b).length → (∀ j, i < j → j < (natL a).length → (natL a).getD j 0 = (natL b).getD j 0) → (natL a).getD i 0 ≠ (natL b).getD i 0 → cmpZ a b = cmpZ ((natL a).getD i 0) ((natL b).getD i 0) := fun i hi hl hj hne => cmp_limb la lb hl hi hj hne
  have e3 : (natL a).length = (natL b).length → (∀ j, j < (natL a).length → (natL a).getD j 0 = (natL b).getD j 0) → cmpZ a b = 0 := cmp_same
  unfold natA
  generalize natL a = x at *
  generalize natL b = y at *
  generalize cmpZ (a : Int) (b : Int) = r at *
  repeat (first
    | refine ax_q (q_move rfl) ?_
    | refine ax_q (q_assign rfl) ?_
    | refine ax_ops_nil ?_
    | refine ax_post_code ?_
    | refine ax_seq ?_
    | refine ax_region rfl ?_
    | refine ax_q (q_neq rfl rfl) ?_
    | refine ax_q (q_len rfl rfl rfl) ?_)
  refine ax_cond_dec rfl (fun h0 => ?_) (fun h0 => ?_)
  · repeat (first
      | refine ax_q (q_move rfl) ?_
      | refine ax_seq ?_
      | refine ax_region rfl ?_
      | refine ax_q (q_len rfl rfl rfl) ?_)
    refine ax_callv rfl rfl rfl c1 ?_
    repeat (first
      | refine ax_q (q_assign rfl) ?_
      | refine ax_ops_nil ?_
      | refine ax_post_code ?_
      | refine ax_return ?_
      | refine ax_ret_code ?_)
    refine ax_ret hR rfl ?_
    rw [e1 (by omega)]; rfl
  · have hl : x.length = y.length := by omega
    repeat (first
      | refine ax_q (q_move rfl) ?_
      | refine ax_q (q_assign rfl) ?_
      | refine ax_ops_nil ?_
      | refine ax_post_code ?_
      | refine ax_seq ?_
      | refine ax_region rfl ?_
      | refine ax_block ?_
      | refine ax_skip ?_
      | refine ax_q (q_len rfl rfl rfl) ?_
      | refine ax_q (q_sub rfl rfl (by omega)) ?_)
    refine ax_loop (ι := Nat) (fun k => [(0, .ro (.ints .u32 x) 0 x.length), (1, .ro (.ints .u32 y) 0 y.length), (5, .int .i64 ((k : Int) - 1))]) (fun _ => []) (fun k => k ≤ x.length ∧ ∀ j, k ≤ j → j < x.length → x.getD j 0 = y.getD j 0) (fun k => k) x.length ⟨⟨rfl, rfl, rfl, trivial⟩, rfl, Nat.le_refl _, fun j h1 h2 => by omega⟩ ?_
    rintro k ⟨hk, hz⟩
    repeat (first
      | refine ax_q (q_move rfl) ?_
      | refine ax_ops_nil ?_
      | refine ax_post_code ?_
      | refine ax_seq ?_
      | refine ax_region rfl ?_
      | refine ax_q (q_geq rfl rfl) ?_)
    refine ax_cond_dec rfl (fun h1 => ?_) (fun h1 => ?_)
    · have ek : ((k : Int) - 1).toNat = k - 1 := by omega
      repeat (first
        | refine ax_post_code ?_
        | refine ax_seq ?_
        | refine ax_block ?_
        | refine ax_skip ?_)
      refine ax_regionq (by kernel_rfl) (by kernel_rfl) rfl ?_
      repeat (first
        | refine ax_q (q_move rfl) ?_
        | refine ax_q (q_loadi_rp rfl rfl rfl) ?_
        | refine ax_ops_nil ?_
        | refine ax_post_code ?_
        | refine ax_q (q_neq rfl rfl) ?_
        | refine ax_q (q_index_ro' rfl rfl rfl rfl (by first | (simp only [Nat.zero_add, Int.toNat_natCast, Int.toNat_zero]; exact rfl) | exact rfl) (by omega)) ?_)
      refine ax_cond_dec rfl (fun h2 => ?_) (fun h2 => ?_)
      · rw [ek] at h2
        have c2 := cmpu (x.getD (k - 1) 0) (y.getD (k - 1) 0)
        repeat (refine ax_seq ?_)
        refine ax_regiond (by kernel_rfl) ?_
        refine ax_any_q 0 rfl (by kernel_rfl) (by kernel_rfl) (by kernel_rfl) rfl (q_move rfl) rfl ?_
        refine ax_any_q 1 rfl (by kernel_rfl) (by kernel_rfl) (by kernel_rfl) rfl (q_move rfl) rfl ?_
        refine ax_any_q 2 rfl (by kernel_rfl) (by kernel_rfl) (by kernel_rfl) rfl (q_index_ro' rfl rfl rfl rfl (by first | (simp only [Nat.zero_add, Int.toNat_natCast, Int.toNat_zero]; exact rfl) | exact rfl) (by omega)) rfl ?_
        refine ax_any_q 4 rfl (by kernel_rfl) (by kernel_rfl) (by kernel_rfl) rfl (q_move rfl) rfl ?_
        refine ax_any_q 5 rfl (by kernel_rfl) (by kernel_rfl) (by kernel_rfl) rfl (q_move rfl) rfl ?_
        refine ax_any_q 6 rfl (by kernel_rfl) (by kernel_rfl) (by kernel_rfl) rfl (q_index_ro' rfl rfl rfl rfl (by first | (simp only [Nat.zero_add, Int.toNat_natCast, Int.toNat_zero]; exact rfl) | exact rfl) (by omega)) rfl ?_
        apply ax_tail_any [(35, .int .u32 (x.getD ((k : Int) - 1).toNat 0)), (39, .int .u32 (y.getD ((k : Int) - 1).toNat 0))]
        · intro fin
          refine ax_any_step (is := [3, 7]) (by kernel_rfl) (by simp) rfl ⟨fun o ho => ?_, fun o ho => ?_, trivial⟩
          all_goals (cases ho)
          · repeat (first
              | refine ax_q (q_loadi_rp rfl rfl rfl) ?_
              | refine ax_ops_nil ?_
              | refine ax_post_any ?_)
            refine ax_any_step (is := [7]) (by kernel_rfl) (by simp) rfl ⟨fun o ho => ?_, trivial⟩
            all_goals (cases ho)
            repeat (first
              | refine ax_q (q_loadi_rp rfl rfl rfl) ?_
              | refine ax_ops_nil ?_
              | refine ax_post_any ?_)
            exact fin _ ⟨rfl, rfl, trivial⟩
          · repeat (first
              | refine ax_q (q_loadi_rp rfl rfl rfl) ?_
              | refine ax_ops_nil ?_
              | refine ax_post_any ?_)
            refine ax_any_step (is := [3]) (by kernel_rfl) (by simp) rfl ⟨fun o ho => ?_, trivial⟩
            all_goals (cases ho)
            repeat (first
              | refine ax_q (q_loadi_rp rfl rfl rfl) ?_
              | refine ax_ops_nil ?_
              | refine ax_post_any ?_)
            exact fin _ ⟨rfl, rfl, trivial⟩
        refine ax_any_step (is := [8]) (by kernel_rfl) (by simp) rfl ⟨fun o ho => ?_, trivial⟩
        all_goals (cases ho)
        skip
        refine ax_callv rfl rfl rfl (by rw [ek]; exact c2) ?_
        repeat (first
          | refine ax_ops_nil ?_
          | refine ax_post_any ?_)
        refine ax_any_q 9 rfl (by kernel_rfl) (by kernel_rfl) (by kernel_rfl) rfl (q_assign rfl) rfl ?_
        refine ax_any_done (by kernel_rfl) ?_
        repeat (first
          | refine ax_post_code ?_
          | refine ax_return ?_
          | refine ax_ret_code ?_
          | refine ax_ret_blk ?_
          | refine ax_ret_inv ?_)
        refine ax_ret hR rfl ?_
        rw [e2 (k - 1) (by omega) hl (fun j h3 h4 => hz j (by omega) h4) h2]; rfl
      · rw [ek] at h2
        repeat (first
          | refine ax_q (q_move rfl) ?_
          | refine ax_q (q_assign rfl) ?_
          | refine ax_ops_nil ?_
          | refine ax_post_code ?_
          | refine ax_region rfl ?_
          | refine ax_post_blk ?_
          | refine ax_skip ?_
          | refine ax_q (q_sub rfl rfl (by omega)) ?_)
        refine ax_post_inv ⟨k - 1, ⟨by omega, fun j h3 h4 => ?_⟩, by omega, ⟨rfl, rfl, ?_, trivial⟩, rfl⟩
        · by_cases h5 : j = k - 1
          · subst h5; exact Classical.not_not.1 h2
          · exact hz j (by omega) h4
        · show some (AV.int .i64 _) = _
          congr 2
          omega
    · repeat (first
        | refine ax_q (q_assign rfl) ?_
        | refine ax_ops_nil ?_
        | refine ax_post_code ?_
        | refine ax_seq ?_
        | refine ax_region rfl ?_
        | refine ax_exit ?_
        | refine ax_exit_here ?_
        | refine ax_exit_code ?_
        | refine ax_exit_inv ?_
        | refine ax_return ?_)
      refine ax_ret hR rfl ?_
      rw [e3 hl (fun j h3 => hz j (by omega) h3)]; rfl
end Go.Proofs.YtbeegiiiochblaaGreatDoor

namespace Go.Proofs.YtbeegiiiochblaaGreatDoor
open Go.Ax Go.Ax.Bg Go.RowKit
attribute [local irreducible] Ax Post QOp ACall
set_option maxRecDepth 100000
set_option maxHeartbeats 4000000

theorem give_call {out : List Int} {m : Nat} (h : out.length = m) : [AV.ro (.ints .u32 out) 0 m] ++ [] = [limA out] := by
  subst h; rfl
theorem add_ok (a b : Nat) (ha : (natL a).length ≤ 100000000) (hb : (natL b).length ≤ 100000000) : VCall Tryz.prog 42 [natA a, natA b] (natA (a + b)) := by
  refine ACall.value0 (acall_of_ax (P := Tryz.prog) (fn := Tryz.f42) rfl rfl (by kernel_rfl) rfl (fun c hR hfix => ?_)) (fix := fun _ => False) (fun _ h => h) rfl rfl
  obtain ⟨p, q, hpq, hlen, hL⟩ : ∃ p q : Nat, p + q = a + b ∧ (natL q).length ≤ (natL p).length ∧ (((natL a).length < (natL b).length ∧ p = b ∧ q = a) ∨ (¬ (natL a).length < (natL b).length ∧ p = a ∧ q = b)) := by
    rcases Nat.lt_or_ge (natL a).length (natL b).length with h | h
    · exact ⟨b, a, by omega, by omega, .inl ⟨h, rfl, rfl⟩⟩
    · exact ⟨a, b, rfl, h, .inr ⟨by omega, rfl, rfl⟩⟩
  have hpl : (natL p).length ≤ 100000000 := by rcases hL with ⟨_, rfl, rfl⟩ | ⟨_, rfl, rfl⟩ <;> assumption
  apply ax_tail_code (H := []) [(0, natA p), (1, natA q)]
  · intro fin
    unfold natA at fin ⊢
    repeat (first
      | refine ax_q (q_move rfl) ?_
      | refine ax_q (q_assign rfl) ?_
      | refine ax_ops_nil ?_
      | refine ax_post_code ?_
      | refine ax_seq ?_
      | refine ax_region rfl ?_
      | refine ax_q (q_lss rfl rfl) ?_
      | refine ax_q (q_len rfl rfl rfl) ?_)
    refine ax_cond_dec rfl (fun h0 => ?_) (fun h0 => ?_)
    · have : p = b ∧ q = a := by
        rcases hL with h | h
        · exact h.2
        · exact absurd (by omega) h.1
      obtain ⟨rfl, rfl⟩ := this
      skip
      refine ax_region rfl ?_
      repeat (first
        | refine ax_q (q_move rfl) ?_
        | refine ax_q (q_assign rfl) ?_
        | refine ax_ops_nil ?_
        | refine ax_post_code ?_)
      exact fin _ ⟨rfl, rfl, trivial⟩
    · have : p = a ∧ q = b := by
        rcases hL with h | h
        · exact absurd (by omega) h0
        · exact h.2
      obtain ⟨rfl, rfl⟩ := this
      repeat (first
        | refine ax_post_code ?_
        | refine ax_skip ?_)
      exact fin _ ⟨rfl, rfl, trivial⟩
  have hx := natL_lim p
  have hy := natL_lim q
  have hv : valL (natL p) + valL (natL q) = a + b := by rw [valL_natL, valL_natL, hpq]
  unfold natA
  rw [← hv] at hR
  generalize natL p = x at *
  generalize natL q = y at *
  repeat (first
    | refine ax_q (q_move rfl) ?_
    | refine ax_seq ?_
    | refine ax_region rfl ?_
    | refine ax_q (q_len rfl rfl rfl) ?_
    | refine ax_q (q_add rfl rfl (by omega)) ?_)
  refine ax_make rfl rfl rfl rfl rfl rfl rfl rfl (by show (0 : Int) ≤ 0 ∧ _ ≤ _ ∧ (4 : Int) * _ ≤ _ ∧ _; omega) ?_
  repeat (first
    | refine ax_q (q_move rfl) ?_
    | refine ax_q (q_assign rfl) ?_
    | refine ax_ops_nil ?_
    | refine ax_post_code ?_
    | refine ax_seq ?_
    | refine ax_region rfl ?_
    | refine ax_block ?_
    | refine ax_q (q_len rfl rfl rfl) ?_)
  refine ax_trunc 0 (.ints .u32 []) rfl ⟨Nat.zero_le _, rfl, fun i j hi _ => absurd hi (Nat.not_lt_zero _)⟩ ?_
  refine ax_loop (ι := Nat × List Int × Nat) (fun p => [(1, .ro (.ints .u32 y) 0 y.length), (5, .sl 0 0 p.1), (6, .int .u64 (p.2.2 : Nat)), (20, .ro (.ints .u32 x) 0 x.length), (21, .int .i64 (x.length : Nat)), (22, .int .i64 (p.1 : Nat))]) (fun p => [some ⟨95, .ints .u32 p.2.1⟩])
    (fun p => p.1 ≤ x.length ∧ p.2.1.length = p.1 ∧ Lim p.2.1 ∧ p.2.2 < 4294967296 ∧ valL p.2.1 + B ^ p.1 * p.2.2 = valL (x.take p.1) + valL (y.take p.1)) (fun p => x.length - p.1) (0, [], 0) ⟨⟨rfl, rfl, rfl, rfl, rfl, rfl, trivial⟩, rfl, Nat.zero_le _, rfl, Lim.nil, by decide, by simp [valL]⟩ ?_
  rintro ⟨i, out, cr⟩ ⟨h1, h2, h3, h4, h5⟩
  simp only at *
  repeat (first
    | refine ax_ops_nil ?_
    | refine ax_post_code ?_
    | refine ax_seq ?_
    | refine ax_region rfl ?_
    | refine ax_q (q_lss rfl rfl) ?_)
  refine ax_cond_dec rfl (fun h6 => ?_) (fun h6 => ?_)
  · have hil : i < x.length := by omega
    obtain ⟨d, hd, hdB⟩ := hx.nat i
    obtain ⟨e, he, heB⟩ := hy.nat i
    repeat (first
      | refine ax_q (q_move rfl) ?_
      | refine ax_q (q_assign rfl) ?_
      | refine ax_q (q_loadi_rp rfl rfl rfl) ?_
      | refine ax_ops_nil ?_
      | refine ax_post_code ?_
      | refine ax_seq ?_
      | refine ax_region rfl ?_
      | refine ax_block ?_
      | refine ax_skip ?_
      | refine ax_q (q_index_ro' rfl rfl rfl rfl (by first | (simp only [Nat.zero_add, Int.toNat_natCast, Int.toNat_zero]; exact rfl) | exact rfl) (by omega)) ?_)
    refine ax_slot_ops 28 (.int .u32 (d : Nat)) rfl (AEq.of_eq (by rw [hd])) ?_
    refine ax_q (q_uconv (m := d) rfl rfl rfl uk64 (by omega)) ?_
    refine ax_q (q_uadd rfl rfl uk64 (by omega)) ?_
    repeat (first
      | refine ax_q (q_move rfl) ?_
      | refine ax_q (q_assign rfl) ?_
      | refine ax_ops_nil ?_
      | refine ax_post_code ?_
      | refine ax_seq ?_
      | refine ax_region rfl ?_
      | refine ax_q (q_lss rfl rfl) ?_
      | refine ax_q (q_len rfl rfl rfl) ?_)
    apply ax_tail_code (H := [some ⟨95, .ints .u32 out⟩]) [(1, .ro (.ints .u32 y) 0 y.length), (5, .sl 0 0 i), (6, .int .u64 (cr + d + e : Nat)), (20, .ro (.ints .u32 x) 0 x.length), (21, .int .i64 (x.length : Nat)), (22, .int .i64 (i : Nat))]
    · intro fin
      refine ax_cond_dec rfl (fun h7 => ?_) (fun h7 => ?_)
      · repeat (first
          | refine ax_q (q_move rfl) ?_
          | refine ax_q (q_loadi_rp rfl rfl rfl) ?_
          | refine ax_region rfl ?_
          | refine ax_q (q_index_ro' rfl rfl rfl rfl (by first | (simp only [Nat.zero_add, Int.toNat_natCast, Int.toNat_zero]; exact rfl) | exact rfl) (by omega)) ?_)
        refine ax_slot_ops 39 (.int .u32 (e : Nat)) rfl (AEq.of_eq (by rw [he])) ?_
        refine ax_q (q_uconv (m := e) rfl rfl rfl uk64 (by omega)) ?_
        refine ax_q (q_uadd rfl rfl uk64 (by omega)) ?_
        repeat (first
          | refine ax_q (q_assign rfl) ?_
          | refine ax_ops_nil ?_
          | refine ax_post_code ?_)
        exact fin _ ⟨rfl, rfl, rfl, rfl, rfl, rfl, trivial⟩
      · have he0 : e = 0 := by
          have : y.getD i 0 = 0 := by simp [List.getD, List.getElem?_eq_none (show y.length ≤ i by omega)]
          omega
        subst he0
        repeat (first
          | refine ax_post_code ?_
          | refine ax_skip ?_)
        exact fin _ ⟨rfl, rfl, rfl, rfl, rfl, rfl, trivial⟩
    repeat (first
      | refine ax_q (q_move rfl) ?_
      | refine ax_seq ?_
      | refine ax_region rfl ?_)
    refine ax_q (q_ulow rfl rfl rfl uk32) ?_
    repeat (refine ax_buildSliceRo rfl rfl rfl rfl rfl rfl rfl rfl rfl rfl rfl ?_)
    refine ax_append rfl rfl rfl rfl rfl rfl rfl rfl rfl h2 rfl rfl (Nat.le_refl 1) rfl (by show (i + 1) * 4 ≤ _ ∧ _; omega) (fun i j _ _ => rfl) (by rw [hfix]; exact fun h => h) ?_
    repeat (first
      | refine ax_q (q_move rfl) ?_
      | refine ax_q (q_assign rfl) ?_
      | refine ax_ops_nil ?_
      | refine ax_post_code ?_
      | refine ax_region rfl ?_)
    refine ax_q (q_ushr (s := 32) rfl rfl rfl) ?_
    repeat (first
      | refine ax_q (q_move rfl) ?_
      | refine ax_q (q_assign rfl) ?_
      | refine ax_ops_nil ?_
      | refine ax_post_code ?_
      | refine ax_region rfl ?_
      | refine ax_post_blk ?_
      | refine ax_q (q_add rfl rfl (by omega)) ?_)
    exact ax_post_inv ⟨(i + 1, out ++ [(((cr + d + e) % 4294967296 : Nat) : Int)], (cr + d + e) / 4294967296), ⟨by simp only; omega, by simp [h2], Lim.append.2 ⟨h3, Lim.one (mod_lim _)⟩, by simp only; omega, add_step h2 h5 hd he⟩, by simp only; omega, ⟨rfl, rfl, rfl, rfl, rfl, rfl, trivial⟩, rfl⟩
  · have hie : i = x.length := by omega
    subst hie
    rw [List.take_length, List.take_of_length_le hlen] at h5
    repeat (first
      | refine ax_q (q_move rfl) ?_
      | refine ax_post_code ?_
      | refine ax_seq ?_
      | refine ax_region rfl ?_
      | refine ax_exit ?_
      | refine ax_exit_here ?_
      | refine ax_exit_code ?_
      | refine ax_exit_inv ?_)
    refine ax_q (q_ulow (m := cr) rfl rfl rfl uk32) ?_
    repeat (refine ax_buildSliceRo rfl rfl rfl rfl rfl rfl rfl rfl rfl rfl rfl ?_)
    refine ax_append rfl rfl rfl rfl rfl rfl rfl rfl rfl h2 rfl rfl (Nat.le_refl 1) rfl (by show (x.length + 1) * 4 ≤ _ ∧ _; omega) (fun i j _ _ => rfl) (by rw [hfix]; exact fun h => h) ?_
    have hl : Lim (out ++ [((cr % 4294967296 : Nat) : Int)]) := Lim.append.2 ⟨h3, Lim.one (mod_lim _)⟩
    have hc := norm_ok _ hl (by simp; omega)
    have hv : valL (out ++ [((cr % 4294967296 : Nat) : Int)]) = valL x + valL y := by
      rw [valL_snoc, h2, Int.toNat_natCast, Nat.mod_eq_of_lt h4]; exact h5
    rw [hv] at hc
    refine ax_give 0 54 (x.length + 1) [] rfl refless_ints rfl (by show _ ≤ (out ++ [((cr % 4294967296 : Nat) : Int)]).length; simp; omega) trivial ?_
    refine ax_callv rfl rfl (give_call (by simp [h2])) hc ?_
    repeat (first
      | refine ax_q (q_assign rfl) ?_
      | refine ax_ops_nil ?_
      | refine ax_post_code ?_
      | refine ax_return ?_)
    exact ax_ret hR rfl rfl
end Go.Proofs.YtbeegiiiochblaaGreatDoor

