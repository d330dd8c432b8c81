/-
  Rules: stores, new memory, append.
-/
import Derived.Test.YtmfhdfofmdggaaaAxMem
set_option linter.unusedVariables false
set_option linter.unusedSimpArgs false
namespace Go.Ax
open Go.RowKit

section
variable {P : Program} {fn : Func} {c : Ctx} {fr : Fr} {H : AHeap} {k : List It}

/-- One operation that yields a value and changes the state. -/
theorem ax_w {all : Array Oper} {d : Nat} {op : Op} {ty : TypeId} {pos : String} {after : Array Edge} {rest : List Oper} {v : AV} {fr' : Fr} {H' : AHeap}
    (hop : ∀ w a σ S, Rep c w a σ S fn.ntmps fr H → ∃ x w' σ' S', (execOp a.eval ⟨some d, op, ty, pos, after, none⟩).run P w = .ok (.value x) w' ∧ Rep c w' a σ' S' fn.ntmps fr' H' ∧ VR w' S' σ' v x)
    (h : Ax P fn c (.ops false all rest k) ((d, v) :: fr') H') : Ax P fn c (.ops false all (⟨some d, op, ty, pos, after, none⟩ :: rest) k) fr H := by
  intro hd w a σ S hr
  obtain ⟨hd1, hd2⟩ := dsts_cons hd
  obtain ⟨x, w', σ', S', hrun, hr', hx⟩ := hop w a σ S hr
  refine wpList_step (fun K hK => ?_)
  simp only [Region.wanted, if_true]
  unfold Oper.wp
  rw [hrun]
  exact hK _ _ (h hd2 w' _ σ' S' (hr'.put hx (hd1 d rfl)))

/-- One operation that yields nothing and changes the state. -/
theorem ax_w0 {all : Array Oper} {op : Op} {ty : TypeId} {pos : String} {after : Array Edge} {rest : List Oper} {fr' : Fr} {H' : AHeap}
    (hop : ∀ w a σ S, Rep c w a σ S fn.ntmps fr H → ∃ w' σ' S', (execOp a.eval ⟨none, op, ty, pos, after, none⟩).run P w = .ok .skip w' ∧ Rep c w' a σ' S' fn.ntmps fr' H')
    (h : Ax P fn c (.ops false all rest k) fr' H') : Ax P fn c (.ops false all (⟨none, op, ty, pos, after, none⟩ :: rest) k) fr H := by
  intro hd w a σ S hr
  obtain ⟨_, hd2⟩ := dsts_cons hd
  obtain ⟨w', σ', S', hrun, hr'⟩ := hop w a σ S hr
  refine wpList_step (fun K hK => ?_)
  simp only [Region.wanted, if_true]
  unfold Oper.wp
  rw [hrun]
  exact hK _ _ (h hd2 w' _ σ' S' hr')

theorem size_of {t : TypeId} {s : Nat} {w : World} (hs : (P.info? t).map (·.size) = some s) : (sizeOf t).run P w = .ok s w := by
  cases hq : P.info? t with
  | none => simp [hq] at hs
  | some i => simp [hq] at hs; subst hs; simp [sizeOf, typeInfo, hq]

/-- A store of one cell. -/
theorem ax_store {all : Array Oper} {t : TypeId} {x y : Operand} {ty : TypeId} {pos : String} {after : Array Edge} {rest : List Oper} {h i j : Nat} {ob : AObj} {v : AV} {c' : Cells}
    (hx : ev fr x = some (.ptr h i j)) (hy : ev fr y = some v) (hone : v.one = true) (hs : (P.info? t).map (·.size) = some 1) (hh : H[h]? = some (some ob)) (hj : Nat.blt j ob.c.sz = true) (hu : ob.c.upd i j v = some c') (hi : i < ob.c.len)
    (hk : Ax P fn c (.ops false all rest k) fr (H.set h (some ⟨ob.ty, c'⟩))) : Ax P fn c (.ops false all (⟨none, .store t x y, ty, pos, after, none⟩ :: rest) k) fr H := by
  refine ax_w0 (fun w a σ S hr => ?_) hk
  have h1 := hr.evAt hx
  have h2 := hr.evAt hy
  have hj' : j < ob.c.sz := Nat.le_of_ble_eq_true hj
  generalize hz : a.eval x = z at h1
  generalize hzy : a.eval y = u at h2
  have hone' := h2.one hone
  cases h1 with
  | ptr _ _ _ _ b s C hσ =>
    obtain ⟨hs', cur, g1, g2, g3, g4, g5, g6⟩ := hr.obj hh hσ
    subst hs'
    obtain ⟨l1, l2, hat⟩ := Cells.upd_spec hu
    have hin : i * ob.c.sz + j < cur.size := by
      rw [g2]
      have : (i + 1) * ob.c.sz ≤ C * ob.c.sz := Nat.mul_le_mul_right _ (by omega)
      rw [Nat.add_mul] at this; omega
    refine ⟨w.setRow b (cur.setIfInBounds (i * ob.c.sz + j) u), σ, S, ?_, hr.setRow hh hσ l2 (by omega) (by simpa using g2) (fun i' j' hi' hj' => ?_)⟩
    · have hc1 : w.cell? ⟨b, i * ob.c.sz + j, none⟩ = some cur[i * ob.c.sz + j] := by simp [World.cell?, g1, hin]
      have hf : w.frozen? ⟨b, i * ob.c.sz + j, none⟩ = false := by simp [World.frozen?, g1]
      have hcells : u.cells = #[u] := by cases u <;> first | rfl | cases hone'
      have hst := run_store P w ⟨b, i * ob.c.sz + j, none⟩ u .plain hone'
      rw [hc1] at hst
      simp only [hf, Bool.false_eq_true, if_false, setCell_eq_setRow w b (i * ob.c.sz + j) cur ob.ty (0, 0) u g1] at hst
      simp [execOp, hz, hzy, Instr.storeAt, Instr.sureAddr, storeVar, hcells, size_of hs, storeCells, Addr.add_lit, hst]
    · rw [l1] at hi'
      rw [l2] at hj' ⊢
      rw [hat i' j' hi' hj' hi (by assumption)]
      by_cases he : i' = i ∧ j' = j
      · obtain ⟨rfl, rfl⟩ := he
        simp only [and_self, if_true]
        exact ⟨u, by simp [hin], h2, hone'⟩
      · rw [if_neg he]
        obtain ⟨v', e1, e2, e3⟩ := g6 i' j' hi' hj'
        refine ⟨v', ?_, e2, e3⟩
        have hne : ¬ i * ob.c.sz + j = i' * ob.c.sz + j' := by
          intro e
          apply he
          have hd : (i * ob.c.sz + j) / ob.c.sz = (i' * ob.c.sz + j') / ob.c.sz := by rw [e]
          have hm : (i * ob.c.sz + j) % ob.c.sz = (i' * ob.c.sz + j') % ob.c.sz := by rw [e]
          rw [Nat.mul_comm i, Nat.mul_comm i', Nat.mul_add_div (by omega), Nat.mul_add_div (by omega), Nat.div_eq_of_lt (by assumption), Nat.div_eq_of_lt hj'] at hd
          rw [Nat.mul_comm i, Nat.mul_comm i', Nat.mul_add_mod, Nat.mul_add_mod, Nat.mod_eq_of_lt (by assumption), Nat.mod_eq_of_lt hj'] at hm
          omega
        rw [Array.getElem?_setIfInBounds_ne hne]
        exact e1

/-- Zero, as an abstract value. -/
def zav (v : Value) : Option (List AV) := v.cells.toList.mapM fun x => ev [] (.const x)

theorem vr_const {w : World} {S : Nat → Prop} {σ : Nat → Option Blk} {x : Value} {v : AV} (h : ev [] (.const x) = some v) : VR w S σ v x ∧ x.oneCell' = true := by
  cases x with
  | int k n => cases h; exact ⟨.int _ _ _, rfl⟩
  | bool b => cases h; exact ⟨.bool _ _, rfl⟩
  | string s => cases h; exact ⟨VR.str σ s.data.toList, rfl⟩
  | slice ad len cap =>
    cases ad with
    | none =>
      cases len with
      | zero => cases cap with
        | zero => cases h; exact ⟨.nil _, rfl⟩
        | succ _ => cases h
      | succ _ => cases h
    | some _ => cases h
  | pointer p => cases p with
    | none => cases h; exact ⟨.nilp _, rfl⟩
    | some _ => cases h
  | nilFunc => cases h; exact ⟨.nilfn _, rfl⟩
  | _ => cases h

theorem zav_spec {w : World} {S : Nat → Prop} {σ : Nat → Option Blk} {z : Value} {zs : List AV} (h : zav z = some zs) : z.cells.size = zs.length ∧ ∀ j, j < zs.length → VR w S σ (zs.getD j .any) (z.cells.getD j undef) ∧ (z.cells.getD j undef).oneCell' = true := by
  unfold zav at h
  have key : ∀ (l : List Value) (zs : List AV), l.mapM (fun x => ev [] (.const x)) = some zs → l.length = zs.length ∧ ∀ j, j < zs.length → VR w S σ (zs.getD j .any) (l.getD j undef) ∧ (l.getD j undef).oneCell' = true := by
    intro l
    induction l with
    | nil => intro zs h; simp at h; subst h; exact ⟨rfl, fun j hj => by simp at hj⟩
    | cons x r ih =>
      intro zs h
      simp only [List.mapM_cons] at h
      cases h1 : ev [] (.const x) with
      | none => simp [h1] at h
      | some y =>
        cases h2 : r.mapM (fun x => ev [] (.const x)) with
        | none => simp [h1, h2] at h
        | some ys =>
          simp [h1, h2] at h
          subst h
          obtain ⟨i1, i2⟩ := ih ys h2
          refine ⟨by simp [i1], fun j hj => ?_⟩
          cases j with
          | zero => exact vr_const h1
          | succ j => simpa using i2 j (by simpa using hj)
  obtain ⟨k1, k2⟩ := key _ _ h
  refine ⟨by simpa using k1, fun j hj => ?_⟩
  have := k2 j hj
  have e : z.cells.toList.getD j undef = z.cells.getD j undef := by
    have hlt : j < z.cells.size := by simp at k1; omega
    simp [List.getD, Array.getD, hlt]
  rwa [e] at this

/-- make([]T, n) -/
def zeroCellsOf (n : Nat) : List AV → Cells
  | [.int k 0] => .ints k (List.replicate n 0)
  | [.str []] => .strs (List.replicate n [])
  | zs => .fn n zs.length (fun _ j => zs.getD j .any)

theorem zeroCellsOf_spec (n : Nat) (zs : List AV) : (zeroCellsOf n zs).len = n ∧ (zeroCellsOf n zs).sz = zs.length ∧ ∀ i j, i < n → j < zs.length → (zeroCellsOf n zs).at i j = zs.getD j .any := by
  unfold zeroCellsOf
  split
  · refine ⟨by simp [Cells.len], rfl, fun i j hi hj => ?_⟩
    simp only [List.length_cons, List.length_nil] at hj
    have : j = 0 := by omega
    subst this
    simp [Cells.at, List.getD, hi]
  · refine ⟨by simp [Cells.len], rfl, fun i j hi hj => ?_⟩
    simp only [List.length_cons, List.length_nil] at hj
    have : j = 0 := by omega
    subst this
    simp [Cells.at, List.getD, hi]
  · exact ⟨rfl, rfl, fun i j hi hj => rfl⟩

theorem getElem?_madeCells (z : Array Value) (n s : Nat) (hs : z.size = s) (i j : Nat) (hi : i < n) (hj : j < s) : (madeCells z (n * s))[i * s + j]? = some (z.getD j undef) := by
  have hlt : i * s + j < n * s := by
    have : (i + 1) * s ≤ n * s := Nat.mul_le_mul_right _ (by omega)
    rw [Nat.add_mul] at this; omega
  have hm : (i * s + j) % s = j := by rw [Nat.mul_comm, Nat.mul_add_mod]; exact Nat.mod_eq_of_lt hj
  subst hs
  simp [madeCells, hlt, hm, Array.getD, hj]

theorem ax_make {all : Array Oper} {d : Nat} {t e : TypeId} {x y : Operand} {ty : TypeId} {pos : String} {after : Array Edge} {rest : List Oper} {inf : TypeInfo} {z : Value} {zs : List AV} {n m : Int} {k1 k2 : IntKind}
    (ht : P.underlying t = some (.slice e)) (hi : P.info? e = some inf) (hz : inf.zero = some z) (hsz : inf.size = zs.length) (hzs : zav z = some zs) (hpos : Nat.blt 0 zs.length = true)
    (hx : ev fr x = some (.int k1 n)) (hy : ev fr y = some (.int k2 m)) (hb : 0 ≤ n ∧ n ≤ m ∧ (inf.bytes : Int) * m ≤ 281474976710656 ∧ m ≤ 9223372036854775807)
    (hk : Ax P fn c (.ops false all rest k) ((d, .sl H.length 0 n.toNat) :: fr) (H ++ [some ⟨e, zeroCellsOf m.toNat zs⟩])) : Ax P fn c (.ops false all (⟨some d, .makeSlice t x y, ty, pos, after, none⟩ :: rest) k) fr H := by
  refine ax_w (fun w a σ S hr => ?_) hk
  obtain ⟨z1, z2, z3⟩ := zeroCellsOf_spec m.toNat zs
  obtain ⟨y1, y2⟩ := zav_spec (w := w) (S := S) (σ := σ) hzs
  have hrun := run_make (P := P) w t e inf z ht hi hz k1 k2 n m hb.1 hb.2.1 hb.2.2.1 hb.2.2.2
  have hpos' : 0 < zs.length := Nat.le_of_ble_eq_true hpos
  refine ⟨.slice (some ⟨w.heap.size, 0, none⟩) n.toNat m.toNat, _, _, S, ?_, hr.alloc (o := ⟨e, zeroCellsOf m.toNat zs⟩) (C := m.toNat) (cur := madeCells z.cells (m.toNat * inf.size)) (by simp [z1]) (by unfold maxLen; omega) (by simp [z2, size_madeCells, hsz]) (fun i j hi hj => ?_), ?_⟩
  · rotate_left
    · simp [execOp, hr.evInt hx, hr.evInt hy, hrun]
  · simp only [z1] at hi
    simp only [z2] at hj ⊢
    rw [hsz, getElem?_madeCells z.cells m.toNat zs.length y1 i j hi hj, z3 i j hi hj]
    exact ⟨_, rfl, (y2 j hj).1, (y2 j hj).2⟩
  · have := VR.sl (w := w.alloc (.cells (madeCells z.cells (m.toNat * inf.size)) e (0, 0))) (S := S) (upσ σ H.length (.at w.heap.size zs.length m.toNat)) H.length 0 n.toNat w.heap.size zs.length m.toNat m.toNat (by simp [upσ]) (by omega) (by omega)
    simpa [z2] using this
end
end Go.Ax
