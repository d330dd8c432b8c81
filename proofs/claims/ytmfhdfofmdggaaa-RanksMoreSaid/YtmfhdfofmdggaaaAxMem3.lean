/-
  Rules: composites, boxes, append.
-/
import Derived.Test.YtmfhdfofmdggaaaAxMem2
set_option linter.unusedVariables false
set_option linter.unusedSimpArgs false
namespace Go.Ax
open Go.RowKit

/-- A row of values and what they stand for. -/
def Arr (w : World) (S : Nat → Prop) (σ : Nat → Option Blk) (cs : Array Value) (L : List AV) : Prop :=
  cs.size = L.length ∧ ∀ j, j < L.length → VR w S σ (L.getD j .any) (cs.getD j undef) ∧ (cs.getD j undef).oneCell' = true

/-- The cells of a value. -/
def AV.cellsA : AV → Option (List AV)
  | .agg l => some l
  | .tup _ => none
  | .any => none
  | v => some [v]

theorem arr_cells {w : World} {S : Nat → Prop} {σ : Nat → Option Blk} {v : AV} {x : Value} {L : List AV} (h : VR w S σ v x) (hc : v.cellsA = some L) : Arr w S σ x.cells L := by
  have one : v.cellsA = some [v] → v.one = true → Arr w S σ x.cells L := by
    intro h1 h2
    rw [h1] at hc
    simp only [Option.some.injEq] at hc
    subst hc
    have h3 := h.one h2
    have hcells : x.cells = #[x] := by cases x <;> first | rfl | cases h3
    rw [hcells]
    refine ⟨rfl, fun j hj => ?_⟩
    simp only [List.length_cons, List.length_nil] at hj
    have : j = 0 := by omega
    subst this
    exact ⟨h, h3⟩
  cases h with
  | agg _ l vs hl hv h1 =>
    simp only [AV.cellsA, Option.some.injEq] at hc
    subst hc
    exact ⟨hl, fun j hj => ⟨hv j hj, h1 j hj⟩⟩
  | tup => simp [AV.cellsA] at hc
  | any => simp [AV.cellsA] at hc
  | _ => exact one rfl rfl

def setSeg (L : List AV) (o : Nat) : List AV → List AV
  | [] => L
  | v :: r => setSeg (L.set o v) (o + 1) r

theorem length_setSeg (L : List AV) (o : Nat) (l : List AV) : (setSeg L o l).length = L.length := by
  induction l generalizing L o with
  | nil => rfl
  | cons v r ih => simp [setSeg, ih]

theorem arr_set {w : World} {S : Nat → Prop} {σ : Nat → Option Blk} {cs : Array Value} {L : List AV} {o : Nat} {v : AV} {x : Value} (h : Arr w S σ cs L) (hv : VR w S σ v x) (h1 : x.oneCell' = true) : Arr w S σ (cs.setIfInBounds o x) (L.set o v) := by
  refine ⟨by simp [h.1], fun j hj => ?_⟩
  have hj' : j < L.length := by simpa using hj
  by_cases he : o = j
  · subst he
    have : o < cs.size := by rw [h.1]; exact hj'
    simp only [List.getD, List.getElem?_set_self hj', Option.getD_some]
    simp [this, hv, h1]
  · obtain ⟨a, b⟩ := h.2 j hj'
    simp only [List.getD, List.getElem?_set_ne he]
    have e : (cs.setIfInBounds o x).getD j undef = cs.getD j undef := by simp [Array.getElem?_setIfInBounds_ne he]
    rw [e]
    exact ⟨by simpa [List.getD] using a, b⟩

theorem arr_seg {w : World} {S : Nat → Prop} {σ : Nat → Option Blk} {o : Nat} : ∀ (xs : List Value) (l : List AV) (k : Nat) (cs : Array Value) (L : List AV), Arr w S σ cs L → xs.length = l.length →
    (∀ j, j < l.length → VR w S σ (l.getD j .any) (xs.getD j undef) ∧ (xs.getD j undef).oneCell' = true) →
    Arr w S σ ((xs.zipIdx k).foldl (fun cs (c, j) => cs.setIfInBounds (o + j) c) cs) (setSeg L (o + k) l)
  | [], [], _, cs, L, h, _, _ => h
  | x :: xs, v :: l, k, cs, L, h, hl, hv => by
    simp only [List.zipIdx_cons, List.foldl_cons, setSeg]
    have h0 := hv 0 (by simp)
    exact arr_seg xs l (k + 1) _ _ (arr_set h (by simpa using h0.1) (by simpa using h0.2)) (by simpa using hl) (fun j hj => by simpa using hv (j + 1) (by simpa using hj))
  | [], _ :: _, _, _, _, _, hl, _ => by simp at hl
  | _ :: _, [], _, _, _, _, hl, _ => by simp at hl

def PV (w : World) (S : Nat → Prop) (σ : Nat → Option Blk) : List (Nat × AV) → List (Nat × Value) → Prop
  | [], [] => True
  | (i, v) :: r, (i', x) :: r' => i = i' ∧ VR w S σ v x ∧ PV w S σ r r'
  | _, _ => False

def fillA (place : Nat → Option (Nat × Nat)) (L : List AV) : List (Nat × AV) → Option (List AV)
  | [] => some L
  | (i, v) :: r =>
    match place i with
    | none => none
    | some (o, s) =>
      match v.cellsA with
      | none => none
      | some l => bif Nat.beq l.length s && Nat.ble (o + s) L.length then fillA place (setSeg L o l) r else none

theorem fill_spec {w : World} {S : Nat → Prop} {σ : Nat → Option Blk} {place : Nat → Option (Nat × Nat)} : ∀ (ps : List (Nat × AV)) (qs : List (Nat × Value)) (cs : Array Value) (L L' : List AV), Arr w S σ cs L →
    PV w S σ ps qs → fillA place L ps = some L' → ∃ cs', Instr.fill place cs qs = some cs' ∧ Arr w S σ cs' L'
  | [], _ :: _, cs, L, L', h, hf, he => hf.elim
  | _ :: _, [], cs, L, L', h, hf, he => hf.elim
  | [], [], cs, L, L', h, hf, he => by
    simp only [fillA, Option.some.injEq] at he
    subst he
    exact ⟨cs, rfl, h⟩
  | (i, v) :: ps, (i', x) :: qs, cs, L, L', h, hf, he => by
      obtain ⟨e1, h1, h2⟩ := hf
      subst e1
      simp only [fillA] at he
      cases hp : place i with
      | none => simp [hp] at he
      | some os =>
        obtain ⟨o, s⟩ := os
        simp only [hp] at he
        cases hc : v.cellsA with
        | none => simp [hc] at he
        | some l =>
          simp only [hc] at he
          cases hb : (Nat.beq l.length s && Nat.ble (o + s) L.length) with
          | false => simp [hb] at he
          | true =>
            simp only [hb, cond_true] at he
            simp only [Bool.and_eq_true] at hb
            have b1 : l.length = s := Nat.eq_of_beq_eq_true hb.1
            have b2 : o + s ≤ L.length := Nat.le_of_ble_eq_true hb.2
            have ha := arr_cells h1 hc
            have hsz : x.cells.size = s := by rw [ha.1, b1]
            have hn : ¬ ((x.cells.size ≠ s || o + x.cells.size > cs.size) = true) := by
              rw [hsz, h.1]
              simp
              omega
            have harr : Arr w S σ (x.cells.zipIdx.foldl (fun cs (c, j) => cs.setIfInBounds (o + j) c) cs) (setSeg L o l) := by
              rw [← Array.foldl_toList, Array.toList_zipIdx]
              refine arr_seg (o := o) x.cells.toList l 0 cs L h (by simpa using ha.1) (fun j hj => ?_)
              have e : x.cells.toList.getD j undef = x.cells.getD j undef := by
                have hlt : j < x.cells.size := by rw [ha.1]; exact hj
                simp [List.getD, Array.getD, hlt]
              rw [e]
              exact ha.2 j hj
            obtain ⟨cs', g1, g2⟩ := fill_spec ps qs _ _ L' harr h2 he
            refine ⟨cs', ?_, g2⟩
            simp only [Instr.fill, hp]
            rw [if_neg hn]
            exact g1

section
variable {P : Program} {fn : Func} {c : Ctx} {fr : Fr} {H : AHeap} {k : List It}

def evParts (fr : Fr) : List (Nat × Operand) → Option (List (Nat × AV))
  | [] => some []
  | (i, x) :: r => match ev fr x with
    | some v => match evParts fr r with
      | some l => some ((i, v) :: l)
      | none => none
    | none => none

theorem evParts_spec {w : World} {a : Act} {σ : Nat → Option Blk} {S : Nat → Prop} {n : Nat} (hr : Rep c w a σ S n fr H) : ∀ (ps : List (Nat × Operand)) (l : List (Nat × AV)), evParts fr ps = some l →
    PV w S σ l (ps.map fun (i, x) => (i, a.eval x))
  | [], l, h => by simp [evParts] at h; subst h; exact trivial
  | (i, x) :: r, l, h => by
    simp only [evParts] at h
    cases h1 : ev fr x with
    | none => simp [h1] at h
    | some v =>
      cases h2 : evParts fr r with
      | none => simp [h1, h2] at h
      | some l' =>
        simp [h1, h2] at h
        subst h
        exact ⟨rfl, hr.evAt h1, evParts_spec hr r l' h2⟩

/-- The places of a struct's or an array's parts. -/
def placesOf (P : Program) (t : TypeId) : Option (Nat → Option (Nat × Nat)) :=
  match P.underlying t with
  | some (.array _ e) => match P.info? e with
    | some ie => some (fun i => some (i * ie.size, ie.size))
    | none => none
  | some (.struct fields) => match fields.toList.mapM (fun f => (P.info? f.type).map fun i => (f.offset, i.size)) with
    | some places => some (places.toArray[·]?)
    | none => none
  | _ => none

/-- A struct's or an array's value. -/
theorem q_build {ind : Bool} {d : Option Nat} {ty : TypeId} {pos : String} {after : Array Edge} {g : Option (Nat × Bool)} {t : TypeId} {parts : List (Nat × Operand)} {it : TypeInfo} {z : Value} {zs L : List AV} {l : List (Nat × AV)} {pl : Nat → Option (Nat × Nat)}
    (hi : P.info? t = some it) (hz : it.zero = some z) (hzs : zav z = some zs) (hpl : placesOf P t = some pl) (hl : evParts fr parts = some l) (hf : fillA pl zs l = some L) :
    QOp ind P fn c fr H ⟨d, .build t parts.toArray, ty, pos, after, g⟩ (.agg L) := by
  intro w a σ S hr
  obtain ⟨y1, y2⟩ := zav_spec (w := w) (S := S) (σ := σ) hzs
  obtain ⟨cs', g1, g2⟩ := fill_spec l _ z.cells zs L ⟨y1, y2⟩ (evParts_spec hr parts l hl) hf
  refine ⟨.agg cs', .agg _ _ _ g2.1 (fun i hi => (g2.2 i hi).1) (fun i hi => (g2.2 i hi).2), fun w' _ => ?_⟩
  have hb : P.built t ((parts.toArray.map fun (i, x) => (i, a.eval x)).toList) = some cs' := by
    have e : (parts.toArray.map fun (i, x) => (i, a.eval x)).toList = parts.map fun (i, x) => (i, a.eval x) := by simp
    rw [e]
    unfold placesOf at hpl
    unfold Program.built
    cases hu : P.underlying t with
    | none => simp [hu] at hpl
    | some u =>
      cases u with
      | array nn e' =>
        simp only [hu] at hpl
        cases he : P.info? e' with
        | none => simp [he] at hpl
        | some ie =>
          simp only [he, Option.some.injEq] at hpl
          subst hpl
          simp only [hi, hz, he]
          exact g1
      | struct fields =>
        simp only [hu] at hpl
        cases he : fields.toList.mapM (fun f => (P.info? f.type).map fun i => (f.offset, i.size)) with
        | none => simp [he] at hpl
        | some places =>
          simp only [he, Option.some.injEq] at hpl
          subst hpl
          simp only [hi, hz, he]
          exact g1
      | _ => simp [hu] at hpl
  have hrun := run_build (P := P) w' t (parts.toArray.map fun (i, x) => (i, a.eval x)) cs' hb
  simp only [execOp, Sem.run_bind, hrun, Result.andThen_ok]
  rfl

/-- What a row of cells is, by its cells' kind. -/
def asInts : List AV → Option (IntKind × List Int)
  | [] => none
  | [.int k n] => some (k, [n])
  | .int k n :: r => match asInts r with
    | some (k', l) => match k, k' with
      | .i64, .i64 => some (k, n :: l)
      | .u8, .u8 => some (k, n :: l)
      | .u64, .u64 => some (k, n :: l)
      | .i32, .i32 => some (k, n :: l)
      | .u32, .u32 => some (k, n :: l)
      | _, _ => none
    | none => none
  | _ => none
def asStrs : List AV → Option (List (List UInt8))
  | [] => none
  | [.str n] => some [n]
  | .str n :: r => match asStrs r with
    | some l => some (n :: l)
    | none => none
  | _ => none

theorem asInts_spec : ∀ (L : List AV) (k : IntKind) (l : List Int), asInts L = some (k, l) → L = l.map (AV.int k)
  | [], k, l, h => by simp [asInts] at h
  | [v], k, l, h => by
    cases v <;> simp [asInts] at h
    obtain ⟨rfl, rfl⟩ := h
    rfl
  | v :: v2 :: r, k, l, h => by
    cases v <;> simp only [asInts] at h <;> try (cases h; done)
    rename_i k0 n
    cases h1 : asInts (v2 :: r) with
    | none => simp [h1] at h
    | some kl =>
      obtain ⟨k', l'⟩ := kl
      have ih := asInts_spec (v2 :: r) k' l' h1
      simp only [h1] at h
      cases k0 <;> cases k' <;> simp at h <;> (obtain ⟨rfl, rfl⟩ := h; simp [ih])

theorem asStrs_spec : ∀ (L : List AV) (l : List (List UInt8)), asStrs L = some l → L = l.map AV.str
  | [], l, h => by simp [asStrs] at h
  | [v], l, h => by
    cases v <;> simp [asStrs] at h
    subst h
    rfl
  | v :: v2 :: r, l, h => by
    cases v <;> simp only [asStrs] at h <;> try (cases h; done)
    cases h1 : asStrs (v2 :: r) with
    | none => simp [h1] at h
    | some l' =>
      have ih := asStrs_spec (v2 :: r) l' h1
      simp [h1] at h
      subst h
      simp [ih]

def rowOf (n s : Nat) (L : List AV) : Cells :=
  match asInts L with
  | some (k, l) => bif Nat.beq s 1 && Nat.beq l.length n then .ints k l else .fn n s (fun i j => L.getD (i * s + j) .any)
  | none => match asStrs L with
    | some l => bif Nat.beq s 1 && Nat.beq l.length n then .strs l else .fn n s (fun i j => L.getD (i * s + j) .any)
    | none => .fn n s (fun i j => L.getD (i * s + j) .any)

theorem rowOf_spec (n s : Nat) (L : List AV) : (rowOf n s L).len = n ∧ (rowOf n s L).sz = s ∧ ∀ i j, i < n → j < s → (rowOf n s L).at i j = L.getD (i * s + j) .any := by
  unfold rowOf
  cases h : asInts L with
  | some kl =>
    obtain ⟨k, l⟩ := kl
    simp only
    cases hb : (Nat.beq s 1 && Nat.beq l.length n) with
    | false => exact ⟨rfl, rfl, fun _ _ _ _ => rfl⟩
    | true =>
      simp only [Bool.and_eq_true] at hb
      have b1 := Nat.eq_of_beq_eq_true hb.1
      have b2 := Nat.eq_of_beq_eq_true hb.2
      have hL := asInts_spec L k l h
      subst b1 b2
      refine ⟨rfl, rfl, fun i j hi hj => ?_⟩
      have : j = 0 := by omega
      subst this
      subst hL
      simp [Cells.at, List.getD, hi]
  | none =>
    cases h2 : asStrs L with
    | none => exact ⟨rfl, rfl, fun _ _ _ _ => rfl⟩
    | some l =>
      simp only
      cases hb : (Nat.beq s 1 && Nat.beq l.length n) with
      | false => exact ⟨rfl, rfl, fun _ _ _ _ => rfl⟩
      | true =>
        simp only [Bool.and_eq_true] at hb
        have b1 := Nat.eq_of_beq_eq_true hb.1
        have b2 := Nat.eq_of_beq_eq_true hb.2
        have hL := asStrs_spec L l h2
        subst b1 b2
        refine ⟨rfl, rfl, fun i j hi hj => ?_⟩
        have : j = 0 := by omega
        subst this
        subst hL
        simp [Cells.at, List.getD, hi]

/-- n copies of a row. -/
def copies (zs : List AV) : Nat → List AV
  | 0 => []
  | n + 1 => zs ++ copies zs n

theorem length_copies (zs : List AV) (n : Nat) : (copies zs n).length = n * zs.length := by
  induction n with
  | zero => simp [copies]
  | succ n ih => simp [copies, ih, Nat.add_mul]; omega

theorem getD_copies (zs : List AV) (hz : 0 < zs.length) (n : Nat) : ∀ j, j < n * zs.length → (copies zs n).getD j .any = zs.getD (j % zs.length) .any := by
  induction n with
  | zero => intro j hj; simp at hj
  | succ n ih =>
    intro j hj
    rw [Nat.add_mul] at hj
    by_cases h : j < zs.length
    · rw [Nat.mod_eq_of_lt h]
      simp [copies, List.getD, List.getElem?_append, h]
    · have e : j % zs.length = (j - zs.length) % zs.length := by
        have : j = zs.length + (j - zs.length) := by omega
        rw [this, Nat.add_mod_left]; simp
      rw [e, ← ih (j - zs.length) (by omega)]
      simp [copies, List.getD, List.getElem?_append, h]

/-- The cells of a slice literal. -/
theorem buildSlice_run {t e : TypeId} {n : Nat} {parts : List (Nat × Operand)} {it : TypeInfo} {z : Value} {zs L : List AV} {l : List (Nat × AV)}
    (ht : P.underlying t = some (.slice e)) (hi : P.info? e = some it) (hz : it.zero = some z) (hzs : zav z = some zs) (hsz : it.size = zs.length) (hpos : Nat.blt 0 zs.length = true) (hsmall : Nat.ble (n * zs.length) 16777216 = true)
    (hl : evParts fr parts = some l) (hf : fillA (fun i => some (i * zs.length, zs.length)) (copies zs n) l = some L) {w : World} {a : Act} {σ : Nat → Option Blk} {S : Nat → Prop} (hr : Rep c w a σ S fn.ntmps fr H) :
    ∃ cs, Arr w S σ cs L ∧ cs.size = n * zs.length ∧ (Instr.buildSlice t n (parts.toArray.map fun (i, x) => (i, a.eval x))).run P w = .ok (.slice (some ⟨w.heap.size, 0, none⟩) n n) (w.alloc (.cells cs e (0, 0))) := by
  obtain ⟨y1, y2⟩ := zav_spec (w := w) (S := S) (σ := σ) hzs
  have hpos' : 0 < zs.length := Nat.le_of_ble_eq_true hpos
  have hsmall' : n * zs.length ≤ 16777216 := Nat.le_of_ble_eq_true hsmall
  have h0 : Arr w S σ ((Array.range (n * zs.length)).map (z.cells[· % z.cells.size]!)) (copies zs n) := by
    refine ⟨by simp [length_copies], fun j hj => ?_⟩
    rw [length_copies] at hj
    rw [getD_copies zs hpos' n j hj]
    have hm : j % zs.length < zs.length := Nat.mod_lt _ hpos'
    have e1 : ((Array.range (n * zs.length)).map (z.cells[· % z.cells.size]!)).getD j undef = z.cells.getD (j % zs.length) undef := by
      rw [y1]
      have : j % zs.length < z.cells.size := by rw [y1]; exact hm
      simp [Array.getD, hj, this]
    rw [e1]
    exact y2 _ hm
  obtain ⟨cs, g1, g2⟩ := fill_spec l _ _ (copies zs n) L h0 (evParts_spec hr parts l hl) hf
  have hL : L.length = n * zs.length := by
    have key : ∀ (ps : List (Nat × AV)) (M M' : List AV), fillA (fun i => some (i * zs.length, zs.length)) M ps = some M' → M'.length = M.length := by
      intro ps
      induction ps with
      | nil => intro M M' h; simp [fillA] at h; rw [h]
      | cons p r ih =>
        intro M M' h
        obtain ⟨i, v⟩ := p
        simp only [fillA] at h
        cases hc : v.cellsA with
        | none => simp [hc] at h
        | some l =>
          simp only [hc] at h
          cases hb : (Nat.beq l.length zs.length && Nat.ble (i * zs.length + zs.length) M.length) with
          | false => simp [hb] at h
          | true =>
            simp only [hb, cond_true] at h
            rw [ih _ _ h, length_setSeg]
    rw [key l _ L hf, length_copies]
  refine ⟨cs, g2, by rw [g2.1, hL], ?_⟩
  have hns : ¬ (16777216 < n * zs.length) := by omega
  have g1' : Instr.fill (fun i => some (i * zs.length, zs.length)) ((Array.range (n * zs.length)).map (z.cells[· % z.cells.size]!)) (parts.map fun (i, x) => (i, a.eval x)) = some cs := g1
  by_cases hn0 : n * zs.length = 0
  · have e0 : ∀ f : Nat → Value, Array.map f (Array.range 0) = #[] := fun f => by apply Array.eq_empty_of_size_eq_zero; simp
    rw [hn0, e0] at g1'
    simp [Instr.buildSlice, run_underlying ht, sizeOf, typeInfo, hi, hsz, hn0, e0, g1', newRow, newObj, Sem.run]
  · simp [Instr.buildSlice, run_underlying ht, sizeOf, typeInfo, hi, hsz, hn0, hns, zeroValue, hz, g1', newRow, newObj, Sem.run]

/-- A slice literal that is written later: an object of one's own. -/
theorem ax_buildSlice {all : Array Oper} {d : Nat} {t e : TypeId} {n : Nat} {parts : List (Nat × Operand)} {ty : TypeId} {pos : String} {after : Array Edge} {rest : List Oper} {it : TypeInfo} {z : Value} {zs L : List AV} {l : List (Nat × AV)} {cl : Cells}
    (ht : P.underlying t = some (.slice e)) (hi : P.info? e = some it) (hz : it.zero = some z) (hzs : zav z = some zs) (hsz : it.size = zs.length) (hpos : Nat.blt 0 zs.length = true) (hsmall : Nat.ble (n * zs.length) 16777216 = true)
    (hl : evParts fr parts = some l) (hf : fillA (fun i => some (i * zs.length, zs.length)) (copies zs n) l = some L) (hcl : rowOf n zs.length L = cl)
    (hk : Ax P fn c (.ops false all rest k) ((d, .sl H.length 0 n) :: fr) (H ++ [some ⟨e, cl⟩])) : Ax P fn c (.ops false all (⟨some d, .buildSlice t n parts.toArray, ty, pos, after, none⟩ :: rest) k) fr H := by
  refine ax_w (fun w a σ S hr => ?_) hk
  subst hcl
  obtain ⟨z1, z2, z3⟩ := rowOf_spec n zs.length L
  obtain ⟨cs, g1, g2, g3⟩ := buildSlice_run ht hi hz hzs hsz hpos hsmall hl hf hr
  have hn : n ≤ n * zs.length := Nat.le_mul_of_pos_right n (Nat.le_of_ble_eq_true hpos)
  have hs' : n * zs.length ≤ 16777216 := Nat.le_of_ble_eq_true hsmall
  refine ⟨.slice (some ⟨w.heap.size, 0, none⟩) n n, _, _, S, ?_, hr.alloc (o := ⟨e, rowOf n zs.length L⟩) (C := n) (cur := cs) (by simp [z1]) (by unfold maxLen; omega) (by rw [z2]; exact g2) (fun i j hi hj => ?_), ?_⟩
  · simp only [execOp, Sem.run_bind, g3, Result.andThen_ok]
    rfl
  · simp only [z1] at hi
    simp only [z2] at hj ⊢
    have hlt : i * zs.length + j < L.length := by
      rw [← g1.1, g2]
      have : (i + 1) * zs.length ≤ n * zs.length := Nat.mul_le_mul_right _ (by omega)
      rw [Nat.add_mul] at this; omega
    obtain ⟨a1, a2⟩ := g1.2 _ hlt
    rw [z3 i j hi hj]
    refine ⟨cs.getD (i * zs.length + j) undef, ?_, a1, a2⟩
    have : i * zs.length + j < cs.size := by rw [g1.1]; exact hlt
    simp [Array.getD, this]
  · have := VR.sl (w := w.alloc (.cells cs e (0, 0))) (S := S) (upσ σ H.length (.at w.heap.size zs.length n)) H.length 0 n w.heap.size zs.length n n (by simp [upσ]) (by omega) (by omega)
    simpa [z2] using this

/-- No object is named. -/
def noRef : AV → Bool
  | .sl _ _ _ => false
  | .ptr _ _ _ => false
  | .fn _ l => noRefs l
  | .agg l => noRefs l
  | .tup l => noRefs l
  | _ => true
where noRefs : List AV → Bool
  | [] => true
  | v :: r => noRef v && noRefs r

theorem noRefs_get {l : List AV} (h : noRef.noRefs l = true) (i : Nat) (hi : i < l.length) : noRef (l.getD i .any) = true := by
  induction l generalizing i with
  | nil => simp at hi
  | cons v r ih =>
    simp only [noRef.noRefs, Bool.and_eq_true] at h
    cases i with
    | zero => simpa using h.1
    | succ i => simpa using ih h.2 i (by simpa using hi)

theorem VR.closed {w : World} {S : Nat → Prop} {σ : Nat → Option Blk} {x : AV} {v : Value} (h : VR w S σ x v) : noRef x = true → ∀ σ', VR w S σ' x v := by
  induction h with
  | int => intros; constructor
  | bool => intros; constructor
  | str => intros; constructor
  | nil => intros; constructor
  | ro0 => intros; constructor
  | ro σ c i len b o cap val hSb hlen hc hv h1 ih => intro _ σ'; exact .ro _ _ _ _ _ _ _ val hSb hlen hc hv h1
  | sl => intro h; cases h
  | sl0 => intro h; cases h
  | rp σ c i j b o val hSb hc hv h1 ih => intro _ σ'; exact .rp _ _ _ _ _ _ val hSb hc hv h1
  | ptr => intro h; cases h
  | nilp => intros; constructor
  | fn σ f cap vs hl hv ih => intro hn σ'; exact .fn _ _ _ _ hl (fun i hi => ih i hi (noRefs_get hn i hi) _)
  | nilfn => intros; constructor
  | agg σ l vs hl hv h1 ih => intro hn σ'; exact .agg _ _ _ hl (fun i hi => ih i hi (noRefs_get hn i hi) _) h1
  | tup σ l vs hl hv ih => intro hn σ'; exact .tup _ _ _ hl (fun i hi => ih i hi (noRefs_get hn i hi) _)
  | any => intros; constructor

/-- A slice literal that nobody writes. -/
theorem ax_buildSliceRo {all : Array Oper} {d : Nat} {t e : TypeId} {n : Nat} {parts : List (Nat × Operand)} {ty : TypeId} {pos : String} {after : Array Edge} {rest : List Oper} {it : TypeInfo} {z : Value} {zs L : List AV} {l : List (Nat × AV)} {cl : Cells}
    (ht : P.underlying t = some (.slice e)) (hi : P.info? e = some it) (hz : it.zero = some z) (hzs : zav z = some zs) (hsz : it.size = zs.length) (hpos : Nat.blt 0 zs.length = true) (hsmall : Nat.ble (n * zs.length) 16777216 = true)
    (hl : evParts fr parts = some l) (hf : fillA (fun i => some (i * zs.length, zs.length)) (copies zs n) l = some L) (hcl : rowOf n zs.length L = cl) (hn : noRef.noRefs L = true)
    (hk : Ax P fn c (.ops false all rest k) ((d, .ro cl 0 n) :: fr) H) : Ax P fn c (.ops false all (⟨some d, .buildSlice t n parts.toArray, ty, pos, after, none⟩ :: rest) k) fr H := by
  refine ax_w (fun w a σ S hr => ?_) hk
  subst hcl
  obtain ⟨z1, z2, z3⟩ := rowOf_spec n zs.length L
  obtain ⟨cs, g1, g2, g3⟩ := buildSlice_run ht hi hz hzs hsz hpos hsmall hl hf hr
  have hat : ∀ d j, d < n → j < zs.length → (w.alloc (.cells cs e (0, 0))).cell? ⟨w.heap.size, 0 + d * zs.length + j, none⟩ = some (cs.getD (d * zs.length + j) undef) ∧ VR w S σ (L.getD (d * zs.length + j) .any) (cs.getD (d * zs.length + j) undef) ∧ (cs.getD (d * zs.length + j) undef).oneCell' = true ∧ d * zs.length + j < L.length := by
    intro d j hd hj
    have hlt : d * zs.length + j < L.length := by
      rw [← g1.1, g2]
      have : (d + 1) * zs.length ≤ n * zs.length := Nat.mul_le_mul_right _ (by omega)
      rw [Nat.add_mul] at this; omega
    obtain ⟨a1, a2⟩ := g1.2 _ hlt
    have h3 : d * zs.length + j < cs.size := by rw [g1.1]; exact hlt
    refine ⟨?_, a1, a2, hlt⟩
    have := heap_alloc_new w (.cells cs e (0, 0))
    unfold World.cell?
    simp only [this]
    simp [Array.getD, h3]
  refine ⟨.slice (some ⟨w.heap.size, 0, none⟩) n n, _, σ, _, ?_, hr.allocRo (.cells cs e (0, 0)), ?_⟩
  · simp only [execOp, Sem.run_bind, g3, Result.andThen_ok]
    rfl
  · refine .ro _ _ _ _ _ _ _ (fun d j => cs.getD (d * zs.length + j) undef) (.inr rfl) (Nat.le_refl _) (fun d j hd hj => ?_) (fun d j hd hj => ?_) (fun d j hd hj => ?_)
    · rw [z2] at hj ⊢
      exact (hat d j hd hj).1
    · rw [z2] at hj
      rw [Nat.zero_add, z3 d j hd hj]
      obtain ⟨_, h2, _, h4⟩ := hat d j hd hj
      have h5 := h2.closed (noRefs_get hn _ h4) (fun _ => none)
      exact h5.mono (fun _ h => .inl h) (fun b hb => Below.heap_alloc _ _ b (hr.hr.small b hb)) _ (fun _ _ h => h)
    · rw [z2] at hj
      exact (hat d j hd hj).2.2.1
end
end Go.Ax
