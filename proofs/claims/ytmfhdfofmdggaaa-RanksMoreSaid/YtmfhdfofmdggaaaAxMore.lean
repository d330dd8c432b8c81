/-
  More rules: nil slices, slicing, boxes, objects given up, aggregates, strings.
-/
import Derived.Test.YtmfhdfofmdggaaaAxLift2
import Derived.WalkSpells
set_option linter.unusedVariables false
set_option linter.unusedSimpArgs false
namespace Go.Ax
open Go.RowKit

section
variable {ind : Bool} {P : Program} {fn : Func} {c : Ctx} {fr : Fr} {H : AHeap} {k : List It}
variable {d : Option Nat} {ty : TypeId} {pos : String} {after : Array Edge} {g : Option (Nat × Bool)}

theorem q_index_ro' {x i : Operand} {t e : TypeId} {cl : Cells} {o len ix : Nat} {k : IntKind} {m : Int} (ht : P.underlying t = some (.slice e)) (hs : (P.info? e).map (·.size) = some cl.sz) (hx : ev fr x = some (.ro cl o len)) (hi : ev fr i = some (.int k m)) (hix : o + m.toNat = ix) (hb : 0 ≤ m ∧ m < len) :
    QOp ind P fn c fr H ⟨d, .indexAddr t x i, ty, pos, after, g⟩ (.rp cl ix 0) := hix ▸ q_index_ro ht hs hx hi hb
theorem q_index_sl' {x i : Operand} {t e : TypeId} {h o len ix : Nat} {ob : AObj} {k : IntKind} {m : Int} (ht : P.underlying t = some (.slice e)) (hx : ev fr x = some (.sl h o len)) (hh : H[h]? = some (some ob)) (hs : (P.info? e).map (·.size) = some ob.c.sz) (hi : ev fr i = some (.int k m)) (hix : o + m.toNat = ix) (hb : 0 ≤ m ∧ m < len) :
    QOp ind P fn c fr H ⟨d, .indexAddr t x i, ty, pos, after, g⟩ (.ptr h ix 0) := hix ▸ q_index_sl ht hx hh hs hi hb
theorem q_loadi_rp {x : Operand} {t : TypeId} {u : TypeDesc} {kk : IntKind} {l : List Int} {i : Nat} (ht : P.underlying t = some u) (hu : isAggD u = false) (hx : ev fr x = some (.rp (.ints kk l) i 0)) :
    QOp false P fn c fr H ⟨d, .load t x, ty, pos, after, g⟩ (.int kk (l.getD i 0)) := q_load_rp ht hu hx rfl rfl
theorem q_loads_rp {x : Operand} {t : TypeId} {u : TypeDesc} {l : List (List UInt8)} {i : Nat} (ht : P.underlying t = some u) (hu : isAggD u = false) (hx : ev fr x = some (.rp (.strs l) i 0)) :
    QOp false P fn c fr H ⟨d, .load t x, ty, pos, after, g⟩ (.str (l.getD i [])) := q_load_rp ht hu hx rfl rfl
theorem q_loadf_rp {x : Operand} {t : TypeId} {u : TypeDesc} {n s : Nat} {f : Nat → Nat → AV} {i j : Nat} (ht : P.underlying t = some u) (hu : isAggD u = false) (hx : ev fr x = some (.rp (.fn n s f) i j)) (hj : Nat.blt j s = true) :
    QOp false P fn c fr H ⟨d, .load t x, ty, pos, after, g⟩ (f i j) := q_load_rp ht hu hx hj rfl
theorem q_loadi_ptr {x : Operand} {t : TypeId} {u : TypeDesc} {h i : Nat} {oty : TypeId} {kk : IntKind} {l : List Int} (ht : P.underlying t = some u) (hu : isAggD u = false) (hx : ev fr x = some (.ptr h i 0)) (hh : H[h]? = some (some ⟨oty, .ints kk l⟩)) (hi : i < l.length) :
    QOp false P fn c fr H ⟨d, .load t x, ty, pos, after, g⟩ (.int kk (l.getD i 0)) := q_load_ptr ht hu hx hh rfl rfl hi
theorem q_loads_ptr {x : Operand} {t : TypeId} {u : TypeDesc} {h i : Nat} {oty : TypeId} {l : List (List UInt8)} (ht : P.underlying t = some u) (hu : isAggD u = false) (hx : ev fr x = some (.ptr h i 0)) (hh : H[h]? = some (some ⟨oty, .strs l⟩)) (hi : i < l.length) :
    QOp false P fn c fr H ⟨d, .load t x, ty, pos, after, g⟩ (.str (l.getD i [])) := q_load_ptr ht hu hx hh rfl rfl hi
theorem q_loadf_ptr {x : Operand} {t : TypeId} {u : TypeDesc} {h i j : Nat} {oty : TypeId} {n s : Nat} {f : Nat → Nat → AV} (ht : P.underlying t = some u) (hu : isAggD u = false) (hx : ev fr x = some (.ptr h i j)) (hh : H[h]? = some (some ⟨oty, .fn n s f⟩)) (hj : Nat.blt j s = true) (hi : i < n) :
    QOp false P fn c fr H ⟨d, .load t x, ty, pos, after, g⟩ (f i j) := q_load_ptr ht hu hx hh hj rfl hi
theorem q_loadb_ptr {x : Operand} {t : TypeId} {u : TypeDesc} {h j : Nat} {oty : TypeId} {l : List AV} {v : AV} (ht : P.underlying t = some u) (hu : isAggD u = false) (hx : ev fr x = some (.ptr h 0 j)) (hh : H[h]? = some (some ⟨oty, .box l⟩)) (hv : l[j]? = some v) :
    QOp false P fn c fr H ⟨d, .load t x, ty, pos, after, g⟩ v := by
  have hj : j < l.length := (List.getElem?_eq_some_iff.1 hv).1
  exact q_load_ptr ht hu hx hh (Nat.ble_eq_true_of_le hj) (by simp [Cells.at, List.getD, hv]) (by simp [Cells.len])

/-- A guard on a number's test that isn't known yet. -/
theorem ax_gsplit {q : Bool} {all : Array Oper} {d : Option Nat} {op : Op} {ty : TypeId} {pos : String} {after : Array Edge} {rest : List Oper} {j t : Nat} {p' : Bool} {p : Prop} {_ : Decidable p}
    (_hy : yslot all j = some t) (hb : look t fr = some (.bool (decide p))) (ht : p → Ax P fn c (.ops q all (⟨d, op, ty, pos, after, some (j, p')⟩ :: rest) k) ((t, .bool true) :: fr) H)
    (hf : ¬ p → Ax P fn c (.ops q all (⟨d, op, ty, pos, after, some (j, p')⟩ :: rest) k) ((t, .bool false) :: fr) H) : Ax P fn c (.ops q all (⟨d, op, ty, pos, after, some (j, p')⟩ :: rest) k) fr H :=
  ax_split_dec t hb ht hf
theorem ax_gsplitb {q : Bool} {all : Array Oper} {d : Option Nat} {op : Op} {ty : TypeId} {pos : String} {after : Array Edge} {rest : List Oper} {j t : Nat} {p' b : Bool}
    (_hy : yslot all j = some t) (hb : look t fr = some (.bool b)) (ht : b = true → Ax P fn c (.ops q all (⟨d, op, ty, pos, after, some (j, p')⟩ :: rest) k) ((t, .bool true) :: fr) H)
    (hf : b = false → Ax P fn c (.ops q all (⟨d, op, ty, pos, after, some (j, p')⟩ :: rest) k) ((t, .bool false) :: fr) H) : Ax P fn c (.ops q all (⟨d, op, ty, pos, after, some (j, p')⟩ :: rest) k) fr H :=
  ax_split t hb ht hf

theorem run_eqGuard_slice {op : BinOp} {t : TypeId} {x y : Operand} {a b : Option Addr} {m n m' n' : Nat} {w : World} : (eqGuard op t x y (.slice a m n) (.slice b m' n')).run P w = .ok () w := by
  unfold eqGuard
  split <;> rfl

/-- x == nil, x a slice that is read. -/
theorem ax_eqnil {all : Array Oper} {d : Nat} {x y : Operand} {t t' e : TypeId} {ty : TypeId} {pos : String} {after : Array Edge} {rest : List Oper} {cl : Cells} {i n : Nat} (ht : P.underlying t = some (.slice e)) (hx : ev fr x = some (.ro cl i n)) (hy : ev fr y = some .nil)
    (h : ∀ b : Bool, (b = true → n = 0) → Ax P fn c (.ops false all rest k) ((d, .bool b) :: fr) H) : Ax P fn c (.ops false all (⟨some d, .binOp .eql t x y t', ty, pos, after, none⟩ :: rest) k) fr H := by
  intro hd w a σ S hr
  obtain ⟨hd1, hd2⟩ := dsts_cons hd
  have h1 := hr.evAt hx
  have h2 := hr.evAt hy
  generalize hz : a.eval x = z at h1
  generalize hzy : a.eval y = zy at h2
  have key : ∃ b : Bool, (b = true → n = 0) ∧ (execOp a.eval ⟨some d, .binOp .eql t x y t', ty, pos, after, none⟩).run P w = .ok (.value (.bool b)) w := by
    cases h2
    cases h1 with
    | ro0 _ _ _ ad cap =>
      refine ⟨ad.isNone, fun _ => rfl, ?_⟩
      have hb := Lib.run_eql_slice_nil (P := P) w t e ad 0 cap 0 0 ht
      simp only [execOp, hz, hzy, Sem.run_bind, run_eqGuard_slice, Result.andThen_ok, hb]
      rfl
    | ro _ _ _ _ b o cap val hS hlen hc hv h1' =>
      refine ⟨false, (fun h => by cases h), ?_⟩
      have hb := Lib.run_eql_slice_nil (P := P) w t e (some ⟨b, o, none⟩) n cap 0 0 ht
      simp only [execOp, hz, hzy, Sem.run_bind, run_eqGuard_slice, Result.andThen_ok, hb]
      rfl
  obtain ⟨b, hb, hrun⟩ := key
  refine wpList_step (fun K hK => ?_)
  simp only [Region.wanted, if_true]
  unfold Oper.wp
  rw [hrun]
  exact hK _ _ (h b hb hd2 w _ σ S (hr.put (.bool _ _) (hd1 d rfl)))
theorem q_eqnilnil {x y : Operand} {t t' e : TypeId} (ht : P.underlying t = some (.slice e)) (hx : ev fr x = some .nil) (hy : ev fr y = some .nil) : QOp ind P fn c fr H ⟨d, .binOp .eql t x y t', ty, pos, after, g⟩ (.bool true) := by
  intro w a σ S hr
  have h1 := hr.evAt hx
  have h2 := hr.evAt hy
  generalize hz : a.eval x = z at h1
  generalize hzy : a.eval y = zy at h2
  cases h1
  cases h2
  refine ⟨_, .bool _ _, fun w' _ => ?_⟩
  have hb := Lib.run_eql_slice_nil (P := P) w' t e none 0 0 0 0 ht
  simp only [execOp, hz, hzy, Sem.run_bind, run_eqGuard_slice, Result.andThen_ok, hb]
  rfl

/-- A nil slice, taken for an object that has nothing yet. -/
theorem Rep.nilobj {w : World} {a : Act} {σ : Nat → Option Blk} {S : Nat → Prop} {n : Nat} (hr : Rep c w a σ S n fr H) {o : AObj} (ho : o.c.len = 0) {t : Nat} (hl : look t fr = some .nil) : Rep c w a (upσ σ H.length .nowhere) S n ((t, .sl H.length 0 0) :: fr) (H ++ [some o]) := by
  have hext : ∀ h B, σ h = some B → upσ σ H.length .nowhere h = some B := by
    intro h B hB
    unfold upσ
    split
    · rename_i he; rw [he, hr.hr.dom _ (Nat.le_refl _)] at hB; cases hB
    · exact hB
  have hv : ∀ {x v}, VR w S σ x v → VR w S (upσ σ H.length .nowhere) x v := fun h => h.mono (fun _ h => h) (fun _ _ => rfl) _ hext
  have hset : ∀ h' o', (H ++ [some o])[h']? = some (some o') → (h' = H.length ∧ o' = o) ∨ (h' < H.length ∧ H[h']? = some (some o')) := by
    intro h' o' ho
    by_cases he : h' < H.length
    · rw [List.getElem?_append_left he] at ho; exact .inr ⟨he, ho⟩
    · by_cases he2 : h' = H.length
      · subst he2; simp at ho; exact .inl ⟨rfl, ho.symm⟩
      · have : (H ++ [some o]).length ≤ h' := by simp; omega
        rw [List.getElem?_eq_none this] at ho; cases ho
  have hnone : ∀ h, h < H.length → upσ σ H.length .nowhere h = σ h := fun h hl => by simp [upσ, Nat.ne_of_lt hl]
  have hat : upσ σ H.length .nowhere H.length = some .nowhere := by simp [upσ]
  have hR : Rep c w a (upσ σ H.length .nowhere) S n fr (H ++ [some o]) := by
    refine ⟨⟨?_, ?_, hr.hr.small, fun h hl => ?_⟩, ⟨hr.kp.os, hr.kp.output, hr.kp.tape, hr.kp.size, hr.kp.block, hr.kp.S1, hr.kp.S2, fun h hf => by rw [hnone h (hr.kp.fixlt h hf)]; exact hr.kp.fixed h hf, fun h hf => by have := hr.kp.fixlt h hf; simp; omega, ?_⟩, hr.defers, hr.size, fun t v hl => ⟨(hr.slots t v hl).1, hv (hr.slots t v hl).2⟩⟩
    · intro h' o' ho'
      rcases hset h' o' ho' with ⟨rfl, rfl⟩ | ⟨hlt, ho'⟩
      · exact .inl ⟨hat, ho⟩
      · rcases hr.hr.live h' o' ho' with ⟨hn, hl0⟩ | ⟨b', C', cu, g1, g2, g3, g4, g5, g6, g7⟩
        · exact .inl ⟨hext _ _ hn, hl0⟩
        · right
          refine ⟨b', C', cu, hext _ _ g1, g2, g3, g4, g5, g6, fun i j hi hj => ?_⟩
          obtain ⟨v, e1, e2, e3⟩ := g7 i j hi hj
          exact ⟨v, e1, hv e2, e3⟩
    · intro h1 h2 o1 o2 b s1 C1 s2 C2 q1 q2 e1 e2
      rcases hset h1 o1 q1 with ⟨rfl, rfl⟩ | ⟨l1, q1'⟩
      · rw [hat] at e1; cases e1
      · rcases hset h2 o2 q2 with ⟨rfl, rfl⟩ | ⟨l2, q2'⟩
        · rw [hat] at e2; cases e2
        · rw [hnone h1 l1] at e1
          rw [hnone h2 l2] at e2
          exact hr.hr.dist h1 h2 o1 o2 b s1 C1 s2 C2 q1' q2' e1 e2
    · simp only [List.length_append, List.length_cons, List.length_nil] at hl
      have : ¬ h = H.length := by omega
      simp only [upσ, this, if_false]
      exact hr.hr.dom h (by omega)
    · intro h' o' b s C ho hb
      rcases hset h' o' ho with ⟨rfl, rfl⟩ | ⟨hlt, ho'⟩
      · rw [hat] at hb; cases hb
      · rw [hnone h' hlt] at hb
        exact hr.kp.own h' o' b s C ho' hb
  refine ⟨hR.hr, hR.kp, hR.defers, hR.size, fun u y hy => ?_⟩
  simp only [look] at hy
  by_cases he : u = t
  · subst he
    simp only [Nat.beq_refl, cond_true, Option.some.injEq] at hy
    subst hy
    obtain ⟨h1, h2⟩ := hr.slots u _ hl
    refine ⟨h1, ?_⟩
    generalize a.tmps.getD u undef = z at h2
    cases h2
    exact .sl0 _ _ hat
  · simp only [beq_ne he, cond_false] at hy
    exact hR.slots u y hy

theorem ax_nilobj {x : Code} (t : Nat) (o : AObj) (hl : look t fr = some .nil) (ho : o.c.len = 0) (h : Ax P fn c (.code x k) ((t, .sl H.length 0 0) :: fr) (H ++ [some o])) : Ax P fn c (.code x k) fr H :=
  fun w a _ S hr => h w a _ S (hr.nilobj ho hl)
theorem ax_nilobj_ops {q : Bool} {all : Array Oper} {rest : List Oper} (t : Nat) (o : AObj) (hl : look t fr = some .nil) (ho : o.c.len = 0) (h : Ax P fn c (.ops q all rest k) ((t, .sl H.length 0 0) :: fr) (H ++ [some o])) : Ax P fn c (.ops q all rest k) fr H := by
  cases q with
  | true => exact fun hd w a _ S hr => h hd w a _ S (hr.nilobj ho hl)
  | false => exact fun hd w a _ S hr => h hd w a _ S (hr.nilobj ho hl)

/-- Slicing. -/
def sbnd (dflt : Nat) : Option AV → Option Int
  | none => some dflt
  | some (.int _ n) => some n
  | some _ => none
def evo (fr : Fr) : Option Operand → Option (Option AV)
  | none => some none
  | some x => match ev fr x with
    | some v => some (some v)
    | none => none

theorem run_sliceBound {w : World} {x : Value} {k : IntKind} {m : Int} {y : Nat} {code : BoundsCode} (hx : x = .int k m) (hb : 0 ≤ m ∧ m ≤ y) : (Instr.sliceBound x y code).run P w = .ok m.toNat w := by
  subst hx
  simp [Instr.sliceBound, asIntOf, hb]

theorem run_sliceBounds {a : Act} {w0 w : World} {σ : Nat → Option Blk} {S : Nat → Prop} {n : Nat} (hr : Rep c w0 a σ S n fr H) {lo hi : Option Operand} {lo' hi' : Option AV} {len cap : Nat} {l h : Int} {isS : Bool} (h1 : evo fr lo = some lo') (h2 : evo fr hi = some hi') (h3 : sbnd 0 lo' = some l) (h4 : sbnd len hi' = some h) (hb : 0 ≤ l ∧ l ≤ h ∧ h ≤ cap) :
    (Instr.sliceBounds isS len cap (lo.map a.eval) (hi.map a.eval) none).run P w = .ok (l.toNat, h.toNat, cap) w := by
  have e1 : ∀ (x : Operand), lo = some x → ∃ k, a.eval x = .int k l := by
    rintro x rfl
    simp only [evo] at h1
    cases hx : ev fr x with
    | none => simp [hx] at h1
    | some v =>
      simp only [hx, Option.some.injEq] at h1
      subst h1
      cases v <;> simp [sbnd] at h3
      subst h3
      exact ⟨_, hr.evInt hx⟩
  have e2 : ∀ (x : Operand), hi = some x → ∃ k, a.eval x = .int k h := by
    rintro x rfl
    simp only [evo] at h2
    cases hx : ev fr x with
    | none => simp [hx] at h2
    | some v =>
      simp only [hx, Option.some.injEq] at h2
      subst h2
      cases v <;> simp [sbnd] at h4
      subst h4
      exact ⟨_, hr.evInt hx⟩
  have hh : ((h.toNat : Nat) : Int) = h := by omega
  cases lo with
  | none =>
    simp only [evo, Option.some.injEq] at h1
    subst h1
    simp only [sbnd, Option.some.injEq] at h3
    cases hi with
    | none =>
      simp only [evo, Option.some.injEq] at h2
      subst h2
      simp only [sbnd, Option.some.injEq] at h4
      subst h3 h4
      simp [Instr.sliceBounds]
    | some x =>
      obtain ⟨k, hx⟩ := e2 x rfl
      subst h3
      simp only [Instr.sliceBounds, Option.map_some, Option.map_none, Sem.run_bind, Sem.run_pure, Result.andThen_ok, run_sliceBound (P := P) hx ⟨by omega, hb.2.2⟩]
      rfl
  | some y =>
    obtain ⟨k', hy⟩ := e1 y rfl
    cases hi with
    | none =>
      simp only [evo, Option.some.injEq] at h2
      subst h2
      simp only [sbnd, Option.some.injEq] at h4
      subst h4
      simp only [Instr.sliceBounds, Option.map_some, Option.map_none, Sem.run_bind, Sem.run_pure, Result.andThen_ok, run_sliceBound (P := P) hy ⟨hb.1, hb.2.1⟩]
      simp
    | some x =>
      obtain ⟨k, hx⟩ := e2 x rfl
      simp only [Instr.sliceBounds, Option.map_some, Sem.run_bind, Sem.run_pure, Result.andThen_ok, run_sliceBound (P := P) hx ⟨by omega, hb.2.2⟩]
      simp only [run_sliceBound (P := P) (w := w) hy (y := h.toNat) ⟨hb.1, by omega⟩, Result.andThen_ok]

theorem q_slice_ro {x : Operand} {t e : TypeId} {lo hi : Option Operand} {lo' hi' : Option AV} {cl : Cells} {i n : Nat} {l h : Int} (ht : P.underlying t = some (.slice e)) (hs : (P.info? e).map (·.size) = some cl.sz) (hx : ev fr x = some (.ro cl i n)) (h1 : evo fr lo = some lo') (h2 : evo fr hi = some hi') (h3 : sbnd 0 lo' = some l) (h4 : sbnd n hi' = some h) (hb : 0 ≤ l ∧ l ≤ h ∧ h ≤ n) :
    QOp ind P fn c fr H ⟨d, .slice t x lo hi none, ty, pos, after, g⟩ (.ro cl (i + l.toNat) (h - l).toNat) := by
  intro w a σ S hr
  have hxv := hr.evAt hx
  generalize hz : a.eval x = z at hxv
  have hsub : h.toNat - l.toNat = (h - l).toNat := by omega
  cases hxv with
  | ro0 _ _ _ ad cap =>
    have hn : h = 0 := by omega
    have hl : l = 0 := by omega
    subst hn hl
    refine ⟨.slice (if cap = 0 then ad else ad.map (·.add 0)) 0 cap, .ro0 _ _ _ _ _, fun w' _ => ?_⟩
    have hbs := run_sliceBounds (P := P) (w := w') (isS := true) (cap := cap) hr h1 h2 h3 h4 ⟨by omega, by omega, by omega⟩
    cases hq : P.info? e with
    | none => simp [hq] at hs
    | some inf =>
      simp [execOp, hz, Instr.sliceAt, Instr.slice, run_underlying ht, hbs, sizeOf, typeInfo, hq]
  | ro _ _ _ _ b o cap val hS hlen hc hv h1' =>
    have hget : ∀ w', (execOp a.eval ⟨d, .slice t x lo hi none, ty, pos, after, g⟩).run P w' = .ok (.value (.slice (if cap = l.toNat then some ⟨b, o, none⟩ else some ⟨b, o + l.toNat * cl.sz, none⟩) (h - l).toNat (cap - l.toNat))) w' := by
      intro w'
      have hbs := run_sliceBounds (P := P) (w := w') (isS := true) (cap := cap) hr h1 h2 h3 h4 ⟨by omega, by omega, by omega⟩
      cases hq : P.info? e with
      | none => simp [hq] at hs
      | some inf =>
        have hsz : inf.size = cl.sz := by simpa [hq] using hs
        simp [execOp, hz, Instr.sliceAt, Instr.slice, run_underlying ht, hbs, sizeOf, typeInfo, hq, hsub, hsz, Addr.add_lit]
    refine ⟨_, ?_, fun w' _ => hget w'⟩
    by_cases h0 : (h - l).toNat = 0
    · rw [h0]; exact .ro0 _ _ _ _ _
    · have hne : ¬ cap = l.toNat := by omega
      rw [if_neg hne]
      refine .ro _ _ _ _ _ _ _ (fun d j => val (l.toNat + d) j) hS (by omega) (fun d j hd hj => ?_) (fun d j hd hj => ?_) (fun d j hd hj => ?_)
      · have := hc (l.toNat + d) j (by omega) hj
        rw [Nat.add_mul, ← Nat.add_assoc] at this
        exact this
      · have := hv (l.toNat + d) j (by omega) hj
        rw [← Nat.add_assoc] at this
        exact this
      · exact h1' (l.toNat + d) j (by omega) hj
theorem q_slice_sl {x : Operand} {t e : TypeId} {lo hi : Option Operand} {lo' hi' : Option AV} {h' i n : Nat} {ob : AObj} {l h : Int} (ht : P.underlying t = some (.slice e)) (hx : ev fr x = some (.sl h' i n)) (hh : H[h']? = some (some ob)) (hs : (P.info? e).map (·.size) = some ob.c.sz) (h1 : evo fr lo = some lo') (h2 : evo fr hi = some hi') (h3 : sbnd 0 lo' = some l) (h4 : sbnd n hi' = some h) (hb : 0 ≤ l ∧ l < h ∧ h ≤ n) :
    QOp ind P fn c fr H ⟨d, .slice t x lo hi none, ty, pos, after, g⟩ (.sl h' (i + l.toNat) (h - l).toNat) := by
  intro w a σ S hr
  have hxv := hr.evAt hx
  generalize hz : a.eval x = z at hxv
  have hsub : h.toNat - l.toNat = (h - l).toNat := by omega
  cases hxv with
  | sl0 => omega
  | sl _ _ _ _ b s C cap hσ hlen hcap =>
    obtain ⟨hs', cur, g1, g2, g3, g4, g5, g6⟩ := hr.obj hh hσ
    subst hs'
    have hne : ¬ cap = l.toNat := by omega
    refine ⟨.slice (some ⟨b, (i + l.toNat) * ob.c.sz, none⟩) (h - l).toNat (cap - l.toNat), .sl _ _ _ _ _ _ C _ hσ (by omega) (by omega), fun w' _ => ?_⟩
    have hbs := run_sliceBounds (P := P) (w := w') (isS := true) (cap := cap) hr h1 h2 h3 h4 ⟨by omega, by omega, by omega⟩
    cases hq : P.info? e with
    | none => simp [hq] at hs
    | some inf =>
      have hsz : inf.size = ob.c.sz := by simpa [hq] using hs
      simp [execOp, hz, Instr.sliceAt, Instr.slice, run_underlying ht, hbs, sizeOf, typeInfo, hq, hsub, hsz, Addr.add_lit, hne, Nat.add_mul]
end
end Go.Ax
