/-
  The rule for append; boxes; a nil slice as an object.
-/
import Derived.Test.YtmfhdfofmdggaaaAxAppend
set_option linter.unusedVariables false
set_option linter.unusedSimpArgs false
namespace Go.Ax
open Go.RowKit

/-- Where a slice's elements are to be read. -/
def srcOf (H : AHeap) : AV → Option (Cells × Nat × Nat)
  | .ro c i m => some (c, i, m)
  | .sl h i m => match H[h]? with
    | some (some o) => some (o.c, i, m)
    | _ => none
  | .nil => some (.ints .i64 [], 0, 0)
  | _ => none

def Src (w : World) (S : Nat → Prop) (σ : Nat → Option Blk) (c : Cells) (i m : Nat) (x : Value) : Prop :=
  (m = 0 ∧ ∃ a cap, x = .slice a 0 cap) ∨ ∃ (ad : Addr) (cap : Nat) (news : List Value), x = .slice (some ad) m cap ∧ news.length = m * c.sz ∧ (∀ j u, news[j]? = some u → w.cell? (ad.add j) = some u) ∧ (∀ u ∈ news, u.oneCell' = true) ∧
    ∀ d j, d < m → j < c.sz → ∃ u, news[d * c.sz + j]? = some u ∧ VR w S σ (c.at (i + d) j) u

theorem divmod {d s j : Nat} (hj : j < s) : (d * s + j) / s = d ∧ (d * s + j) % s = j := by
  rw [Nat.mul_comm, Nat.mul_add_div (by omega), Nat.mul_add_mod, Nat.div_eq_of_lt hj, Nat.mod_eq_of_lt hj]
  exact ⟨by omega, rfl⟩

theorem Rep.src {c : Ctx} {w : World} {a : Act} {σ : Nat → Option Blk} {S : Nat → Prop} {n : Nat} {fr : Fr} {H : AHeap} (hr : Rep c w a σ S n fr H) {v : AV} {x : Value} {cl : Cells} {i m : Nat} (hv : VR w S σ v x) (hs : srcOf H v = some (cl, i, m)) (hin : ∀ h, v = .sl h i m → i + m ≤ cl.len) : Src w S σ cl i m x := by
  cases hv <;> simp only [srcOf] at hs <;> try (cases hs; done)
  case nil =>
    simp only [Option.some.injEq, Prod.mk.injEq] at hs
    obtain ⟨rfl, rfl, rfl⟩ := hs
    exact .inl ⟨rfl, none, 0, rfl⟩
  case ro0 c' i' a' cap =>
    simp only [Option.some.injEq, Prod.mk.injEq] at hs
    obtain ⟨rfl, rfl, rfl⟩ := hs
    exact .inl ⟨rfl, a', cap, rfl⟩
  case ro c' i' len b o cap val hS hlen hc hv h1 =>
    simp only [Option.some.injEq, Prod.mk.injEq] at hs
    obtain ⟨rfl, rfl, rfl⟩ := hs
    right
    refine ⟨⟨b, o, none⟩, cap, (List.range (len * c'.sz)).map (fun t => val (t / c'.sz) (t % c'.sz)), rfl, by simp, ?_, ?_, ?_⟩
    · intro j u hu
      have hj : j < len * c'.sz := by simpa using (List.getElem?_eq_some_iff.1 hu).1
      have hpos : 0 < c'.sz := by rcases Nat.eq_zero_or_pos c'.sz with h | h; · rw [h] at hj; simp at hj
                                  · exact h
      have hd : j / c'.sz < len := (Nat.div_lt_iff_lt_mul hpos).2 hj
      have hm : j % c'.sz < c'.sz := Nat.mod_lt _ hpos
      simp only [List.getElem?_map, List.getElem?_range hj, Option.map_some, Option.some.injEq] at hu
      subst hu
      have := hc (j / c'.sz) (j % c'.sz) hd hm
      rw [Addr.add_lit]
      have e : o + j / c'.sz * c'.sz + j % c'.sz = o + j := by rw [Nat.add_assoc, Nat.div_add_mod']
      rwa [e] at this
    · intro u hu
      obtain ⟨t, ht, rfl⟩ := List.mem_map.1 hu
      have hj : t < len * c'.sz := by simpa using ht
      have hpos : 0 < c'.sz := by rcases Nat.eq_zero_or_pos c'.sz with h | h; · rw [h] at hj; simp at hj
                                  · exact h
      exact h1 _ _ ((Nat.div_lt_iff_lt_mul hpos).2 hj) (Nat.mod_lt _ hpos)
    · intro d j hd hj
      obtain ⟨e1, e2⟩ := divmod (d := d) hj
      have hlt : d * c'.sz + j < len * c'.sz := by
        have : (d + 1) * c'.sz ≤ len * c'.sz := Nat.mul_le_mul_right _ (by omega)
        rw [Nat.add_mul] at this; omega
      refine ⟨val d j, by simp [hlt, e1, e2], (hv d j hd hj).mono (fun _ h => h) (fun _ _ => rfl) _ (fun _ _ h => by cases h)⟩
  case sl h i' len b s C cap hlen hcap hσ =>
    cases hq : H[h]? with
    | none => simp [hq] at hs
    | some oo => cases oo with
      | none => simp [hq] at hs
      | some o =>
        simp only [hq, Option.some.injEq, Prod.mk.injEq] at hs
        obtain ⟨rfl, rfl, rfl⟩ := hs
        have hin' := hin h rfl
        obtain ⟨hs', cur, g1, g2, g3, g4, g5, g6⟩ := hr.obj hq hσ
        subst hs'
        by_cases hm : len = 0
        · subst hm; exact .inl ⟨rfl, _, _, rfl⟩
        right
        have hsub : ∀ t, t < len * o.c.sz → i' * o.c.sz + t < cur.size := by
          intro t ht
          rw [g2]
          have : (i' + len) * o.c.sz ≤ C * o.c.sz := Nat.mul_le_mul_right _ (by omega)
          rw [Nat.add_mul] at this; omega
        refine ⟨⟨b, i' * o.c.sz, none⟩, cap, (List.range (len * o.c.sz)).map (fun t => cur.getD (i' * o.c.sz + t) undef), rfl, by simp, ?_, ?_, ?_⟩
        · intro j u hu
          have hj : j < len * o.c.sz := by simpa using (List.getElem?_eq_some_iff.1 hu).1
          simp only [List.getElem?_map, List.getElem?_range hj, Option.map_some, Option.some.injEq] at hu
          subst hu
          have := hsub j hj
          simp [World.cell?, Addr.add_lit, g1, Array.getD, this]
        · intro u hu
          obtain ⟨t, ht, rfl⟩ := List.mem_map.1 hu
          have hj : t < len * o.c.sz := by simpa using ht
          have hpos : 0 < o.c.sz := by rcases Nat.eq_zero_or_pos o.c.sz with h | h; · rw [h] at hj; simp at hj
                                       · exact h
          have hd : t / o.c.sz < len := (Nat.div_lt_iff_lt_mul hpos).2 hj
          obtain ⟨v, e1, _, e3⟩ := g6 (i' + t / o.c.sz) (t % o.c.sz) (by omega) (Nat.mod_lt _ hpos)
          have e : (i' + t / o.c.sz) * o.c.sz + t % o.c.sz = i' * o.c.sz + t := by rw [Nat.add_mul, Nat.add_assoc, Nat.div_add_mod']
          rw [e] at e1
          simp [e1, e3]
        · intro d j hd hj
          obtain ⟨v, e1, e2, _⟩ := g6 (i' + d) j (by omega) hj
          have hlt : d * o.c.sz + j < len * o.c.sz := by
            have : (d + 1) * o.c.sz ≤ len * o.c.sz := Nat.mul_le_mul_right _ (by omega)
            rw [Nat.add_mul] at this; omega
          have e : (i' + d) * o.c.sz + j = i' * o.c.sz + (d * o.c.sz + j) := by rw [Nat.add_mul]; omega
          rw [e] at e1
          exact ⟨v, by simp [hlt, e1], e2⟩
  case sl0 h hσ =>
    cases hq : H[h]? with
    | none => simp [hq] at hs
    | some oo => cases oo with
      | none => simp [hq] at hs
      | some o =>
        simp only [hq, Option.some.injEq, Prod.mk.injEq] at hs
        obtain ⟨rfl, rfl, rfl⟩ := hs
        exact .inl ⟨rfl, none, 0, rfl⟩

/-- What is there behind an append. -/
def Cells.app (c : Cells) (cx : Cells) (i m : Nat) : Option Cells :=
  match c, cx with
  | .ints k l, .ints k' l' => match k, k' with
    | .i64, .i64 => some (.ints k (l ++ (l'.drop i).take m))
    | .u8, .u8 => some (.ints k (l ++ (l'.drop i).take m))
    | .u64, .u64 => some (.ints k (l ++ (l'.drop i).take m))
    | .i32, .i32 => some (.ints k (l ++ (l'.drop i).take m))
    | .u32, .u32 => some (.ints k (l ++ (l'.drop i).take m))
    | _, _ => none
  | .strs l, .strs l' => some (.strs (l ++ (l'.drop i).take m))
  | c, cx => bif Nat.beq c.sz cx.sz then some (.fn (c.len + m) c.sz (fun i' j => bif Nat.blt i' c.len then c.at i' j else cx.at (i + (i' - c.len)) j)) else none

theorem Cells.app_spec {c cx c' : Cells} {i m : Nat} (h : c.app cx i m = some c') (hin : i + m ≤ cx.len) : c'.sz = c.sz ∧ cx.sz = c.sz ∧ c'.len = c.len + m ∧ (∀ i' j, i' < c.len → j < c.sz → c'.at i' j = c.at i' j) ∧ ∀ d j, d < m → j < c.sz → c'.at (c.len + d) j = cx.at (i + d) j := by
  have gen : c' = .fn (c.len + m) c.sz (fun i' j => bif Nat.blt i' c.len then c.at i' j else cx.at (i + (i' - c.len)) j) → c.sz = cx.sz →
      c'.sz = c.sz ∧ cx.sz = c.sz ∧ c'.len = c.len + m ∧ (∀ i' j, i' < c.len → j < c.sz → c'.at i' j = c.at i' j) ∧ ∀ d j, d < m → j < c.sz → c'.at (c.len + d) j = cx.at (i + d) j := by
    intro e hs
    subst e
    refine ⟨rfl, hs.symm, rfl, fun i' j hi hj => ?_, fun d j hd hj => ?_⟩
    · have : Nat.blt i' c.len = true := Nat.ble_eq_true_of_le hi
      simp [Cells.at, this]
    · have : Nat.blt (c.len + d) c.len = false := by
        cases hb : Nat.blt (c.len + d) c.len with
        | false => rfl
        | true => have := Nat.le_of_ble_eq_true hb; omega
      simp [Cells.at, this]
  have gen' : (bif Nat.beq c.sz cx.sz then some (Cells.fn (c.len + m) c.sz (fun i' j => bif Nat.blt i' c.len then c.at i' j else cx.at (i + (i' - c.len)) j)) else none) = some c' →
      c'.sz = c.sz ∧ cx.sz = c.sz ∧ c'.len = c.len + m ∧ (∀ i' j, i' < c.len → j < c.sz → c'.at i' j = c.at i' j) ∧ ∀ d j, d < m → j < c.sz → c'.at (c.len + d) j = cx.at (i + d) j := by
    intro h
    cases hb : Nat.beq c.sz cx.sz with
    | false => simp [hb] at h
    | true => simp only [hb, cond_true, Option.some.injEq] at h; exact gen h.symm (Nat.eq_of_beq_eq_true hb)
  cases c with
  | ints k l =>
    cases cx with
    | ints k' l' =>
      have : c' = .ints k (l ++ (l'.drop i).take m) ∧ k = k' := by
        simp only [Cells.app] at h
        cases k <;> cases k' <;> simp at h <;> exact ⟨h.symm, rfl⟩
      obtain ⟨rfl, rfl⟩ := this
      simp only [Cells.len] at hin
      refine ⟨rfl, rfl, by simp [Cells.len]; omega, fun i' j hi hj => ?_, fun d j hd hj => ?_⟩
      · simp only [Cells.len] at hi
        simp [Cells.at, List.getD, List.getElem?_append, hi]
      · have h1 : ¬ l.length + d < l.length := by omega
        simp [Cells.at, Cells.len, List.getD, List.getElem?_append, hd, h1]
    | _ => exact gen' h
  | strs l =>
    cases cx with
    | strs l' =>
      simp only [Cells.app, Option.some.injEq] at h
      subst h
      simp only [Cells.len] at hin
      refine ⟨rfl, rfl, by simp [Cells.len]; omega, fun i' j hi hj => ?_, fun d j hd hj => ?_⟩
      · simp only [Cells.len] at hi
        simp [Cells.at, List.getD, List.getElem?_append, hi]
      · have h1 : ¬ l.length + d < l.length := by omega
        simp [Cells.at, Cells.len, List.getD, List.getElem?_append, hd, h1]
    | _ => exact gen' h
  | box l => exact gen' h
  | fn n s f => exact gen' h

def Cells.simple : Cells → Bool
  | .ints _ _ => true
  | .strs _ => true
  | _ => false
theorem simple_forget {c : Cells} (h : c.simple = true) (x i j : Nat) : (c.at i j).forget x = c.at i j := by
  cases c <;> first | rfl | cases h

theorem forget_noRef {h : Nat} : ∀ {v : AV}, noRef v = true → v.forget h = v
  | .int _ _, _ => rfl
  | .bool _, _ => rfl
  | .str _, _ => rfl
  | .nil, _ => rfl
  | .ro _ _ _, _ => rfl
  | .sl _ _ _, hv => by cases hv
  | .rp _ _ _, _ => rfl
  | .ptr _ _ _, hv => by cases hv
  | .nilp, _ => rfl
  | .fn f l, hv => by simp only [AV.forget]; rw [fs l hv]
  | .nilfn, _ => rfl
  | .agg l, hv => by simp only [AV.forget]; rw [fs l hv]
  | .tup l, hv => by simp only [AV.forget]; rw [fs l hv]
  | .any, _ => rfl
where fs : ∀ (l : List AV), noRef.noRefs l = true → AV.forgets h l = l
  | [], _ => rfl
  | v :: r, hv => by
    simp only [noRef.noRefs, Bool.and_eq_true] at hv
    simp only [AV.forgets]
    rw [forget_noRef hv.1, fs r hv.2]

/-- A nil slice that gets nothing. -/
theorem Rep.nowhere {c : Ctx} {w : World} {a : Act} {σ : Nat → Option Blk} {S : Nat → Prop} {n : Nat} {fr : Fr} {H : AHeap} (hr : Rep c w a σ S n fr H) {h : Nat} {o : AObj} (hh : H[h]? = some (some o)) (hσ : σ h = some .nowhere) {c' : Cells} (hsz : c'.sz = o.c.sz) (hlen : c'.len = 0) :
    Rep c w a σ S n (forgetF h fr) ((forgetH h H).set h (some ⟨o.ty, c'⟩)) := by
  have hlt : h < H.length := (List.getElem?_eq_some_iff.1 hh).1
  have hlt' : h < (forgetH h H).length := by rw [forgetH_length]; exact hlt
  have hvf : ∀ {x v}, VR w S σ x v → VR w S σ (x.forget h) v := fun hv => hv.forget _ (fun _ _ => rfl)
  have hset : ∀ h' o', ((forgetH h H).set h (some ⟨o.ty, c'⟩))[h']? = some (some o') → (h' = h ∧ o' = ⟨o.ty, c'⟩) ∨ (h' ≠ h ∧ ∃ o0, H[h']? = some (some o0) ∧ o' = ⟨o0.ty, o0.c.forget h⟩) := by
    intro h' o' ho
    by_cases he : h' = h
    · subst he
      simp only [List.getElem?_set_self hlt', Option.some.injEq] at ho
      exact .inl ⟨rfl, ho.symm⟩
    · rw [List.getElem?_set_ne (Ne.symm he), forgetH_get] at ho
      cases hq : H[h']? with
      | none => simp [hq] at ho
      | some oo => cases oo with
        | none => simp [hq, forgetO] at ho
        | some o0 =>
          simp [hq, forgetO] at ho
          exact .inr ⟨he, o0, rfl, ho.symm⟩
  refine ⟨⟨?_, ?_, hr.hr.small, fun h' hl => hr.hr.dom h' (by simpa [forgetH_length] using hl)⟩, ⟨hr.kp.os, hr.kp.output, hr.kp.tape, hr.kp.size, hr.kp.block, hr.kp.S1, hr.kp.S2, hr.kp.fixed, fun h' hf => by simpa [forgetH_length] using hr.kp.fixlt h' hf, ?_⟩, hr.defers, hr.size, fun t v hl => ?_⟩
  · intro h' o' ho
    rcases hset h' o' ho with ⟨rfl, rfl⟩ | ⟨hne, o0, ho0, rfl⟩
    · exact .inl ⟨hσ, hlen⟩
    · rcases hr.hr.live h' o0 ho0 with ⟨hn, hl0⟩ | ⟨b', C', cu, g1, g2, g3, g4, g5, g6, g7⟩
      · exact .inl ⟨hn, by simpa [Cells.forget_len] using hl0⟩
      · right
        simp only [Cells.forget_len, Cells.forget_sz]
        refine ⟨b', C', cu, g1, g2, g3, g4, g5, g6, fun i j hi hj => ?_⟩
        obtain ⟨v, e1, e2, e3⟩ := g7 i j hi hj
        exact ⟨v, e1, by rw [Cells.forget_at h o0.c i j hj]; exact hvf e2, e3⟩
  · intro h1 h2 o1 o2 b' s1 C1 s2 C2 g1 g2 e1 e2
    have t1 : ∃ o, H[h1]? = some (some o) := by
      rcases hset h1 o1 g1 with ⟨rfl, _⟩ | ⟨_, o0, g, _⟩
      · exact ⟨_, hh⟩
      · exact ⟨_, g⟩
    have t2 : ∃ o, H[h2]? = some (some o) := by
      rcases hset h2 o2 g2 with ⟨rfl, _⟩ | ⟨_, o0, g, _⟩
      · exact ⟨_, hh⟩
      · exact ⟨_, g⟩
    obtain ⟨_, t1⟩ := t1
    obtain ⟨_, t2⟩ := t2
    exact hr.hr.dist h1 h2 _ _ b' s1 C1 s2 C2 t1 t2 e1 e2
  · intro h' o' b' s' C' ho hb'
    rcases hset h' o' ho with ⟨rfl, _⟩ | ⟨_, o0, ho0, _⟩
    · rw [hσ] at hb'; cases hb'
    · exact hr.kp.own h' o0 b' s' C' ho0 hb'
  · rw [look_forgetF] at hl
    cases hq : look t fr with
    | none => simp [hq] at hl
    | some v0 =>
      simp [hq] at hl
      subst hl
      exact ⟨(hr.slots t v0 hq).1, hvf (hr.slots t v0 hq).2⟩

section
variable {P : Program} {fn : Func} {c : Ctx} {fr : Fr} {H : AHeap} {k : List It}

/-- x = append(x, y...): x an object of one's own. -/
theorem ax_append {all : Array Oper} {d : Nat} {t e : TypeId} {x y : Operand} {ty : TypeId} {pos : String} {after : Array Edge} {rest : List Oper} {inf : TypeInfo} {z : Value} {h n : Nat} {o : AObj} {v : AV} {cx c' : Cells} {i m : Nat}
    (ht : P.underlying t = some (.slice e)) (hi : P.info? e = some inf) (hz : inf.zero = some z) (hszz : inf.size = o.c.sz) (hzs : z.cells.size = o.c.sz) (hpos : Nat.blt 0 o.c.sz = true)
    (hx : ev fr x = some (.sl h 0 n)) (hh : H[h]? = some (some o)) (hoty : o.ty = e) (hn : o.c.len = n) (hy : ev fr y = some v) (hs : srcOf H v = some (cx, i, m)) (hin : i + m ≤ cx.len) (happ : o.c.app cx i m = some c')
    (hb : (n + m) * inf.bytes ≤ 140737488355328 ∧ n + m ≤ 9223372036854775807) (hnr : ∀ i j, i < c'.len → j < c'.sz → (c'.at i j).forget h = c'.at i j) (hfix : ¬ c.fix h)
    (hk : Ax P fn c (.ops false all rest k) ((d, .sl h 0 (n + m)) :: forgetF h fr) ((forgetH h H).set h (some ⟨e, c'⟩))) : Ax P fn c (.ops false all (⟨some d, .call { callee := .builtin .append, args := #[x, y], argTypes := #[t, t] }, ty, pos, after, none⟩ :: rest) k) fr H := by
  refine ax_w (fun w a σ S hr => ?_) hk
  subst hoty
  obtain ⟨p1, p2, p3, p4, p5⟩ := Cells.app_spec happ hin
  have hpos' : 0 < o.c.sz := Nat.le_of_ble_eq_true hpos
  have h1 := hr.evAt hx
  have h2 := hr.evAt hy
  have hsrc := hr.src h2 hs (fun _ _ => hin)
  have hexec : ∀ r w', (Builtin.append_ #[t, t] ty #[a.eval x, a.eval y]).run P w = .ok r w' → (execOp a.eval ⟨some d, .call { callee := .builtin .append, args := #[x, y], argTypes := #[t, t] }, ty, pos, after, none⟩).run P w = .ok (.value r) w' := by
    intro r w' h
    simp [execOp, resolve, invoke, builtin, h]
  generalize hzx : a.eval x = vx at h1 hexec
  generalize hzy : a.eval y = vy at h2 hsrc hexec
  unfold Src at hsrc
  rw [p2] at hsrc
  -- what the old cells and the new ones give
  cases h1 with
  | sl _ _ _ _ b s C cap hσ hlen hcap =>
    subst hn
    obtain ⟨hs', cur, g1, g2, g3, g4, g5, g6⟩ := hr.obj hh hσ
    subst hs'
    have hcapC : cap = C := by omega
    subst hcapC
    have holds : ∀ i' j, i' < o.c.len → j < o.c.sz → ∃ u, (cur.toList.take (o.c.len * o.c.sz))[i' * o.c.sz + j]? = some u ∧ VR w S σ (c'.at i' j) u ∧ u.oneCell' = true := by
      intro i' j hi' hj
      obtain ⟨u, e1, e2, e3⟩ := g6 i' j hi' hj
      have hlt : i' * o.c.sz + j < o.c.len * o.c.sz := by
        have : (i' + 1) * o.c.sz ≤ o.c.len * o.c.sz := Nat.mul_le_mul_right _ (by omega)
        rw [Nat.add_mul] at this; omega
      refine ⟨u, ?_, by rw [p4 i' j hi' hj]; exact e2, e3⟩
      rw [List.getElem?_take, if_pos hlt]
      simpa using e1
    have hnle : o.c.len * o.c.sz ≤ cur.size := by rw [g2]; exact Nat.mul_le_mul_right _ hlen
    rcases hsrc with ⟨rfl, ax, capx, rfl⟩ | ⟨ad, capx, news, rfl, q1, q2, q3, q4⟩
    · -- nothing appended
      have hrun : (Builtin.append_ #[t, t] ty #[.slice (some ⟨b, 0 * o.c.sz, none⟩) o.c.len cap, .slice ax 0 capx]).run P w = .ok (.slice (some ⟨b, 0 * o.c.sz, none⟩) o.c.len cap) w := by
        cases ax <;> simp [Builtin.append_, run_underlying ht, sizeOf, typeInfo, hi, Builtin.lenOf, hlen, Builtin.firstCells, loadCells, loadCellsFrom, storeCells]
      refine ⟨_, w, _, S, hexec _ _ hrun, hr.moved (C := cap) (cur := cur) hh rfl rfl rfl (Nat.le_refl _) p1 (fun _ _ _ => rfl) g1 (by rw [p1]; exact g2) g3 (by omega) (.inr hσ) (.inr hσ) (fun i' j hi' hj => ?_) hnr, ?_⟩
      · rw [p3] at hi'
        rw [p1] at hj ⊢
        obtain ⟨u, e1, e2, e3⟩ := g6 i' j (by omega) hj
        exact ⟨u, e1, by rw [p4 i' j (by omega) hj]; exact e2, e3⟩
      · rw [← p1]
        exact .sl _ _ _ _ _ _ cap _ (by simp [upσ]) (by omega) (by omega)
    · by_cases hroom : o.c.len + m ≤ cap
      · have hfit : o.c.len * o.c.sz + news.length ≤ cur.size := by rw [q1, g2, ← Nat.add_mul]; exact Nat.mul_le_mul_right _ hroom
        have hrun := run_append_room (P := P) w t ty o.ty inf ht hi b o.c.len cap cur g1 ad m capx news (by rw [hszz]; exact q1) q2 q3 hroom (by rw [hszz]; exact hfit)
        rw [hszz] at hrun
        have hL : (cur.toList.take (o.c.len * o.c.sz)).length = o.c.len * o.c.sz := by simp; omega
        refine ⟨_, _, _, S, hexec _ _ (by simpa using hrun), hr.moved (w' := w.setRow b (cur.toList.take (o.c.len * o.c.sz) ++ news ++ cur.toList.drop (o.c.len * o.c.sz + news.length)).toArray) (c' := c') (C := cap) hh rfl rfl rfl (by simp) p1 (fun b' _ hb' => setRow_other w b b' _ hb') (setRow_heap w b cur _ _ _ g1) ?_ g3 (by omega) (.inr hσ) (.inr hσ) (fun i' j hi' hj => ?_) hnr, ?_⟩
        · rw [p1, ← g2]; simp; omega
        · rw [p3] at hi'
          rw [p1] at hj ⊢
          by_cases hlo : i' < o.c.len
          · obtain ⟨u, e1, e2, e3⟩ := holds i' j hlo hj
            refine ⟨u, ?_, e2, e3⟩
            have hlt : i' * o.c.sz + j < o.c.len * o.c.sz := by
              have : (i' + 1) * o.c.sz ≤ o.c.len * o.c.sz := Nat.mul_le_mul_right _ (by omega)
              rw [Nat.add_mul] at this; omega
            simp only [List.getElem?_toArray, List.append_assoc]
            rw [List.getElem?_append_left (by omega)]
            exact e1
          · obtain ⟨u, e1, e2⟩ := q4 (i' - o.c.len) j (by omega) hj
            refine ⟨u, ?_, ?_, q3 u (List.mem_of_getElem? e1)⟩
            · have hidx : i' * o.c.sz + j = o.c.len * o.c.sz + ((i' - o.c.len) * o.c.sz + j) := by
                rw [← Nat.add_assoc, ← Nat.add_mul]; congr 2; omega
              have hlt : (i' - o.c.len) * o.c.sz + j < news.length := (List.getElem?_eq_some_iff.1 e1).1
              simp only [List.getElem?_toArray, List.append_assoc]
              rw [hidx, List.getElem?_append_right (by omega), hL, Nat.add_sub_cancel_left, List.getElem?_append_left hlt]
              exact e1
            · have := p5 (i' - o.c.len) j (by omega) hj
              rw [show o.c.len + (i' - o.c.len) = i' by omega] at this
              rw [this]; exact e2
        · have := VR.sl (w := w.setRow b (cur.toList.take (o.c.len * o.c.sz) ++ news ++ cur.toList.drop (o.c.len * o.c.sz + news.length)).toArray) (S := S) (upσ σ h (.at b c'.sz cap)) h 0 (o.c.len + m) b c'.sz cap cap (by simp [upσ]) hroom (by omega)
          simpa using this
      · have hxs : (cur.toList.take (o.c.len * o.c.sz)).length = o.c.len * inf.size := by rw [hszz]; simp; omega
        have hrun := run_append_grow (P := P) w t ty o.ty inf z ht hi hz ⟨b, 0, none⟩ o.c.len cap (cur.toList.take (o.c.len * o.c.sz)) hxs (fun j u hu => ?_) ad m capx news (by rw [hszz]; exact q1) q2 (by omega) (by omega) (growslice_fits (by omega) hb.1)
        rotate_left
        · rw [List.getElem?_take] at hu
          split at hu
          · simp [World.cell?, Addr.add_lit, g1]; simpa using hu
          · cases hu
        have hge := grownCap_ge w (o.c.len + m) cap o.ty
        have hle := grownCap_le_maxLen w (o.c.len + m) cap o.ty (by unfold maxLen; omega)
        generalize grownCap w (o.c.len + m) cap o.ty = G at hrun hge hle
        generalize hxx : cur.toList.take (o.c.len * o.c.sz) = xs at hrun holds hxs
        rw [hszz] at hxs
        refine ⟨_, w.drew.alloc (.cells (xs.toArray ++ news.toArray ++ Builtin.zeroCells z.cells (G - (o.c.len + m))) o.ty), _, S, hexec _ _ (by rw [Nat.zero_mul]; exact hrun), Rep.moved (w := w) (c' := c') (C := G) (b := w.heap.size) (cur := xs.toArray ++ news.toArray ++ Builtin.zeroCells z.cells (G - (o.c.len + m))) hr hh rfl rfl rfl (by simp) p1 (fun b' hb' _ => Below.heap_alloc w.drew (.cells (xs.toArray ++ news.toArray ++ Builtin.zeroCells z.cells (G - (o.c.len + m))) o.ty) b' hb') (heap_alloc_new w.drew _) ?_ hle (by omega) (.inl (Nat.le_refl _)) (.inl hfix) (fun i' j hi' hj => ?_) hnr, ?_⟩
        · simp only [Array.size_append, List.size_toArray, size_zeroCells, hxs, q1, hzs, p1, ← Nat.add_mul]
          congr 1; omega
        · rw [p3] at hi'
          rw [p1] at hj ⊢
          by_cases hlo : i' < o.c.len
          · obtain ⟨u, e1, e2, e3⟩ := holds i' j hlo hj
            refine ⟨u, ?_, e2, e3⟩
            have hlt := (List.getElem?_eq_some_iff.1 e1).1
            rw [Array.append_assoc, Array.getElem?_append_left (by simpa using hlt)]
            simpa using e1
          · obtain ⟨u, e1, e2⟩ := q4 (i' - o.c.len) j (by omega) hj
            refine ⟨u, ?_, ?_, q3 u (List.mem_of_getElem? e1)⟩
            · have hidx : i' * o.c.sz + j = o.c.len * o.c.sz + ((i' - o.c.len) * o.c.sz + j) := by
                rw [← Nat.add_assoc, ← Nat.add_mul]; congr 2; omega
              have hlt : (i' - o.c.len) * o.c.sz + j < news.length := (List.getElem?_eq_some_iff.1 e1).1
              rw [Array.append_assoc, hidx, Array.getElem?_append_right (by simp [hxs]), Array.getElem?_append_left (by simp [hxs]; exact hlt)]
              simp [hxs]
              exact e1
            · have := p5 (i' - o.c.len) j (by omega) hj
              rw [show o.c.len + (i' - o.c.len) = i' by omega] at this
              rw [this]; exact e2
        · have := VR.sl (w := w.drew.alloc (.cells (xs.toArray ++ news.toArray ++ Builtin.zeroCells z.cells (G - (o.c.len + m))) o.ty)) (S := S) (upσ σ h (.at w.heap.size c'.sz G)) h 0 (o.c.len + m) w.heap.size c'.sz G G (by simp [upσ]) hge (by omega)
          simpa using this
  | sl0 _ _ hσ =>
    have hl0 : o.c.len = 0 := hn
    rcases hsrc with ⟨rfl, ax, capx, rfl⟩ | ⟨ad, capx, news, rfl, q1, q2, q3, q4⟩
    · have hrun : (Builtin.append_ #[t, t] ty #[.slice none 0 0, .slice ax 0 capx]).run P w = .ok (.slice none 0 0) w := by
        cases ax <;> simp [Builtin.append_, run_underlying ht, sizeOf, typeInfo, hi, Builtin.lenOf, Builtin.firstCells, loadCells, loadCellsFrom]
      refine ⟨_, w, σ, S, hexec _ _ hrun, hr.nowhere hh hσ p1 (by omega), ?_⟩
      exact .sl0 _ _ hσ
    · by_cases hm : m = 0
      · subst hm
        have hrun : (Builtin.append_ #[t, t] ty #[.slice none 0 0, .slice (some ad) 0 capx]).run P w = .ok (.slice none 0 0) w := by
          simp [Builtin.append_, run_underlying ht, sizeOf, typeInfo, hi, Builtin.lenOf, Builtin.firstCells, loadCells, loadCellsFrom]
        refine ⟨_, w, σ, S, hexec _ _ hrun, hr.nowhere hh hσ p1 (by omega), ?_⟩
        exact .sl0 _ _ hσ
      · have hrun := run_append_nil (P := P) w t ty o.ty inf z ht hi hz ad m capx news (by rw [hszz]; exact q1) q2 (by omega) (by omega) (by
          have hb1 := hb.1
          rw [Nat.zero_add] at hb1
          omega)
        have hge := grownCap_ge w m 0 o.ty
        have hle := grownCap_le_maxLen w m 0 o.ty (by unfold maxLen; omega)
        generalize grownCap w m 0 o.ty = G at hrun hge hle
        refine ⟨_, w.drew.alloc (.cells (news.toArray ++ Builtin.zeroCells z.cells (G - m)) o.ty), _, S, hexec _ _ hrun, Rep.moved (w := w) (c' := c') (C := G) (b := w.heap.size) (cur := news.toArray ++ Builtin.zeroCells z.cells (G - m)) hr hh rfl rfl rfl (by simp) p1 (fun b' hb' _ => Below.heap_alloc w.drew (.cells (news.toArray ++ Builtin.zeroCells z.cells (G - m)) o.ty) b' hb') (heap_alloc_new w.drew _) ?_ hle (by omega) (.inl (Nat.le_refl _)) (.inl hfix) (fun i' j hi' hj => ?_) hnr, ?_⟩
        · simp only [Array.size_append, List.size_toArray, size_zeroCells, q1, hzs, p1, ← Nat.add_mul]
          congr 1; omega
        · rw [p3] at hi'
          rw [p1] at hj ⊢
          obtain ⟨u, e1, e2⟩ := q4 i' j (by omega) hj
          refine ⟨u, ?_, ?_, q3 u (List.mem_of_getElem? e1)⟩
          · have hlt := (List.getElem?_eq_some_iff.1 e1).1
            rw [Array.getElem?_append_left (by simpa using hlt)]
            simpa using e1
          · have := p5 i' j (by omega) hj
            rw [show o.c.len + i' = i' by omega] at this
            rw [this]; exact e2
        · have := VR.sl (w := w.drew.alloc (.cells (news.toArray ++ Builtin.zeroCells z.cells (G - m)) o.ty)) (S := S) (upσ σ h (.at w.heap.size c'.sz G)) h 0 m w.heap.size c'.sz G G (by simp [upσ]) hge (by omega)
          simpa [hl0] using this
end
end Go.Ax
