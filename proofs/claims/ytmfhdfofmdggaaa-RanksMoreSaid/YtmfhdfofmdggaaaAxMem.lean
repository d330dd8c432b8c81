/-
  Rules for operations that write or make memory.
-/
import Derived.Test.YtmfhdfofmdggaaaAxOps
set_option linter.unusedVariables false
set_option linter.unusedSimpArgs false
namespace Go.Ax
open Go.RowKit

/-- A store of one cell. -/
def Cells.upd : Cells → Nat → Nat → AV → Option Cells
  | .ints k l, i, _, v => match v with
    | .int k' n => match k, k' with
      | .i64, .i64 => some (.ints k (l.set i n))
      | .u8, .u8 => some (.ints k (l.set i n))
      | .u64, .u64 => some (.ints k (l.set i n))
      | .i32, .i32 => some (.ints k (l.set i n))
      | .u32, .u32 => some (.ints k (l.set i n))
      | _, _ => none
    | _ => none
  | .strs l, i, _, v => match v with
    | .str s => some (.strs (l.set i s))
    | _ => none
  | .box l, _, j, v => some (.box (l.set j v))
  | .fn n s f, i, j, v => some (.fn n s (fun i' j' => bif Nat.beq i' i && Nat.beq j' j then v else f i' j'))

def AV.one : AV → Bool
  | .agg _ => false
  | .tup _ => false
  | .any => false
  | _ => true

theorem VR.one {w : World} {S : Nat → Prop} {σ : Nat → Option Blk} {x : AV} {v : Value} (h : VR w S σ x v) (hx : x.one = true) : v.oneCell' = true := by
  cases h <;> first | rfl | cases hx

theorem Cells.upd_spec {c c' : Cells} {i j : Nat} {v : AV} (h : c.upd i j v = some c') : c'.len = c.len ∧ c'.sz = c.sz ∧ ∀ i' j', i' < c.len → j' < c.sz → i < c.len → j < c.sz → c'.at i' j' = if i' = i ∧ j' = j then v else c.at i' j' := by
  cases c with
  | ints k l =>
    have : ∃ n, v = .int k n ∧ c' = .ints k (l.set i n) := by
      cases v <;> simp only [Cells.upd] at h <;> try (cases h; done)
      rename_i k' n
      cases k <;> cases k' <;> simp at h <;> exact ⟨n, rfl, h.symm⟩
    obtain ⟨n, rfl, rfl⟩ := this
    refine ⟨by simp [Cells.len], rfl, fun i' j' hi hj hi2 hj2 => ?_⟩
    simp only [Cells.len, Cells.sz] at hi hj hi2 hj2
    have e1 : j' = 0 := by omega
    have e2 : j = 0 := by omega
    subst e1 e2
    simp only [Cells.at, and_true]
    by_cases he : i' = i
    · subst he; simp [List.getD, hi]
    · have : ¬ i = i' := fun e => he e.symm
      simp [List.getD, he, this]
  | strs l =>
    have : ∃ n, v = .str n ∧ c' = .strs (l.set i n) := by
      cases v <;> simp only [Cells.upd] at h <;> try (cases h; done)
      exact ⟨_, rfl, (Option.some.inj h).symm⟩
    obtain ⟨n, rfl, rfl⟩ := this
    refine ⟨by simp [Cells.len], rfl, fun i' j' hi hj hi2 hj2 => ?_⟩
    simp only [Cells.len, Cells.sz] at hi hj hi2 hj2
    have e1 : j' = 0 := by omega
    have e2 : j = 0 := by omega
    subst e1 e2
    simp only [Cells.at, and_true]
    by_cases he : i' = i
    · subst he; simp [List.getD, hi]
    · have : ¬ i = i' := fun e => he e.symm
      simp [List.getD, he, this]
  | box l =>
    simp only [Cells.upd, Option.some.injEq] at h
    subst h
    refine ⟨rfl, by simp [Cells.sz], fun i' j' hi hj hi2 hj2 => ?_⟩
    simp only [Cells.len, Cells.sz] at hi hj hi2 hj2
    have e1 : i' = 0 := by omega
    have e2 : i = 0 := by omega
    subst e1 e2
    simp only [Cells.at, true_and]
    by_cases he : j' = j
    · subst he; simp [List.getD, hj]
    · have : ¬ j = j' := fun e => he e.symm
      simp [List.getD, he, this]
  | fn n s f =>
    simp only [Cells.upd, Option.some.injEq] at h
    subst h
    refine ⟨rfl, rfl, fun i' j' hi hj hi2 hj2 => ?_⟩
    simp only [Cells.at]
    by_cases he : i' = i
    · subst he
      by_cases he2 : j' = j
      · subst he2; simp
      · simp [beq_ne he2, he2]
    · simp [beq_ne he, he]

/-- A live object lies in its block. -/
theorem Rep.obj {c : Ctx} {w : World} {a : Act} {σ : Nat → Option Blk} {S : Nat → Prop} {n : Nat} {fr : Fr} {H : AHeap} (hr : Rep c w a σ S n fr H) {h b s C : Nat} {o : AObj} (hh : H[h]? = some (some o)) (hσ : σ h = some (.at b s C)) :
    s = o.c.sz ∧ ∃ cur, w.heap[b]? = some (.cells cur o.ty (0, 0)) ∧ cur.size = C * o.c.sz ∧ C ≤ maxLen ∧ o.c.len ≤ C ∧ ¬ S b ∧
      ∀ i j, i < o.c.len → j < o.c.sz → ∃ v, cur[i * o.c.sz + j]? = some v ∧ VR w S σ (o.c.at i j) v ∧ v.oneCell' = true := by
  rcases hr.hr.live h o hh with ⟨hn, _⟩ | ⟨b', C', cur, hσ', h3⟩
  · rw [hσ] at hn; cases hn
  · rw [hσ] at hσ'
    simp only [Option.some.injEq, Blk.at.injEq] at hσ'
    obtain ⟨rfl, rfl, rfl⟩ := hσ'
    exact ⟨rfl, cur, h3⟩

/-- A block of an object of one's own is written anew. -/
theorem Rep.setRow {c : Ctx} {w : World} {a : Act} {σ : Nat → Option Blk} {S : Nat → Prop} {n : Nat} {fr : Fr} {H : AHeap} (hr : Rep c w a σ S n fr H) {h b s C : Nat} {o : AObj} (hh : H[h]? = some (some o)) (hσ : σ h = some (.at b s C))
    {c' : Cells} {cur' : Array Value} (hsz : c'.sz = o.c.sz) (hlen : c'.len ≤ C) (hcur : cur'.size = C * o.c.sz)
    (hc : ∀ i j, i < c'.len → j < c'.sz → ∃ v, cur'[i * c'.sz + j]? = some v ∧ VR w S σ (c'.at i j) v ∧ v.oneCell' = true) :
    Rep c (w.setRow b cur') a σ S n fr (H.set h (some ⟨o.ty, c'⟩)) := by
  obtain ⟨hs, cur, h1, h2, h3, h4, h5, h6⟩ := hr.obj hh hσ
  have hlt : h < H.length := (List.getElem?_eq_some_iff.1 hh).1
  have hS : ∀ b', S b' → (w.setRow b cur').heap[b']? = w.heap[b']? := fun b' hb => setRow_other w b b' cur' (fun e => h5 (e ▸ hb))
  have hv : ∀ {σ' : Nat → Option Blk} {x v}, VR w S σ' x v → VR (w.setRow b cur') S σ' x v := fun h => h.mono (fun _ h => h) hS _ (fun _ _ h => h)
  have hset : ∀ h' o', (H.set h (some ⟨o.ty, c'⟩))[h']? = some (some o') → (h' = h ∧ o' = ⟨o.ty, c'⟩) ∨ (h' ≠ h ∧ H[h']? = some (some o')) := by
    intro h' o' ho
    by_cases he : h' = h
    · subst he
      simp only [List.getElem?_set_self hlt, Option.some.injEq] at ho
      exact .inl ⟨rfl, ho.symm⟩
    · rw [List.getElem?_set_ne (Ne.symm he)] at ho
      exact .inr ⟨he, ho⟩
  have hown := hr.kp.own h o b s C hh hσ
  refine ⟨⟨?_, ?_, fun b' hb => by rw [setRow_size]; exact hr.hr.small b' hb, fun h' hl => hr.hr.dom h' (by simpa using hl)⟩, ?_, hr.defers, hr.size, fun t v hl => ⟨(hr.slots t v hl).1, hv (hr.slots t v hl).2⟩⟩
  · intro h' o' ho
    rcases hset h' o' ho with ⟨rfl, rfl⟩ | ⟨hne, ho'⟩
    · right
      refine ⟨b, C, cur', ?_, setRow_heap w b cur cur' _ _ h1, by simpa [hsz] using hcur, h3, hlen, h5, fun i j hi hj => ?_⟩
      · rw [hσ, hs, hsz]
      · obtain ⟨v, e1, e2, e3⟩ := hc i j hi hj
        exact ⟨v, e1, hv e2, e3⟩
    · rcases hr.hr.live h' o' ho' with hn | ⟨b', C', cu, g1, g2, g3, g4, g5, g6, g7⟩
      · exact .inl hn
      · right
        have hbb : b' ≠ b := fun e => hne (hr.hr.dist h' h o' o b' o'.c.sz C' s C ho' hh g1 (by rw [hσ, e]))
        refine ⟨b', C', cu, g1, by rw [setRow_other w b b' cur' hbb]; exact g2, g3, g4, g5, g6, fun i j hi hj => ?_⟩
        obtain ⟨v, e1, e2, e3⟩ := g7 i j hi hj
        exact ⟨v, e1, hv e2, e3⟩
  · intro h1' h2' o1 o2 b' s1 C1 s2 C2 g1 g2 e1 e2
    have t1 : ∃ o, H[h1']? = some (some o) := by
      rcases hset h1' o1 g1 with ⟨rfl, _⟩ | ⟨_, g⟩
      · exact ⟨_, hh⟩
      · exact ⟨_, g⟩
    have t2 : ∃ o, H[h2']? = some (some o) := by
      rcases hset h2' o2 g2 with ⟨rfl, _⟩ | ⟨_, g⟩
      · exact ⟨_, hh⟩
      · exact ⟨_, g⟩
    obtain ⟨_, t1⟩ := t1
    obtain ⟨_, t2⟩ := t2
    exact hr.hr.dist h1' h2' _ _ b' s1 C1 s2 C2 t1 t2 e1 e2
  · refine ⟨hr.kp.os, hr.kp.output, hr.kp.tape, by rw [setRow_size]; exact hr.kp.size, fun b' hb ho => ?_, hr.kp.S1, hr.kp.S2, hr.kp.fixed, fun h' hf => by simpa using hr.kp.fixlt h' hf, ?_⟩
    · have hbb : b' ≠ b := by
        rintro rfl
        rcases hown with h | h
        · exact ho h
        · omega
      rw [setRow_other w b b' cur' hbb]
      exact hr.kp.block b' hb ho
    · intro h' o' b' s' C' ho hb
      rcases hset h' o' ho with ⟨rfl, _⟩ | ⟨_, g⟩
      · exact hr.kp.own _ _ b' s' C' hh hb
      · exact hr.kp.own h' o' b' s' C' g hb

def upσ (σ : Nat → Option Blk) (h : Nat) (B : Blk) : Nat → Option Blk := fun h' => if h' = h then some B else σ h'

/-- A new object, in a new block. -/
theorem Rep.alloc {c : Ctx} {w : World} {a : Act} {σ : Nat → Option Blk} {S : Nat → Prop} {n : Nat} {fr : Fr} {H : AHeap} (hr : Rep c w a σ S n fr H) {o : AObj} {C : Nat} {cur : Array Value} (hlen : o.c.len ≤ C) (hC : C ≤ maxLen) (hcur : cur.size = C * o.c.sz)
    (hc : ∀ i j, i < o.c.len → j < o.c.sz → ∃ v, cur[i * o.c.sz + j]? = some v ∧ VR w S σ (o.c.at i j) v ∧ v.oneCell' = true) :
    Rep c (w.alloc (.cells cur o.ty (0, 0))) a (upσ σ H.length (.at w.heap.size o.c.sz C)) S n fr (H ++ [some o]) := by
  have hold : ∀ b, b < w.heap.size → (w.alloc (.cells cur o.ty (0, 0))).heap[b]? = w.heap[b]? := fun b hb => Below.heap_alloc _ _ b hb
  have hext : ∀ h B, σ h = some B → upσ σ H.length (.at w.heap.size o.c.sz C) h = some B := by
    intro h B hB
    unfold upσ
    split
    · rename_i he; rw [he, hr.hr.dom _ (Nat.le_refl _)] at hB; cases hB
    · exact hB
  have hv : ∀ {x v}, VR w S σ x v → VR (w.alloc (.cells cur o.ty (0, 0))) S (upσ σ H.length (.at w.heap.size o.c.sz C)) x v :=
    fun h => h.mono (fun _ h => h) (fun b hb => hold b (hr.hr.small b hb)) _ hext
  have hset : ∀ h' o', (H ++ [some o])[h']? = some (some o') → (h' = H.length ∧ o' = o) ∨ (h' < H.length ∧ H[h']? = some (some o')) := by
    intro h' o' ho
    by_cases he : h' < H.length
    · rw [List.getElem?_append_left he] at ho; exact .inr ⟨he, ho⟩
    · by_cases he2 : h' = H.length
      · subst he2; simp at ho; exact .inl ⟨rfl, ho.symm⟩
      · have : (H ++ [some o]).length ≤ h' := by simp; omega
        rw [List.getElem?_eq_none this] at ho; cases ho
  have hσlt : ∀ h o' b s C', h < H.length → H[h]? = some (some o') → σ h = some (.at b s C') → b < w.heap.size := by
    intro h o' b s C' _ ho hb
    obtain ⟨_, cu, g, _⟩ := hr.obj ho hb
    exact (Array.getElem?_eq_some_iff.1 g).1
  refine ⟨⟨?_, ?_, fun b hb => by have := hr.hr.small b hb; simp; omega, fun h hl => ?_⟩, ?_, hr.defers, hr.size, fun t v hl => ⟨(hr.slots t v hl).1, hv (hr.slots t v hl).2⟩⟩
  · intro h' o' ho
    rcases hset h' o' ho with ⟨rfl, rfl⟩ | ⟨hlt, ho'⟩
    · right
      refine ⟨w.heap.size, C, cur, by simp [upσ], heap_alloc_new w _, hcur, hC, hlen, fun hs => Nat.lt_irrefl _ (hr.hr.small _ hs), fun i j hi hj => ?_⟩
      obtain ⟨v, e1, e2, e3⟩ := hc i j hi hj
      exact ⟨v, e1, hv e2, e3⟩
    · rcases hr.hr.live h' o' ho' with ⟨hn, hl0⟩ | ⟨b', C', cu, g1, g2, g3, g4, g5, g6, g7⟩
      · exact .inl ⟨hext _ _ hn, hl0⟩
      · right
        refine ⟨b', C', cu, hext _ _ g1, by rw [hold b' (Array.getElem?_eq_some_iff.1 g2).1]; exact g2, g3, g4, g5, g6, fun i j hi hj => ?_⟩
        obtain ⟨v, e1, e2, e3⟩ := g7 i j hi hj
        exact ⟨v, e1, hv e2, e3⟩
  · intro h1 h2 o1 o2 b s1 C1 s2 C2 g1 g2 e1 e2
    rcases hset h1 o1 g1 with ⟨rfl, rfl⟩ | ⟨l1, g1'⟩ <;> rcases hset h2 o2 g2 with ⟨rfl, rfl⟩ | ⟨l2, g2'⟩
    · rfl
    · simp only [upσ, if_true, Option.some.injEq, Blk.at.injEq] at e1
      simp only [upσ, Nat.ne_of_lt l2, if_false] at e2
      have := hσlt h2 o2 b s2 C2 l2 g2' e2
      omega
    · simp only [upσ, if_true, Option.some.injEq, Blk.at.injEq] at e2
      simp only [upσ, Nat.ne_of_lt l1, if_false] at e1
      have := hσlt h1 o1 b s1 C1 l1 g1' e1
      omega
    · simp only [upσ, Nat.ne_of_lt l1, Nat.ne_of_lt l2, if_false] at e1 e2
      exact hr.hr.dist h1 h2 o1 o2 b s1 C1 s2 C2 g1' g2' e1 e2
  · simp only [List.length_append, List.length_cons, List.length_nil] at hl
    have : ¬ h = H.length := by omega
    simp only [upσ, this, if_false]
    exact hr.hr.dom h (by omega)
  · refine ⟨hr.kp.os, hr.kp.output, hr.kp.tape, by have := hr.kp.size; simp; omega, fun b hb ho => ?_, hr.kp.S1, hr.kp.S2, fun h hf => ?_, fun h hf => by have := hr.kp.fixlt h hf; simp; omega, ?_⟩
    · rw [hold b (by have := hr.kp.size; omega)]; exact hr.kp.block b hb ho
    · have := hr.kp.fixlt h hf
      have h2 : ¬ h = H.length := by omega
      simp only [upσ, h2, if_false]
      exact hr.kp.fixed h hf
    · intro h' o' b s C' ho hb
      rcases hset h' o' ho with ⟨rfl, rfl⟩ | ⟨hlt, ho'⟩
      · simp only [upσ, if_true, Option.some.injEq, Blk.at.injEq] at hb
        have := hr.kp.size
        omega
      · simp only [upσ, Nat.ne_of_lt hlt, if_false] at hb
        exact hr.kp.own h' o' b s C' ho' hb

/-- A new block that nobody will write: it joins the region. -/
theorem Rep.allocRo {c : Ctx} {w : World} {a : Act} {σ : Nat → Option Blk} {S : Nat → Prop} {n : Nat} {fr : Fr} {H : AHeap} (hr : Rep c w a σ S n fr H) (ob : Obj) :
    Rep c (w.alloc ob) a σ (fun b => S b ∨ b = w.heap.size) n fr H := by
  have hold : ∀ b, b < w.heap.size → (w.alloc ob).heap[b]? = w.heap[b]? := fun b hb => Below.heap_alloc _ _ b hb
  have hv : ∀ {σ' : Nat → Option Blk} {x v}, VR w S σ' x v → VR (w.alloc ob) (fun b => S b ∨ b = w.heap.size) σ' x v :=
    fun h => h.mono (fun _ h => .inl h) (fun b hb => hold b (hr.hr.small b hb)) _ (fun _ _ h => h)
  refine ⟨⟨?_, hr.hr.dist, fun b hb => ?_, hr.hr.dom⟩, ?_, hr.defers, hr.size, fun t v hl => ⟨(hr.slots t v hl).1, hv (hr.slots t v hl).2⟩⟩
  · intro h' o' ho'
    rcases hr.hr.live h' o' ho' with ⟨hn, hl0⟩ | ⟨b', C', cu, g1, g2, g3, g4, g5, g6, g7⟩
    · exact .inl ⟨hn, hl0⟩
    · right
      have hlt := (Array.getElem?_eq_some_iff.1 g2).1
      refine ⟨b', C', cu, g1, by rw [hold b' hlt]; exact g2, g3, g4, g5, ?_, fun i j hi hj => ?_⟩
      · rintro (h | h)
        · exact g6 h
        · omega
      · obtain ⟨v, e1, e2, e3⟩ := g7 i j hi hj
        exact ⟨v, e1, hv e2, e3⟩
  · rcases hb with h | h
    · have := hr.hr.small b h; simp; omega
    · simp; omega
  · refine ⟨hr.kp.os, hr.kp.output, hr.kp.tape, by have := hr.kp.size; simp; omega, fun b hb ho => ?_, fun b hb => .inl (hr.kp.S1 b hb), fun b hb => ?_, hr.kp.fixed, hr.kp.fixlt, hr.kp.own⟩
    · rw [hold b (by have := hr.kp.size; omega)]; exact hr.kp.block b hb ho
    · rcases hb with h | h
      · exact hr.kp.S2 b h
      · have := hr.kp.size; exact .inr (.inr (by omega))
end Go.Ax
