/-
  More rules: many nil slices at once; objects that are only read from now on.
-/
import Derived.Test.YtmfhdfofmdggaaaAxMore4
set_option linter.unusedVariables false
set_option linter.unusedSimpArgs false
namespace Go.Ax
open Go.RowKit

/-- One more object, of which there is nothing yet. -/
theorem Rep.nowhere1 {c : Ctx} {w : World} {a : Act} {σ : Nat → Option Blk} {S : Nat → Prop} {n : Nat} {fr : Fr} {H : AHeap} (hr : Rep c w a σ S n fr H) {o : AObj} (ho : o.c.len = 0) : Rep c w a (upσ σ H.length .nowhere) S n fr (H ++ [some o]) := by
  have hext : ∀ h B, σ h = some B → upσ σ H.length .nowhere h = some B := by
    intro h B hB
    unfold upσ
    split
    · rename_i he; rw [he, hr.hr.dom _ (Nat.le_refl _)] at hB; cases hB
    · exact hB
  have hv : ∀ {x v}, VR w S σ x v → VR w S (upσ σ H.length .nowhere) x v := fun h => h.mono (fun _ h => h) (fun _ _ => rfl) _ hext
  have hset : ∀ (h' : Nat) (o' : AObj), (H ++ [some o])[h']? = some (some o') → (h' = H.length ∧ o' = o) ∨ (h' < H.length ∧ H[h']? = some (some o')) := by
    intro h' o' ho
    by_cases he : h' < H.length
    · rw [List.getElem?_append_left he] at ho; exact .inr ⟨he, ho⟩
    · by_cases he2 : h' = H.length
      · subst he2; simp at ho; exact .inl ⟨rfl, ho.symm⟩
      · have : (H ++ [some o]).length ≤ h' := by simp; omega
        rw [List.getElem?_eq_none this] at ho; cases ho
  have hnone : ∀ h, h < H.length → upσ σ H.length .nowhere h = σ h := fun h hl => by simp [upσ, Nat.ne_of_lt hl]
  have hat : upσ σ H.length .nowhere H.length = some .nowhere := by simp [upσ]
  refine ⟨⟨?_, ?_, hr.hr.small, fun h hl => ?_⟩, ⟨hr.kp.os, hr.kp.output, hr.kp.tape, hr.kp.size, hr.kp.block, hr.kp.S1, hr.kp.S2, fun h hf => by rw [hnone h (hr.kp.fixlt h hf)]; exact hr.kp.fixed h hf, fun h hf => by have := hr.kp.fixlt h hf; simp; omega, ?_⟩, hr.defers, hr.size, fun t v hl => ⟨(hr.slots t v hl).1, hv (hr.slots t v hl).2⟩⟩
  · intro h' o' ho'
    rcases hset h' o' ho' with ⟨rfl, rfl⟩ | ⟨hlt, ho'⟩
    · exact .inl ⟨hat, ho⟩
    · rcases hr.hr.live h' o' ho' with ⟨hn, hl0⟩ | ⟨b', C', cu, g1, g2, g3, g4, g5, g6, g7⟩
      · exact .inl ⟨hext _ _ hn, hl0⟩
      · right
        refine ⟨b', C', cu, hext _ _ g1, g2, g3, g4, g5, g6, fun i j hi hj => ?_⟩
        obtain ⟨v, e1, e2, e3⟩ := g7 i j hi hj
        exact ⟨v, e1, hv e2, e3⟩
  · intro h1 h2 o1 o2 b s1 C1 s2 C2 q1 q2 e1 e2
    rcases hset h1 o1 q1 with ⟨rfl, rfl⟩ | ⟨l1, q1'⟩
    · rw [hat] at e1; cases e1
    · rcases hset h2 o2 q2 with ⟨rfl, rfl⟩ | ⟨l2, q2'⟩
      · rw [hat] at e2; cases e2
      · rw [hnone h1 l1] at e1
        rw [hnone h2 l2] at e2
        exact hr.hr.dist h1 h2 o1 o2 b s1 C1 s2 C2 q1' q2' e1 e2
  · simp only [List.length_append, List.length_cons, List.length_nil] at hl
    have : ¬ h = H.length := by omega
    simp only [upσ, this, if_false]
    exact hr.hr.dom h (by omega)
  · intro h' o' b s C ho hb
    rcases hset h' o' ho with ⟨rfl, rfl⟩ | ⟨hlt, ho'⟩
    · rw [hat] at hb; cases hb
    · rw [hnone h' hlt] at hb
      exact hr.kp.own h' o' b s C ho' hb

theorem upσ_ext {σ : Nat → Option Blk} {H : AHeap} {w : World} {S : Nat → Prop} (hr : HR w S σ H) (B0 : Blk) : ∀ h B, σ h = some B → upσ σ H.length B0 h = some B := by
  intro h B hB
  unfold upσ
  split
  · rename_i he; rw [he, hr.dom _ (Nat.le_refl _)] at hB; cases hB
  · exact hB
theorem Rep.nowheres {c : Ctx} {w : World} {a : Act} {S : Nat → Prop} {n : Nat} {fr : Fr} {o : AObj} (ho : o.c.len = 0) : ∀ (P : Nat) {σ : Nat → Option Blk} {H : AHeap}, Rep c w a σ S n fr H → ∃ σ', Rep c w a σ' S n fr (H ++ List.replicate P (some o)) ∧ (∀ h B, σ h = some B → σ' h = some B) ∧ ∀ k, k < P → σ' (H.length + k) = some .nowhere
  | 0, σ, H, hr => ⟨σ, by simpa using hr, fun _ _ h => h, fun k hk => absurd hk (Nat.not_lt_zero _)⟩
  | P + 1, σ, H, hr => by
    have h1 := hr.nowhere1 ho
    obtain ⟨σ', g1, g2, g3⟩ := Rep.nowheres ho P h1
    have e : H ++ [some o] ++ List.replicate P (some o) = H ++ List.replicate (P + 1) (some o) := by
      rw [List.append_assoc]; rfl
    rw [e] at g1
    refine ⟨σ', g1, fun h B hB => g2 h B (upσ_ext hr.hr _ h B hB), fun k hk => ?_⟩
    cases k with
    | zero => exact g2 _ _ (by simp [upσ])
    | succ k =>
      have := g3 k (by omega)
      simp only [List.length_append, List.length_cons, List.length_nil] at this
      rw [show H.length + (k + 1) = H.length + (0 + 1) + k by omega]
      exact this

/-- Cells, told otherwise. -/
theorem Rep.recell {c : Ctx} {w : World} {a : Act} {σ : Nat → Option Blk} {S : Nat → Prop} {n : Nat} {fr : Fr} {H : AHeap} (hr : Rep c w a σ S n fr H) {h : Nat} {o : AObj} (hh : H[h]? = some (some o)) {c' : Cells} (h1 : c'.len = o.c.len) (h2 : c'.sz = o.c.sz)
    (h3 : ∀ i j v, i < o.c.len → j < o.c.sz → VR w S σ (o.c.at i j) v → VR w S σ (c'.at i j) v) : Rep c w a σ S n fr (H.set h (some ⟨o.ty, c'⟩)) := by
  have hlt : h < H.length := (List.getElem?_eq_some_iff.1 hh).1
  have hset : ∀ (h' : Nat) (o' : AObj), (H.set h (some ⟨o.ty, c'⟩))[h']? = some (some o') → ∃ o0 : AObj, H[h']? = some (some o0) ∧ o'.ty = o0.ty ∧ o'.c.len = o0.c.len ∧ o'.c.sz = o0.c.sz ∧ ∀ i j v, i < o0.c.len → j < o0.c.sz → VR w S σ (o0.c.at i j) v → VR w S σ (o'.c.at i j) v := by
    intro h' o' ho
    by_cases he : h' = h
    · subst he
      simp only [List.getElem?_set_self hlt, Option.some.injEq] at ho
      subst ho
      exact ⟨o, hh, rfl, h1, h2, h3⟩
    · rw [List.getElem?_set_ne (Ne.symm he)] at ho
      exact ⟨o', ho, rfl, rfl, rfl, fun _ _ _ _ _ h => h⟩
  refine ⟨⟨fun h' o' ho => ?_, fun h1 h2 o1 o2 b s C s' C' q1 q2 e1 e2 => ?_, hr.hr.small, fun h' hl => hr.hr.dom h' (by simpa using hl)⟩, ⟨hr.kp.os, hr.kp.output, hr.kp.tape, hr.kp.size, hr.kp.block, hr.kp.S1, hr.kp.S2, hr.kp.fixed, fun h' hf => by simpa using hr.kp.fixlt h' hf, fun h' o' b s C q e => ?_⟩, hr.defers, hr.size, hr.slots⟩
  · obtain ⟨o0, h1, h2, h3, h4, h5⟩ := hset h' o' ho
    rw [h2, h3, h4]
    rcases hr.hr.live h' o0 h1 with g | ⟨b, C, cur, g1, g2, g3, g4, g5, g6, g7⟩
    · exact .inl g
    · exact .inr ⟨b, C, cur, g1, g2, g3, g4, g5, g6, fun i j hi hj => by
        obtain ⟨v, e1, e2, e3⟩ := g7 i j hi hj
        exact ⟨v, e1, h5 i j v hi hj e2, e3⟩⟩
  · obtain ⟨p, p1, _⟩ := hset h1 o1 q1
    obtain ⟨p', p1', _⟩ := hset h2 o2 q2
    exact hr.hr.dist h1 h2 p p' b s C s' C' p1 p1' e1 e2
  · obtain ⟨p, p1, _⟩ := hset h' o' q
    exact hr.kp.own h' p b s C p1 e

section
variable {P : Program} {fn : Func} {c : Ctx} {fr : Fr} {H : AHeap} {k : List It}
/-- A row of nil slices: each an object that has nothing yet. -/
theorem ax_nilrow {x : Code} (h : Nat) (N : Nat) (o : AObj) {t : TypeId} {f : Nat → Nat → AV} (hh : H[h]? = some (some ⟨t, .fn N 1 f⟩)) (hf : ∀ k, k < N → f k 0 = .nil) (ho : o.c.len = 0)
    (hk : Ax P fn c (.code x k) fr ((H ++ List.replicate N (some o)).set h (some ⟨t, .fn N 1 (fun k _ => .sl (H.length + k) 0 0)⟩))) : Ax P fn c (.code x k) fr H := by
  intro w a σ S hr
  obtain ⟨σ', g1, g2, g3⟩ := Rep.nowheres ho N hr
  have hlt : h < H.length := (List.getElem?_eq_some_iff.1 hh).1
  have hh' : (H ++ List.replicate N (some o))[h]? = some (some ⟨t, .fn N 1 f⟩) := by rw [List.getElem?_append_left hlt]; exact hh
  refine hk w a σ' S (g1.recell hh' rfl rfl (fun i j v hi hj hv => ?_))
  simp only [Cells.len, Cells.sz] at hi hj
  obtain rfl : j = 0 := by omega
  simp only [Cells.at, hf i hi] at hv ⊢
  cases hv
  exact .sl0 _ _ (g3 i hi)
end

/-- What a value is told as, once the objects of HF are only read. -/
def FzTo (HF : AHeap) (x y : AV) : Prop := y = x ∨ y = .any ∨ (y = x.frz HF ∧ inB HF x)
def fzk (HF : AHeap) (fr : Fr) : Fr → Prop
  | [] => True
  | (t, y) :: r => (∃ x, look t fr = some x ∧ FzTo HF x y) ∧ fzk HF fr r
theorem look_fzk {HF : AHeap} {fr L : Fr} {t : Nat} {y : AV} (h : fzk HF fr L) (hl : look t L = some y) : ∃ x, look t fr = some x ∧ FzTo HF x y := by
  induction L with
  | nil => simp [look] at hl
  | cons p r ih =>
    obtain ⟨u, x⟩ := p
    obtain ⟨h1, h2⟩ := h
    simp only [look] at hl
    by_cases he : t = u
    · subst he; simp at hl; subst hl; exact h1
    · have hb : Nat.beq t u = false := beq_ne he
      simp [hb] at hl
      exact ih h2 hl

/-- Objects that nobody writes any more join the region. -/
theorem Rep.freeze {c : Ctx} {w : World} {a : Act} {σ : Nat → Option Blk} {S : Nat → Prop} {n : Nat} {fr L : Fr} {H : AHeap} (hr : Rep c w a σ S n fr H) (HF H' : AHeap) (hsub : subH HF H) (hrl : ∀ (h : Nat) (o : AObj), HF[h]? = some (some o) → refless o.c)
    (hlen : H'.length = H.length)
    (hH : ∀ (h : Nat) (o' : AObj), H'[h]? = some (some o') → (∀ o : AObj, HF[h]? ≠ some (some o)) ∧ ∃ o : AObj, H[h]? = some (some o) ∧ o'.ty = o.ty ∧ o'.c.len = o.c.len ∧ o'.c.sz = o.c.sz ∧ ∀ i j, i < o.c.len → j < o.c.sz → FzTo HF (o.c.at i j) (o'.c.at i j))
    (hL : fzk HF fr L) : ∃ S', Rep c w a σ S' n L H' := by
  have hlive : LiveP w S σ HF := fun h o ho => hr.hr.live h o (hsub h o ho)
  let S' : Nat → Prop := fun b => S b ∨ ∃ h o s C, HF[h]? = some (some o) ∧ σ h = some (.at b s C)
  have hup : ∀ {σ1 : Nat → Option Blk} {x v}, VR w S σ1 x v → VR w S' σ1 x v := fun h => h.mono (fun _ h => .inl h) (fun _ _ => rfl) _ (fun _ _ h => h)
  have hfz : ∀ {x y v}, FzTo HF x y → VR w S σ x v → VR w S' σ y v := by
    intro x y v h hv
    rcases h with rfl | rfl | ⟨rfl, hin⟩
    · exact hup hv
    · exact .any _ _
    · exact VR.freeze hlive hrl (fun _ h => .inl h) (fun h o b s C h1 h2 => .inr ⟨h, o, s, C, h1, h2⟩) hv σ hin
  refine ⟨S', ⟨fun h o' ho' => ?_, fun h1 h2 o1 o2 b s C s' C' q1 q2 e1 e2 => ?_, fun b hb => ?_, fun h hl => hr.hr.dom h (by omega)⟩, ⟨hr.kp.os, hr.kp.output, hr.kp.tape, hr.kp.size, hr.kp.block, fun b hb => .inl (hr.kp.S1 b hb), fun b hb => ?_, hr.kp.fixed, fun h hf => by rw [hlen]; exact hr.kp.fixlt h hf, fun h o b s C q e => ?_⟩, hr.defers, hr.size, fun t y hy => ?_⟩
  · obtain ⟨hno, o, h1, h2, h3, h4, h5⟩ := hH h o' ho'
    rw [h2, h3, h4]
    rcases hr.hr.live h o h1 with g | ⟨b, C, cur, g1, g2, g3, g4, g5, g6, g7⟩
    · exact .inl g
    · refine .inr ⟨b, C, cur, g1, g2, g3, g4, g5, ?_, fun i j hi hj => ?_⟩
      · rintro (hs | ⟨h', o2, s2, C2, q1, q2⟩)
        · exact g6 hs
        · have := hr.hr.dist h h' o o2 b _ C s2 C2 h1 (hsub h' o2 q1) g1 q2
          subst this
          exact hno o2 q1
      · obtain ⟨v, e1, e2, e3⟩ := g7 i j hi hj
        exact ⟨v, e1, hfz (h5 i j hi hj) e2, e3⟩
  · obtain ⟨_, p, p1, _⟩ := hH h1 o1 q1
    obtain ⟨_, p', p1', _⟩ := hH h2 o2 q2
    exact hr.hr.dist h1 h2 p p' b s C s' C' p1 p1' e1 e2
  · rcases hb with hs | ⟨h, o, s, C, q1, q2⟩
    · exact hr.hr.small b hs
    · obtain ⟨_, cu, g, _⟩ := hr.obj (hsub h o q1) q2
      exact (Array.getElem?_eq_some_iff.1 g).1
  · rcases hb with hs | ⟨h, o, s, C, q1, q2⟩
    · exact hr.kp.S2 b hs
    · rcases hr.kp.own h o b s C (hsub h o q1) q2 with g | g
      · exact .inr (.inl g)
      · exact .inr (.inr g)
  · obtain ⟨_, p, p1, _⟩ := hH h o q
    exact hr.kp.own h p b s C p1 e
  · obtain ⟨x, hx, hf⟩ := look_fzk hL hy
    exact ⟨(hr.slots t x hx).1, hfz hf (hr.slots t x hx).2⟩

section
variable {P : Program} {fn : Func} {c : Ctx} {fr : Fr} {H : AHeap} {k : List It}
theorem ax_freeze {x : Code} (HF H' : AHeap) (L : Fr) (hsub : subH HF H) (hrl : ∀ (h : Nat) (o : AObj), HF[h]? = some (some o) → refless o.c) (hlen : H'.length = H.length)
    (hH : ∀ (h : Nat) (o' : AObj), H'[h]? = some (some o') → (∀ o : AObj, HF[h]? ≠ some (some o)) ∧ ∃ o : AObj, H[h]? = some (some o) ∧ o'.ty = o.ty ∧ o'.c.len = o.c.len ∧ o'.c.sz = o.c.sz ∧ ∀ i j, i < o.c.len → j < o.c.sz → FzTo HF (o.c.at i j) (o'.c.at i j))
    (hL : fzk HF fr L) (hk : Ax P fn c (.code x k) L H') : Ax P fn c (.code x k) fr H := by
  intro w a σ S hr
  obtain ⟨S', hr'⟩ := hr.freeze HF H' hsub hrl hlen hH hL
  exact hk w a σ S' hr'
theorem ax_heap_eq {x : Code} (H' : AHeap) (he : H = H') (hk : Ax P fn c (.code x k) fr H') : Ax P fn c (.code x k) fr H := he ▸ hk
theorem ax_heap_any {all : Array Oper} {fuel : Nat} {listed : Array Bool} (H' : AHeap) (hs : HSub H H') (h : Ax P fn c (.any all fuel listed k) fr H') : Ax P fn c (.any all fuel listed k) fr H :=
  fun w a σ S hr => h w a σ S (hr.heap hs)
theorem ax_slot_any {all : Array Oper} {fuel : Nat} {listed : Array Bool} (t : Nat) {v : AV} (y : AV) (hl : look t fr = some v) (h : AEq v y) (hk : Ax P fn c (.any all fuel listed k) ((t, y) :: fr) H) : Ax P fn c (.any all fuel listed k) fr H :=
  fun w a σ S hr => hk w a σ S (hr.slot hl h)
theorem ax_freeze_ops {all : Array Oper} {rest : List Oper} (HF H' : AHeap) (L : Fr) (hsub : subH HF H) (hrl : ∀ (h : Nat) (o : AObj), HF[h]? = some (some o) → refless o.c) (hlen : H'.length = H.length)
    (hH : ∀ (h : Nat) (o' : AObj), H'[h]? = some (some o') → (∀ o : AObj, HF[h]? ≠ some (some o)) ∧ ∃ o : AObj, H[h]? = some (some o) ∧ o'.ty = o.ty ∧ o'.c.len = o.c.len ∧ o'.c.sz = o.c.sz ∧ ∀ i j, i < o.c.len → j < o.c.sz → FzTo HF (o.c.at i j) (o'.c.at i j))
    (hL : fzk HF fr L) (hk : Ax P fn c (.ops false all rest k) L H') : Ax P fn c (.ops false all rest k) fr H := by
  intro hd w a σ S hr
  obtain ⟨S', hr'⟩ := hr.freeze HF H' hsub hrl hlen hH hL
  exact hk hd w a σ S' hr'

/-- A contract out of a walk over no memory. -/
theorem acall_of_ax0 {f : FuncId} {code : Code} {args : List AV} {fix : Nat → Prop} {R : AV → AHeap → Prop} (hf : P.funcs[f]? = some fn) (hb : fn.body = some code) (hn : (fn.name == "runtime.NumGoroutine") = false) (hsz : Nat.ble args.length fn.ntmps = true)
    (h : ∀ c : Ctx, c.R = R → c.fix = fix → (∀ b, ¬ c.O b) → Ax P fn c (.code code []) (argsFr 0 args) []) : ACall P f args [] fix R := by
  refine ⟨⟨fn, hf, hn, by rw [hb]; rfl⟩, fun w σ S vals hhr hfl hv => ?_⟩
  refine calls_of_wp hf hb ?_
  have hsz' : args.length ≤ fn.ntmps := Nat.le_of_ble_eq_true hsz
  have hrep : Rep (mkCtx w S σ [] fix R) w { tmps := vals ++ Array.replicate (fn.ntmps - vals.size) undef, defers := [] } σ S fn.ntmps (argsFr 0 args) [] := by
    refine ⟨hhr, ⟨rfl, rfl, rfl, Nat.le_refl _, fun _ _ _ => rfl, fun _ h => h, fun _ h => .inl h, fun _ _ => rfl, hfl, fun h o b s C h1 h2 => .inl ⟨h, o, s, C, h1, h2⟩⟩, rfl, by simp [hv.1]; omega, fun t v hl => ?_⟩
    obtain ⟨_, h2, h3⟩ := look_argsFr args 0 t v hl
    simp only [Nat.zero_add, Nat.sub_zero] at h2 h3
    refine ⟨by omega, ?_⟩
    have := hv.2 t h2
    rw [h3] at this
    have hlt : t < vals.size := by rw [hv.1]; exact h2
    have e : (vals ++ Array.replicate (fn.ntmps - vals.size) undef).getD t undef = vals.getD t undef := by
      simp [Array.getElem?_append, hlt]
    rw [e]; exact this
  refine wp_mono (h (mkCtx w S σ [] fix R) rfl rfl (by rintro b ⟨h, o, s, C, h1, _⟩; simp at h1) w _ σ S hrep) ?_
  rintro e a' w' ⟨σ', S', fr', H', hr', hp⟩
  obtain ⟨he, vs, hvs, hR⟩ := hp
  obtain ⟨x, hx, hvx⟩ := results_spec hr' hvs
  have fin : a'.defers = [] ∧ ∃ v, (results fn a'.tmps).run P w' = .ok v w' ∧ ∃ v_1 r σ'_1 S'_1 H'_1, Ending.returned v = .returned v_1 ∧ HR w' S'_1 σ'_1 H'_1 ∧ VR w' S'_1 σ'_1 r v_1 ∧ Kp (mkCtx w S σ [] fix R) w' S'_1 σ'_1 H'_1 ∧ R r H'_1 :=
    ⟨hr'.defers, x, hx, x, tupOf vs, σ', S', H', rfl, hr'.hr, hvx, hr'.kp, hR⟩
  rcases he with rfl | rfl
  · exact fin
  · exact fin
end
end Go.Ax
