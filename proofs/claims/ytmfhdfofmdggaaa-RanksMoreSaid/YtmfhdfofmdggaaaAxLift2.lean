/-
  Contracts: results that the caller owns; arguments that the caller lends.
-/
import Derived.Test.YtmfhdfofmdggaaaAxLift
set_option linter.unusedVariables false
set_option linter.unusedSimpArgs false
namespace Go.Ax
open Go.RowKit

/-- A contract on a function that makes one object: the caller owns it. -/
def FCall (P : Program) (f : FuncId) (args : List AV) (r : Nat → AV) (o : AObj) : Prop := ∀ H, ACall P f args H (fun h => h < H.length) (fun r' H' => r' = r H.length ∧ H' = H ++ [some o])

mutual
/-- Object id becomes object new; the others are given up. -/
def AV.keep (H : AHeap) (id new : Nat) : AV → AV
  | .sl h i n => bif Nat.beq h id then .sl new i n else match H[h]? with
    | some (some o) => .ro o.c i n
    | _ => .any
  | .ptr h i j => bif Nat.beq h id then .ptr new i j else match H[h]? with
    | some (some o) => .rp o.c i j
    | _ => .any
  | .fn f l => .fn f (AV.keeps H id new l)
  | .agg l => .agg (AV.keeps H id new l)
  | .tup l => .tup (AV.keeps H id new l)
  | v => v
def AV.keeps (H : AHeap) (id new : Nat) : List AV → List AV
  | [] => []
  | v :: r => v.keep H id new :: AV.keeps H id new r
end
theorem length_keeps (H : AHeap) (id new : Nat) (l : List AV) : (AV.keeps H id new l).length = l.length := by
  induction l with
  | nil => rfl
  | cons v r ih => simp [AV.keeps, ih]
theorem getD_keeps (H : AHeap) (id new : Nat) (l : List AV) (i : Nat) (hi : i < l.length) : (AV.keeps H id new l).getD i .any = (l.getD i .any).keep H id new := by
  induction l generalizing i with
  | nil => simp at hi
  | cons v r ih => cases i with
    | zero => rfl
    | succ i => simpa [AV.keeps] using ih i (by simpa using hi)

theorem VR.keep {w : World} {S : Nat → Prop} {σ : Nat → Option Blk} {H : AHeap} {id new : Nat} (hhr : LiveP w S σ H) (hrl : ∀ (h : Nat) (o : AObj), H[h]? = some (some o) → refless o.c) {S' : Nat → Prop} (hS : ∀ b, S b → S' b) (hS' : ∀ h o b s C, h ≠ id → H[h]? = some (some o) → σ h = some (.at b s C) → S' b)
    {x : AV} {v : Value} (hv : VR w S σ x v) : ∀ σ', (∀ B, σ id = some B → σ' new = some B) → inB H x → VR w S' σ' (x.keep H id new) v := by
  have hup : ∀ {σ1 : Nat → Option Blk} {x v}, VR w S σ1 x v → VR w S' σ1 x v := fun h => h.mono hS (fun _ _ => rfl) _ (fun _ _ h => h)
  -- the others: as by freeze, over the memory without id
  have hoth : ∀ h, h ≠ id → (H.set id none)[h]? = H[h]? := fun h hne => List.getElem?_set_ne (Ne.symm hne)
  have hset : ∀ h o, (H.set id none)[h]? = some (some o) → h ≠ id ∧ H[h]? = some (some o) := by
    intro h o ho
    by_cases he : h = id
    · subst he
      rw [List.getElem?_set] at ho
      simp only [if_true] at ho
      split at ho <;> simp at ho
    · exact ⟨he, by rwa [hoth h he] at ho⟩
  have hhr2 : LiveP w S σ (H.set id none) := fun h o ho => hhr h o (hset h o ho).2
  have frz : ∀ {x v}, VR w S σ x v → inB (H.set id none) x → ∀ σ', VR w S' σ' (x.frz (H.set id none)) v := fun hv hin σ' =>
    VR.freeze hhr2 (fun h o ho => hrl h o (hset h o ho).2) hS (fun h o b s C h1 h2 => hS' h o b s C (hset h o h1).1 (hset h o h1).2 h2) hv σ' hin
  obtain ⟨σ1, hσ1⟩ : ∃ σ1, σ1 = σ := ⟨σ, rfl⟩
  rw [← hσ1] at hv
  induction hv with
  | int => intros; constructor
  | bool => intros; constructor
  | str => intros; constructor
  | nil => intros; constructor
  | ro0 => intros; constructor
  | ro _ c i len b o cap val hSb hlen hc hvv h1 ih => intro σ' _ _; exact .ro _ _ _ _ _ _ _ val (hS _ hSb) hlen hc (fun d j hd hj => hup (hvv d j hd hj)) h1
  | sl σx h i len b s C cap hσ hlen hcap =>
    rw [hσ1] at hσ
    intro σ' hid hin
    simp only [AV.keep]
    by_cases he : h = id
    · subst he
      simp only [Nat.beq_refl, cond_true]
      exact .sl _ _ _ _ _ _ _ _ (hid _ hσ) hlen hcap
    · simp only [beq_ne he, cond_false]
      have := frz (VR.sl σ h i len b s C cap hσ hlen hcap) (by simp only [inB]; rw [hoth h he]; exact hin) σ'
      simp only [AV.frz] at this
      rw [hoth h he] at this
      exact this
  | sl0 σx h hσ =>
    rw [hσ1] at hσ
    intro σ' hid hin
    simp only [AV.keep]
    by_cases he : h = id
    · subst he
      simp only [Nat.beq_refl, cond_true]
      exact .sl0 _ _ (hid _ hσ)
    · simp only [beq_ne he, cond_false]
      have := frz (VR.sl0 σ h hσ) (by simp only [inB]; rw [hoth h he]; exact hin) σ'
      simp only [AV.frz] at this
      rw [hoth h he] at this
      exact this
  | rp _ c i j b o val hSb hc hvv h1 ih => intro σ' _ _; exact .rp _ _ _ _ _ _ val (hS _ hSb) hc (fun e he => hup (hvv e he)) h1
  | ptr σx h i j b s C hσ =>
    rw [hσ1] at hσ
    intro σ' hid hin
    simp only [AV.keep]
    by_cases he : h = id
    · subst he
      simp only [Nat.beq_refl, cond_true]
      exact .ptr _ _ _ _ _ _ _ (hid _ hσ)
    · simp only [beq_ne he, cond_false]
      have := frz (VR.ptr σ h i j b s C hσ) (by simp only [inB]; rw [hoth h he]; exact hin) σ'
      simp only [AV.frz] at this
      rw [hoth h he] at this
      exact this
  | nilp => intros; constructor
  | fn _ f cap vs hl hv ih => intro σ' hid hin; exact .fn _ _ _ _ (by rw [length_keeps]; exact hl) (fun i hi => by rw [length_keeps] at hi; rw [getD_keeps H id new cap i hi]; exact ih i hi hσ1 σ' hid (inBs_get hin i hi))
  | nilfn => intros; constructor
  | agg _ l vs hl hv h1 ih => intro σ' hid hin; exact .agg _ _ _ (by rw [length_keeps]; exact hl) (fun i hi => by rw [length_keeps] at hi; rw [getD_keeps H id new l i hi]; exact ih i hi hσ1 σ' hid (inBs_get hin i hi)) (fun i hi => h1 i (by rwa [length_keeps] at hi))
  | tup _ l vs hl hv ih => intro σ' hid hin; exact .tup _ _ _ (by rw [length_keeps]; exact hl) (fun i hi => by rw [length_keeps] at hi; rw [getD_keeps H id new l i hi]; exact ih i hi hσ1 σ' hid (inBs_get hin i hi))
  | any => intros; constructor

mutual
/-- No read-only memory is named: what it stands for does not hang on the region. -/
def flat : AV → Bool
  | .ro _ _ n => Nat.beq n 0
  | .rp _ _ _ => false
  | .fn _ l => flats l
  | .agg l => flats l
  | .tup l => flats l
  | _ => true
def flats : List AV → Bool
  | [] => true
  | v :: r => flat v && flats r
end
theorem flats_get {l : List AV} (h : flats l = true) (i : Nat) (hi : i < l.length) : flat (l.getD i .any) = true := by
  induction l generalizing i with
  | nil => simp at hi
  | cons v r ih =>
    simp only [flats, Bool.and_eq_true] at h
    cases i with
    | zero => simpa using h.1
    | succ i => simpa using ih h.2 i (by simpa using hi)

theorem VR.flat {w : World} {S : Nat → Prop} {σ : Nat → Option Blk} {x : AV} {v : Value} (h : VR w S σ x v) : flat x = true → ∀ S', VR w S' σ x v := by
  induction h with
  | int => intros; constructor
  | bool => intros; constructor
  | str => intros; constructor
  | nil => intros; constructor
  | ro0 => intros; constructor
  | ro σ c i len b o cap val hSb hlen hc hv h1 ih =>
    intro hf S'
    have := Nat.eq_of_beq_eq_true hf
    subst this
    exact .ro0 _ _ _ _ _
  | sl σ h i len b s C cap hσ hlen hcap => intro _ S'; exact .sl _ _ _ _ _ _ _ _ hσ hlen hcap
  | sl0 σ h hσ => intro _ S'; exact .sl0 _ _ hσ
  | rp => intro h; cases h
  | ptr σ h i j b s C hσ => intro _ S'; exact .ptr _ _ _ _ _ _ _ hσ
  | nilp => intros; constructor
  | fn σ f cap vs hl hv ih => intro hn S'; exact .fn _ _ _ _ hl (fun i hi => ih i hi (flats_get hn i hi) _)
  | nilfn => intros; constructor
  | agg σ l vs hl hv h1 ih => intro hn S'; exact .agg _ _ _ hl (fun i hi => ih i hi (flats_get hn i hi) _) h1
  | tup σ l vs hl hv ih => intro hn S'; exact .tup _ _ _ hl (fun i hi => ih i hi (flats_get hn i hi) _)
  | any => intros; constructor

def subH (HL H : AHeap) : Prop := ∀ (h : Nat) (o : AObj), HL[h]? = some (some o) → H[h]? = some (some o)

/-- The blocks that are lent. -/
def Lent (σ : Nat → Option Blk) (HL : AHeap) (b : Nat) : Prop := ∃ h o s C, HL[h]? = some (some o) ∧ σ h = some (.at b s C)

/-- The general step: a function proved over an empty memory, called over another one, some objects of which it reads. 'id': the object of its own that the caller keeps. -/
theorem ACall.over {P : Program} {f : FuncId} {args args' : List AV} {fix : Nat → Prop} {K K' : AV → AHeap → Prop} {H HL : AHeap} (hc : ACall P f args [] fix K) (hfx : ∀ h, ¬ fix h)
    (hsub : subH HL H) (hrlL : ∀ (h : Nat) (o : AObj), HL[h]? = some (some o) → refless o.c) (hlend : AV.frzs HL args' = args) (hin : inBs HL args') (hn : noRef.noRefs args = true)
    (hK : ∀ (r0 : AV) (H0 : AHeap), K r0 H0 → inB H0 r0 ∧ (∀ (h : Nat) (o : AObj), H0[h]? = some (some o) → refless o.c) ∧ ∃ (id : Nat) (o : AObj), (H0.length ≤ id ∧ K' (r0.keep H0 id H.length) H ∧ ((∀ (h : Nat) (o : AObj), HL[h]? ≠ some (some o)) ∨ flat (r0.keep H0 id H.length) = true)) ∨
      (H0[id]? = some (some o) ∧ K' (r0.keep H0 id H.length) (H ++ [some o]) ∧ ((∀ (h : Nat) (o : AObj), HL[h]? ≠ some (some o)) ∨ (flat (r0.keep H0 id H.length) = true ∧ ∀ i j, i < o.c.len → j < o.c.sz → flat (o.c.at i j) = true)))) :
    ACall P f args' H (fun h => h < H.length) K' := by
  refine ⟨hc.1, fun w σ S vals hr hf hv => ?_⟩
  let SL : Nat → Prop := fun b => S b ∨ Lent σ HL b
  have hLw : ∀ b, Lent σ HL b → b < w.heap.size := by
    rintro b ⟨h, o, s, C, h1, h2⟩
    rcases hr.live h o (hsub h o h1) with ⟨hn, _⟩ | ⟨b', C', cur, hσ', g, _⟩
    · rw [h2] at hn; cases hn
    · rw [h2] at hσ'
      simp only [Option.some.injEq, Blk.at.injEq] at hσ'
      rw [hσ'.1]
      exact (Array.getElem?_eq_some_iff.1 g).1
  have hr0 : HR w SL (fun _ => none) [] := ⟨fun h o ho => by simp at ho, fun h h' o o' b s C s' C' h1 => by simp at h1, fun b hb => hb.elim (hr.small b) (hLw b), fun _ _ => rfl⟩
  have hLL : LiveP w S σ HL := fun h o ho => hr.live h o (hsub h o ho)
  have hv0 : VRs w SL (fun _ => none) args vals := by
    subst hlend
    refine ⟨by rw [hv.1, length_frzs], fun i hi => ?_⟩
    rw [length_frzs] at hi
    rw [getD_frzs HL args' i hi]
    exact VR.freeze hLL hrlL (fun _ h => .inl h) (fun h o b s C h1 h2 => .inr ⟨h, o, s, C, h1, h2⟩) (hv.2 i hi) _ (inBs_get hin i hi)
  refine (hc.2 w (fun _ => none) SL vals hr0 (fun h hh => absurd hh (hfx h)) hv0).mono ?_
  rintro e w' ⟨v, r0, σ', S', H0, rfl, g1, g2, g3, g4⟩
  obtain ⟨k1, k2, id, o, k3⟩ := hK r0 H0 g4
  have hno : ∀ b, ¬ Owned (fun _ => none) [] b := by rintro b ⟨h, o, s, C, h1, _⟩; simp at h1
  have hblk : ∀ b, b < w.heap.size → w'.heap[b]? = w.heap[b]? := fun b hb => g3.block b hb (hno b)
  have hnew : ∀ h o b s C, H0[h]? = some (some o) → σ' h = some (.at b s C) → w.heap.size ≤ b ∧ b < w'.heap.size := by
    intro h o b s C h1 h2
    refine ⟨?_, ?_⟩
    · rcases g3.own h o b s C h1 h2 with h3 | h3
      · exact absurd h3 (hno b)
      · exact h3
    · rcases g1.live h o h1 with ⟨hn, _⟩ | ⟨b', C', cur, hσ', g, _⟩
      · rw [h2] at hn; cases hn
      · rw [h2] at hσ'
        simp only [Option.some.injEq, Blk.at.injEq] at hσ'
        rw [hσ'.1]
        exact (Array.getElem?_eq_some_iff.1 g).1
  let Oth : Nat → Prop := fun b => ∃ h o s C, h ≠ id ∧ H0[h]? = some (some o) ∧ σ' h = some (.at b s C)
  let S2 : Nat → Prop := fun b => S b ∨ (w.heap.size ≤ b ∧ (S' b ∨ Oth b))
  have hS2 : (∀ (h : Nat) (o : AObj), HL[h]? ≠ some (some o)) → ∀ b, S' b ∨ Oth b → S2 b := by
    intro hnl b hb
    rcases hb with hb | hb
    · rcases g3.S2 b hb with h1 | h1 | h1
      · rcases h1 with h1 | ⟨h, o, s, C, h1, _⟩
        · exact .inl h1
        · exact absurd h1 (hnl h o)
      · exact absurd h1 (hno b)
      · exact .inr ⟨h1, .inl hb⟩
    · obtain ⟨h, o, s, C, h1, h2, h3⟩ := hb
      exact .inr ⟨(hnew h o b s C h2 h3).1, .inr ⟨h, o, s, C, h1, h2, h3⟩⟩
  have hS2lt : ∀ b, b < w.heap.size → S2 b → S b := by
    intro b hb hs
    rcases hs with h1 | ⟨h1, _⟩
    · exact h1
    · omega
  have hS2small : ∀ b, S2 b → b < w'.heap.size := by
    intro b hs
    rcases hs with h1 | ⟨_, h1 | ⟨h, o, s, C, _, h2, h3⟩⟩
    · have := hr.small b h1; have := g3.size; simp only [mkCtx] at this; omega
    · exact g1.small b h1
    · exact (hnew h o b s C h2 h3).2
  -- the old objects
  have hold : ∀ σ2 : Nat → Option Blk, (∀ h B, σ h = some B → σ2 h = some B) → LiveP w' S2 σ2 H := by
    intro σ2 hσ2 h o ho
    rcases hr.live h o ho with ⟨hn, hl0⟩ | ⟨b, C, cur, h1, h2, h3, h4, h5, h6, h7⟩
    · exact .inl ⟨hσ2 _ _ hn, hl0⟩
    · right
      have hlt := (Array.getElem?_eq_some_iff.1 h2).1
      refine ⟨b, C, cur, hσ2 _ _ h1, by rw [hblk b hlt]; exact h2, h3, h4, h5, fun hs => h6 (hS2lt b hlt hs), fun i j hi hj => ?_⟩
      obtain ⟨v, e1, e2, e3⟩ := h7 i j hi hj
      exact ⟨v, e1, e2.mono (fun _ h => .inl h) (fun b hb => hblk b (hr.small b hb)) _ hσ2, e3⟩
  have hres : ∀ σ2 : Nat → Option Blk, (∀ B, σ' id = some B → σ2 H.length = some B) → VR w' (fun b => S' b ∨ Oth b) σ2 (r0.keep H0 id H.length) v := fun σ2 h2 =>
    VR.keep g1.live k2 (fun _ h => .inl h) (fun h o b s C hne h1 h3 => .inr ⟨h, o, s, C, hne, h1, h3⟩) g2 σ2 h2 k1
  rcases k3 with ⟨k3, k4, k5⟩ | ⟨k3, k4, k5⟩
  · refine ⟨v, _, σ, S2, H, rfl, ⟨hold σ (fun _ _ h => h), hr.dist, hS2small, hr.dom⟩, ?_, ⟨g3.os, g3.output, g3.tape, g3.size, fun b hb _ => hblk b hb, fun b hb => .inl hb, fun b hb => hb.elim .inl (fun h => .inr (.inr h.1)), fun _ _ => rfl, fun _ h => h, fun h o b s C h1 h2 => .inl ⟨h, o, s, C, h1, h2⟩⟩, k4⟩
    have h1 := hres σ (fun B hB => by rw [g1.dom id k3] at hB; cases hB)
    rcases k5 with hnl | hfl
    · exact h1.mono (hS2 hnl) (fun _ _ => rfl) _ (fun _ _ h => h)
    · exact h1.flat hfl _
  · have hidlive := g1.live id o k3
    obtain ⟨B, hB⟩ : ∃ B, σ' id = some B := by
      rcases hidlive with ⟨h, _⟩ | ⟨b, C, cur, h, _⟩
      · exact ⟨_, h⟩
      · exact ⟨_, h⟩
    have hext : ∀ h B', σ h = some B' → upσ σ H.length B h = some B' := by
      intro h B' hB'
      unfold upσ
      split
      · rename_i he; rw [he, hr.dom _ (Nat.le_refl _)] at hB'; cases hB'
      · exact hB'
    have hset : ∀ h' o', (H ++ [some o])[h']? = some (some o') → (h' = H.length ∧ o' = o) ∨ (h' < H.length ∧ H[h']? = some (some o')) := by
      intro h' o' ho
      by_cases he : h' < H.length
      · rw [List.getElem?_append_left he] at ho; exact .inr ⟨he, ho⟩
      · by_cases he2 : h' = H.length
        · subst he2; simp at ho; exact .inl ⟨rfl, ho.symm⟩
        · have : (H ++ [some o]).length ≤ h' := by simp; omega
          rw [List.getElem?_eq_none this] at ho; cases ho
    have hlto : ∀ h o' b s C', h < H.length → H[h]? = some (some o') → σ h = some (.at b s C') → b < w.heap.size := by
      intro h o' b s C' _ ho hb
      rcases hr.live h o' ho with ⟨hn, _⟩ | ⟨b', C', cur, hσ', g, _⟩
      · rw [hb] at hn; cases hn
      · rw [hb] at hσ'
        simp only [Option.some.injEq, Blk.at.injEq] at hσ'
        rw [hσ'.1]
        exact (Array.getElem?_eq_some_iff.1 g).1
    have hnone : ∀ h, h < H.length → upσ σ H.length B h = σ h := fun h hl => by simp [upσ, Nat.ne_of_lt hl]
    refine ⟨v, _, upσ σ H.length B, S2, H ++ [some o], rfl, ⟨?_, ?_, hS2small, fun h hl => ?_⟩, ?_, ⟨g3.os, g3.output, g3.tape, g3.size, fun b hb _ => hblk b hb, fun b hb => .inl hb, fun b hb => hb.elim .inl (fun h => .inr (.inr h.1)), fun h hl => hnone h hl, fun h hl => by have hl' : h < H.length := hl; simp; omega, fun h o' b s C h1 h2 => ?_⟩, k4⟩
    · intro h' o' ho
      rcases hset h' o' ho with ⟨rfl, rfl⟩ | ⟨hlt, ho'⟩
      · rcases hidlive with ⟨hn, hl0⟩ | ⟨b, C, cur, h1, h2, h3, h4, h5, h6, h7⟩
        · left
          rw [hB] at hn
          exact ⟨by simp [upσ, hn], hl0⟩
        · right
          have hb1 := hnew id o' b _ C k3 h1
          rw [hB] at h1
          refine ⟨b, C, cur, by simp [upσ, h1], h2, h3, h4, h5, ?_, fun i j hi hj => ?_⟩
          · rintro (hs | ⟨_, hs | ⟨hx, ox, sx, Cx, hne, hx1, hx2⟩⟩)
            · have := hr.small b hs; omega
            · exact h6 hs
            · exact hne (g1.dist hx id ox o' b sx Cx _ C hx1 k3 hx2 (by rw [hB]; exact h1))
          · obtain ⟨u, e1, e2, e3⟩ := h7 i j hi hj
            refine ⟨u, e1, ?_, e3⟩
            have e4 := e2.closed (k2 id o' k3 i j hi hj) (upσ σ H.length B)
            rcases k5 with hnl | hfl
            · exact e4.mono (fun b hb => hS2 hnl b (.inl hb)) (fun _ _ => rfl) _ (fun _ _ h => h)
            · exact e4.flat (hfl.2 i j hi hj) _
      · exact hold _ hext h' o' ho'
    · intro h1 h2 o1 o2 b s1 C1 s2 C2 q1 q2 e1 e2
      rcases hset h1 o1 q1 with ⟨rfl, rfl⟩ | ⟨l1, q1'⟩ <;> rcases hset h2 o2 q2 with ⟨rfl, rfl⟩ | ⟨l2, q2'⟩
      · rfl
      · simp only [upσ, if_true] at e1
        rw [hnone h2 l2] at e2
        have := hlto h2 o2 b s2 C2 l2 q2' e2
        have := (hnew id o1 b s1 C1 k3 (by rw [hB]; exact e1)).1
        omega
      · simp only [upσ, if_true] at e2
        rw [hnone h1 l1] at e1
        have := hlto h1 o1 b s1 C1 l1 q1' e1
        have := (hnew id o2 b s2 C2 k3 (by rw [hB]; exact e2)).1
        omega
      · rw [hnone h1 l1] at e1
        rw [hnone h2 l2] at e2
        exact hr.dist h1 h2 o1 o2 b s1 C1 s2 C2 q1' q2' e1 e2
    · simp only [List.length_append, List.length_cons, List.length_nil] at hl
      have : ¬ h = H.length := by omega
      simp only [upσ, this, if_false]
      exact hr.dom h (by omega)
    · have h1 := hres (upσ σ H.length B) (fun B' hB' => by rw [hB] at hB'; simp only [Option.some.injEq] at hB'; simp [upσ, hB'])
      rcases k5 with hnl | hfl
      · exact h1.mono (hS2 hnl) (fun _ _ => rfl) _ (fun _ _ h => h)
      · exact h1.flat hfl.1 _
    · rcases hset h o' h1 with ⟨rfl, rfl⟩ | ⟨hlt, ho'⟩
      · simp only [upσ, if_true] at h2
        exact .inr (hnew id o' b s C k3 (by rw [hB]; exact h2)).1
      · rw [hnone h hlt] at h2
        exact .inl ⟨h, o', s, C, ho', h2⟩

theorem subH_refl (H : AHeap) : subH H H := fun _ _ h => h
theorem subH_nil (H : AHeap) : subH [] H := fun h o hh => by simp at hh

/-- A value result, nothing lent. (See also ACall.value.) -/
theorem VCall.lend {P : Program} {f : FuncId} {args args' : List AV} {r : AV} {H : AHeap} (hc : VCall P f args r) (hrl : ∀ (h : Nat) (o : AObj), H[h]? = some (some o) → refless o.c) (hlend : AV.frzs H args' = args) (hin : inBs H args') (hn : noRef.noRefs args = true) (hr : noRef r = true) (hfl : flat r = true) :
    ACall P f args' H (fun h => h < H.length) (fun r' H' => r' = r ∧ H' = H) := by
  refine ACall.over (hc []) (fun h hh => by simp at hh) (subH_refl H) hrl hlend hin hn ?_
  rintro r0 H0 ⟨rfl, rfl⟩
  have hk : r0.keep [] 0 H.length = r0 := keep_noRef hr
  refine ⟨inB_noRef hr, fun h o ho => by simp at ho, 0, ⟨0, .ints .i64 []⟩, .inl ⟨Nat.le_refl _, ⟨hk, rfl⟩, .inr (by rw [hk]; exact hfl)⟩⟩
where
  keep_noRef {id new : Nat} {Hx : AHeap} : ∀ {v : AV}, noRef v = true → v.keep Hx id new = v
    | .int _ _, _ => rfl
    | .bool _, _ => rfl
    | .str _, _ => rfl
    | .nil, _ => rfl
    | .ro _ _ _, _ => rfl
    | .sl _ _ _, hv => by cases hv
    | .rp _ _ _, _ => rfl
    | .ptr _ _ _, hv => by cases hv
    | .nilp, _ => rfl
    | .fn f l, hv => by simp only [AV.keep]; rw [ks l hv]
    | .nilfn, _ => rfl
    | .agg l, hv => by simp only [AV.keep]; rw [ks l hv]
    | .tup l, hv => by simp only [AV.keep]; rw [ks l hv]
    | .any, _ => rfl
  ks {id new : Nat} {Hx : AHeap} : ∀ (l : List AV), noRef.noRefs l = true → AV.keeps Hx id new l = l
    | [], _ => rfl
    | v :: r, hv => by
      simp only [noRef.noRefs, Bool.and_eq_true] at hv
      simp only [AV.keeps]
      rw [keep_noRef hv.1, ks r hv.2]
  inB_noRef {Hx : AHeap} : ∀ {v : AV}, noRef v = true → inB Hx v
    | .int _ _, _ => trivial
    | .bool _, _ => trivial
    | .str _, _ => trivial
    | .nil, _ => trivial
    | .ro _ _ _, _ => trivial
    | .sl _ _ _, hv => by cases hv
    | .rp _ _ _, _ => trivial
    | .ptr _ _ _, hv => by cases hv
    | .nilp, _ => trivial
    | .fn _ l, hv => inBs_noRef l hv
    | .nilfn, _ => trivial
    | .agg l, hv => inBs_noRef l hv
    | .tup l, hv => inBs_noRef l hv
    | .any, _ => trivial
  inBs_noRef {Hx : AHeap} : ∀ (l : List AV), noRef.noRefs l = true → inBs Hx l
    | [], _ => trivial
    | v :: r, hv => by
      simp only [noRef.noRefs, Bool.and_eq_true] at hv
      exact ⟨inB_noRef hv.1, inBs_noRef r hv.2⟩

/-- One object is made, and kept. -/
theorem ACall.fresh {P : Program} {f : FuncId} {args : List AV} {fix : Nat → Prop} {r : Nat → AV} {o : AObj} {K : AV → AHeap → Prop} (hc : ACall P f args [] fix K) (hfx : ∀ h, ¬ fix h) (hn : noRef.noRefs args = true) (ha : ∀ H : AHeap, AV.frzs [] args = args ∧ inBs H args)
    (hK : ∀ (r0 : AV) (H0 : AHeap), K r0 H0 → inB H0 r0 ∧ (∀ (h : Nat) (o : AObj), H0[h]? = some (some o) → refless o.c) ∧ ∃ id, H0[id]? = some (some o) ∧ ∀ n, r0.keep H0 id n = r n) : FCall P f args r o := by
  intro H
  refine ACall.over hc hfx (subH_nil H) (fun h o ho => by simp at ho) (ha []).1 (ha []).2 hn ?_
  intro r0 H0 h0
  obtain ⟨h1, h2, id, h3, h4⟩ := hK r0 H0 h0
  exact ⟨h1, h2, id, o, .inr ⟨h3, ⟨h4 _, rfl⟩, .inl (fun h o => by simp)⟩⟩
end Go.Ax
