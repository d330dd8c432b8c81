/-
  Contracts in a larger memory; objects given up.
-/
import Derived.Test.YtmfhdfofmdggaaaAxCall
set_option linter.unusedVariables false
set_option linter.unusedSimpArgs false
namespace Go.Ax
open Go.RowKit

/-- A contract on a function that is called with plain values and gives back a plain value: whatever memory there is, it stays. -/
def VCall (P : Program) (f : FuncId) (args : List AV) (r : AV) : Prop := ∀ H, ACall P f args H (fun h => h < H.length) (fun r' H' => r' = r ∧ H' = H)

theorem VRs.closed {w : World} {S : Nat → Prop} {σ : Nat → Option Blk} {args : List AV} {vals : Array Value} (h : VRs w S σ args vals) (hn : noRef.noRefs args = true) (σ' : Nat → Option Blk) : VRs w S σ' args vals :=
  ⟨h.1, fun i hi => (h.2 i hi).closed (noRefs_get hn i hi) σ'⟩

theorem HR.empty {w : World} {S : Nat → Prop} {σ : Nat → Option Blk} {H : AHeap} (h : HR w S σ H) : HR w S (fun _ => none) [] :=
  ⟨fun h o ho => by simp at ho, fun h h' o o' b s C s' C' h1 => by simp at h1, h.small, fun _ _ => rfl⟩

/-- The caller's memory behind a call that was made over an empty one. -/
theorem HR.after {w w' : World} {S S' : Nat → Prop} {σ σ0' : Nat → Option Blk} {H H0 : AHeap} {fix : Nat → Prop} {K : AV → AHeap → Prop} (h : HR w S σ H) (hr : HR w' S' σ0' H0) (hk : Kp (mkCtx w S (fun _ => none) [] fix K) w' S' σ0' H0) :
    HR w' S' σ H ∧ ∀ K', Kp (mkCtx w S σ H (fun h => h < H.length) K') w' S' σ H := by
  have hno : ∀ b, ¬ Owned (fun _ => none) [] b := by rintro b ⟨h, o, s, C, h1, _⟩; simp at h1
  have hblk : ∀ b, b < w.heap.size → w'.heap[b]? = w.heap[b]? := fun b hb => hk.block b hb (hno b)
  have hv : ∀ {σ'' : Nat → Option Blk} {x v}, VR w S σ'' x v → VR w' S' σ'' x v := fun hv => hv.mono hk.S1 (fun b hb => hblk b (h.small b hb)) _ (fun _ _ h => h)
  have hSn : ∀ b, b < w.heap.size → ¬ S b → ¬ S' b := by
    intro b hb hs hs'
    rcases hk.S2 b hs' with h1 | h1 | h1
    · exact hs h1
    · exact hno b h1
    · simp only [mkCtx] at h1; omega
  refine ⟨⟨fun h' o ho => ?_, h.dist, hr.small, h.dom⟩, fun K' => ⟨hk.os, hk.output, hk.tape, hk.size, fun b hb _ => hblk b hb, hk.S1, fun b hb => (hk.S2 b hb).elim .inl (fun h => h.elim (fun h => absurd h (hno b)) (fun h => .inr (.inr h))), fun _ _ => rfl, fun _ h => h, fun h o b s C h1 h2 => .inl ⟨h, o, s, C, h1, h2⟩⟩⟩
  rcases h.live h' o ho with hn | ⟨b, C, cur, h1, h2, h3, h4, h5, h6, h7⟩
  · exact .inl hn
  · right
    have hlt := (Array.getElem?_eq_some_iff.1 h2).1
    refine ⟨b, C, cur, h1, by rw [hblk b hlt]; exact h2, h3, h4, h5, hSn b hlt h6, fun i j hi hj => ?_⟩
    obtain ⟨v, e1, e2, e3⟩ := h7 i j hi hj
    exact ⟨v, e1, hv e2, e3⟩

mutual
/-- A value whose objects are given up: read from now on. -/
def AV.frz (H : AHeap) : AV → AV
  | .sl h i n => match H[h]? with
    | some (some o) => .ro o.c i n
    | _ => .any
  | .ptr h i j => match H[h]? with
    | some (some o) => .rp o.c i j
    | _ => .any
  | .fn f l => .fn f (AV.frzs H l)
  | .agg l => .agg (AV.frzs H l)
  | .tup l => .tup (AV.frzs H l)
  | v => v
def AV.frzs (H : AHeap) : List AV → List AV
  | [] => []
  | v :: r => v.frz H :: AV.frzs H r
end

theorem length_frzs (H : AHeap) (l : List AV) : (AV.frzs H l).length = l.length := by
  induction l with
  | nil => rfl
  | cons v r ih => simp [AV.frzs, ih]
theorem getD_frzs (H : AHeap) (l : List AV) (i : Nat) (hi : i < l.length) : (AV.frzs H l).getD i .any = (l.getD i .any).frz H := by
  induction l generalizing i with
  | nil => simp at hi
  | cons v r ih => cases i with
    | zero => rfl
    | succ i => simpa [AV.frzs] using ih i (by simpa using hi)

/-- Its cells name no object. -/
def refless (c : Cells) : Prop := ∀ i j, i < c.len → j < c.sz → noRef (c.at i j) = true
theorem refless_simple {c : Cells} (h : c.simple = true) : refless c := by
  intro i j _ _
  cases c <;> first | rfl | cases h

mutual
/-- Every slice lies within its object, every pointer too. -/
def inB (H : AHeap) : AV → Prop
  | .sl h i n => ∀ o, H[h]? = some (some o) → i + n ≤ o.c.len
  | .ptr h i _ => ∀ o, H[h]? = some (some o) → i < o.c.len
  | .fn _ l => inBs H l
  | .agg l => inBs H l
  | .tup l => inBs H l
  | _ => True
def inBs (H : AHeap) : List AV → Prop
  | [] => True
  | v :: r => inB H v ∧ inBs H r
end
theorem inBs_get {H : AHeap} {l : List AV} (h : inBs H l) (i : Nat) (hi : i < l.length) : inB H (l.getD i .any) := by
  induction l generalizing i with
  | nil => simp at hi
  | cons v r ih => cases i with
    | zero => exact h.1
    | succ i => simpa using ih h.2 i (by simpa using hi)

/-- The objects lie in their blocks. -/
def LiveP (w : World) (S : Nat → Prop) (σ : Nat → Option Blk) (H : AHeap) : Prop :=
  ∀ h o, H[h]? = some (some o) →
    (σ h = some .nowhere ∧ o.c.len = 0) ∨
    ∃ b C cur, σ h = some (.at b o.c.sz C) ∧ w.heap[b]? = some (.cells cur o.ty (0, 0)) ∧ cur.size = C * o.c.sz ∧ C ≤ maxLen ∧ o.c.len ≤ C ∧ ¬ S b ∧
      ∀ i j, i < o.c.len → j < o.c.sz → ∃ v, cur[i * o.c.sz + j]? = some v ∧ VR w S σ (o.c.at i j) v ∧ v.oneCell' = true

theorem VR.freeze {w : World} {S : Nat → Prop} {σ : Nat → Option Blk} {H : AHeap} (hhr : LiveP w S σ H) (hrl : ∀ (h : Nat) (o : AObj), H[h]? = some (some o) → refless o.c) {S' : Nat → Prop} (hS : ∀ b, S b → S' b) (hS' : ∀ h o b s C, H[h]? = some (some o) → σ h = some (.at b s C) → S' b) {x : AV} {v : Value}
    (hv : VR w S σ x v) : ∀ σ', inB H x → VR w S' σ' (x.frz H) v := by
  have hup : ∀ {σ1 : Nat → Option Blk} {x v}, VR w S σ1 x v → VR w S' σ1 x v := fun h => h.mono hS (fun _ _ => rfl) _ (fun _ _ h => h)
  obtain ⟨σ1, hσ1⟩ : ∃ σ1, σ1 = σ := ⟨σ, rfl⟩
  rw [← hσ1] at hv
  induction hv with
  | int => intros; constructor
  | bool => intros; constructor
  | str => intros; constructor
  | nil => intros; constructor
  | ro0 => intros; constructor
  | ro _ c i len b o cap val hSb hlen hc hvv h1 ih => intro σ' _; exact .ro _ _ _ _ _ _ _ val (hS _ hSb) hlen hc (fun d j hd hj => hup (hvv d j hd hj)) h1
  | sl σx h i len b s C cap hσ hlen hcap =>
    rw [hσ1] at hσ
    intro σ' hin
    simp only [AV.frz]
    cases hq : H[h]? with
    | none => exact .any _ _
    | some oo => cases oo with
      | none => exact .any _ _
      | some o =>
        simp only
        have hin' : i + len ≤ o.c.len := hin o hq
        rcases hhr h o hq with ⟨hn, _⟩ | ⟨b', C', cur, hσ', g1, g2, g3, g4, g5, g6⟩
        · rw [hσ] at hn; cases hn
        · rw [hσ] at hσ'
          simp only [Option.some.injEq, Blk.at.injEq] at hσ'
          obtain ⟨rfl, rfl, rfl⟩ := hσ'
          have hat : ∀ d j, d < len → j < o.c.sz → ∃ u, cur[(i + d) * o.c.sz + j]? = some u ∧ VR w S σ (o.c.at (i + d) j) u ∧ u.oneCell' = true := fun d j hd hj => g6 (i + d) j (by omega) hj
          refine .ro _ _ _ _ _ _ _ (fun d j => (cur[(i + d) * o.c.sz + j]?).getD undef) (hS' h o b _ C hq hσ) hlen (fun d j hd hj => ?_) (fun d j hd hj => ?_) (fun d j hd hj => ?_)
          · obtain ⟨u, e1, _⟩ := hat d j hd hj
            have e : i * o.c.sz + d * o.c.sz + j = (i + d) * o.c.sz + j := by rw [Nat.add_mul]
            simp [World.cell?, g1, e, e1]
          · obtain ⟨u, e1, e2, _⟩ := hat d j hd hj
            simp only [e1, Option.getD_some]
            exact hup (e2.closed (hrl h o hq _ _ (by omega) hj) _)
          · obtain ⟨u, e1, _, e3⟩ := hat d j hd hj
            simp only [e1, Option.getD_some]
            exact e3
  | sl0 _ h hσ =>
    intro σ' hin
    simp only [AV.frz]
    cases hq : H[h]? with
    | none => exact .any _ _
    | some oo => cases oo with
      | none => exact .any _ _
      | some o => exact .ro0 _ _ _ _ _
  | rp _ c i j b o val hSb hc hvv h1 ih => intro σ' _; exact .rp _ _ _ _ _ _ val (hS _ hSb) hc (fun e he => hup (hvv e he)) h1
  | ptr σx h i j b s C hσ =>
    rw [hσ1] at hσ
    intro σ' hin
    simp only [AV.frz]
    cases hq : H[h]? with
    | none => exact .any _ _
    | some oo => cases oo with
      | none => exact .any _ _
      | some o =>
        simp only
        have hin' : i < o.c.len := hin o hq
        rcases hhr h o hq with ⟨hn, _⟩ | ⟨b', C', cur, hσ', g1, g2, g3, g4, g5, g6⟩
        · rw [hσ] at hn; cases hn
        · rw [hσ] at hσ'
          simp only [Option.some.injEq, Blk.at.injEq] at hσ'
          obtain ⟨rfl, rfl, rfl⟩ := hσ'
          refine .rp _ _ _ _ _ _ (fun e => (cur[i * o.c.sz + (j + e)]?).getD undef) (hS' h o b _ C hq hσ) (fun e he => ?_) (fun e he => ?_) (fun e he => ?_)
          · obtain ⟨u, e1, _⟩ := g6 i (j + e) hin' he
            have e' : i * o.c.sz + j + e = i * o.c.sz + (j + e) := by omega
            simp [World.cell?, g1, e', e1]
          · obtain ⟨u, e1, e2, _⟩ := g6 i (j + e) hin' he
            simp only [e1, Option.getD_some]
            exact hup (e2.closed (hrl h o hq _ _ hin' he) _)
          · obtain ⟨u, e1, _, e3⟩ := g6 i (j + e) hin' he
            simp only [e1, Option.getD_some]
            exact e3
  | nilp => intros; constructor
  | fn _ f cap vs hl hv ih => intro σ' hin; exact .fn _ _ _ _ (by rw [length_frzs]; exact hl) (fun i hi => by rw [length_frzs] at hi; rw [getD_frzs H cap i hi]; exact ih i hi hσ1 σ' (inBs_get hin i hi))
  | nilfn => intros; constructor
  | agg _ l vs hl hv h1 ih => intro σ' hin; exact .agg _ _ _ (by rw [length_frzs]; exact hl) (fun i hi => by rw [length_frzs] at hi; rw [getD_frzs H l i hi]; exact ih i hi hσ1 σ' (inBs_get hin i hi)) (fun i hi => h1 i (by rwa [length_frzs] at hi))
  | tup _ l vs hl hv ih => intro σ' hin; exact .tup _ _ _ (by rw [length_frzs]; exact hl) (fun i hi => by rw [length_frzs] at hi; rw [getD_frzs H l i hi]; exact ih i hi hσ1 σ' (inBs_get hin i hi))
  | any => intros; constructor

/-- A function proved over an empty memory, at plain arguments; its result is read from then on. -/
theorem ACall.value {P : Program} {f : FuncId} {args : List AV} {fix : Nat → Prop} {r : AV} {K : AV → AHeap → Prop} (hc : ACall P f args [] fix K) (hfx : ∀ h, ¬ fix h) (hn : noRef.noRefs args = true)
    (hK : ∀ r0 H0, K r0 H0 → r0.frz H0 = r ∧ inB H0 r0 ∧ ∀ (h : Nat) (o : AObj), H0[h]? = some (some o) → refless o.c) : VCall P f args r := by
  intro H
  refine ⟨hc.1, fun w σ S vals hr hf hv => ?_⟩
  refine (hc.2 w (fun _ => none) S vals hr.empty (fun h hh => absurd hh (hfx h)) (hv.closed hn _)).mono ?_
  rintro e w' ⟨v, r0, σ', S', H0, rfl, g1, g2, g3, g4⟩
  obtain ⟨k1, k2, k3⟩ := hK r0 H0 g4
  have hno : ∀ b, ¬ Owned (fun _ => none) [] b := by rintro b ⟨h, o, s, C, h1, _⟩; simp at h1
  -- the region takes the new objects' blocks in
  let S2 : Nat → Prop := fun b => S' b ∨ ∃ h o s C, H0[h]? = some (some o) ∧ σ' h = some (.at b s C)
  have hlt : ∀ b, (∃ h o s C, H0[h]? = some (some o) ∧ σ' h = some (.at b s C)) → w.heap.size ≤ b ∧ b < w'.heap.size := by
    rintro b ⟨h, o, s, C, h1, h2⟩
    refine ⟨?_, ?_⟩
    · rcases g3.own h o b s C h1 h2 with h3 | h3
      · exact absurd h3 (hno b)
      · exact h3
    · rcases g1.live h o h1 with ⟨hn, _⟩ | ⟨b', C', cur, hσ', g, _⟩
      · rw [h2] at hn; cases hn
      · rw [h2] at hσ'
        simp only [Option.some.injEq, Blk.at.injEq] at hσ'
        rw [hσ'.1]
        exact (Array.getElem?_eq_some_iff.1 g).1
  have hr2 : HR w' S2 (fun _ => none) [] := ⟨fun h o ho => by simp at ho, fun h h' o o' b s C s' C' h1 => by simp at h1, fun b hb => by
    rcases hb with h1 | h1
    · exact g1.small b h1
    · exact (hlt b h1).2, fun _ _ => rfl⟩
  have hk2 : Kp (mkCtx w S (fun _ => none) [] (fun _ => False) K) w' S2 (fun _ => none) [] :=
    ⟨g3.os, g3.output, g3.tape, g3.size, g3.block, fun b hb => .inl (g3.S1 b hb), fun b hb => by
      rcases hb with h1 | h1
      · exact g3.S2 b h1
      · exact .inr (.inr (hlt b h1).1), fun _ h => h.elim, fun _ h => h.elim, fun h o b s C h1 => by simp at h1⟩
  obtain ⟨a1, a2⟩ := hr.after hr2 hk2
  refine ⟨v, r, σ, S2, H, rfl, a1, ?_, a2 _, rfl, rfl⟩
  rw [← k1]
  exact VR.freeze g1.live k3 (fun _ h => .inl h) (fun h o b s C h1 h2 => .inr ⟨h, o, s, C, h1, h2⟩) g2 σ k2

/-- .. whose result names no memory of its own. -/
theorem ACall.value0 {P : Program} {f : FuncId} {args : List AV} {fix : Nat → Prop} {r : AV} (hc : ACall P f args [] fix (fun r' _ => r' = r)) (hfx : ∀ h, ¬ fix h) (hn : noRef.noRefs args = true) (hr : noRef r = true) : VCall P f args r := by
  intro H
  refine ⟨hc.1, fun w σ S vals hrep hf hv => ?_⟩
  refine (hc.2 w (fun _ => none) S vals hrep.empty (fun h hh => absurd hh (hfx h)) (hv.closed hn _)).mono ?_
  rintro e w' ⟨v, r0, σ', S', H0, rfl, g1, g2, g3, g4⟩
  obtain ⟨a1, a2⟩ := hrep.after g1 g3
  subst g4
  exact ⟨v, r0, σ, S', H, rfl, a1, g2.closed hr σ, a2 _, rfl, rfl⟩
end Go.Ax
