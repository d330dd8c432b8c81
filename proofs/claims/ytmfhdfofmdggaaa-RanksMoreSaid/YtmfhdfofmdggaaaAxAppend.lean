/-
  Rules: boxes, append.
-/
import Derived.Test.YtmfhdfofmdggaaaAxMem3
set_option linter.unusedVariables false
set_option linter.unusedSimpArgs false
namespace Go.Ax
open Go.RowKit

mutual
/-- What named object h as a slice is no longer known. -/
def AV.forget (h : Nat) : AV → AV
  | .sl h' i n => bif Nat.beq h' h then .any else .sl h' i n
  | .ptr h' i j => bif Nat.beq h' h then .any else .ptr h' i j
  | .fn f l => .fn f (AV.forgets h l)
  | .agg l => .agg (AV.forgets h l)
  | .tup l => .tup (AV.forgets h l)
  | v => v
def AV.forgets (h : Nat) : List AV → List AV
  | [] => []
  | v :: r => v.forget h :: AV.forgets h r
end

theorem length_forgets (h : Nat) (l : List AV) : (AV.forgets h l).length = l.length := by
  induction l with
  | nil => rfl
  | cons v r ih => simp [AV.forgets, ih]
theorem getD_forgets (h : Nat) (l : List AV) (i : Nat) (hi : i < l.length) : (AV.forgets h l).getD i .any = (l.getD i .any).forget h := by
  induction l generalizing i with
  | nil => simp at hi
  | cons v r ih => cases i with
    | zero => rfl
    | succ i => simpa [AV.forgets] using ih i (by simpa using hi)

theorem VR.forget {w : World} {S : Nat → Prop} {σ : Nat → Option Blk} {x : AV} {v : Value} {h : Nat} (hv : VR w S σ x v) : ∀ σ', (∀ h', h' ≠ h → σ' h' = σ h') → VR w S σ' (x.forget h) v := by
  induction hv with
  | int => intros; constructor
  | bool => intros; constructor
  | str => intros; constructor
  | nil => intros; constructor
  | ro0 => intros; constructor
  | ro σ c i len b o cap val hSb hlen hc hv h1 ih => intro σ' _; exact .ro _ _ _ _ _ _ _ val hSb hlen hc hv h1
  | sl σ h' i len b s C cap hσ hlen hcap =>
    intro σ' hs
    simp only [AV.forget]
    by_cases he : h' = h
    · subst he; simp only [Nat.beq_refl, cond_true]; exact .any _ _
    · simp only [beq_ne he, cond_false]; exact .sl _ _ _ _ _ _ _ _ (by rw [hs h' he]; exact hσ) hlen hcap
  | sl0 σ h' hσ =>
    intro σ' hs
    simp only [AV.forget]
    by_cases he : h' = h
    · subst he; simp only [Nat.beq_refl, cond_true]; exact .any _ _
    · simp only [beq_ne he, cond_false]; exact .sl0 _ _ (by rw [hs h' he]; exact hσ)
  | rp σ c i j b o val hSb hc hv h1 ih => intro σ' _; exact .rp _ _ _ _ _ _ val hSb hc hv h1
  | ptr σ h' i j b s C hσ =>
    intro σ' hs
    simp only [AV.forget]
    by_cases he : h' = h
    · subst he; simp only [Nat.beq_refl, cond_true]; exact .any _ _
    · simp only [beq_ne he, cond_false]; exact .ptr _ _ _ _ _ _ _ (by rw [hs h' he]; exact hσ)
  | nilp => intros; constructor
  | fn σ f cap vs hl hv ih => intro σ' hs; exact .fn _ _ _ _ (by rw [length_forgets]; exact hl) (fun i hi => by rw [length_forgets] at hi; rw [getD_forgets h cap i hi]; exact ih i hi σ' hs)
  | nilfn => intros; constructor
  | agg σ l vs hl hv h1 ih => intro σ' hs; exact .agg _ _ _ (by rw [length_forgets]; exact hl) (fun i hi => by rw [length_forgets] at hi; rw [getD_forgets h l i hi]; exact ih i hi σ' hs) (fun i hi => h1 i (by rwa [length_forgets] at hi))
  | tup σ l vs hl hv ih => intro σ' hs; exact .tup _ _ _ (by rw [length_forgets]; exact hl) (fun i hi => by rw [length_forgets] at hi; rw [getD_forgets h l i hi]; exact ih i hi σ' hs)
  | any => intros; constructor

def Cells.forget (h : Nat) : Cells → Cells
  | .ints k l => .ints k l
  | .strs l => .strs l
  | .box l => .box (AV.forgets h l)
  | .fn n s f => .fn n s (fun i j => (f i j).forget h)

theorem Cells.forget_len (h : Nat) (c : Cells) : (c.forget h).len = c.len := by cases c <;> rfl
theorem Cells.forget_sz (h : Nat) (c : Cells) : (c.forget h).sz = c.sz := by
  cases c <;> first | rfl | exact length_forgets _ _
theorem Cells.forget_at (h : Nat) (c : Cells) (i j : Nat) (hj : j < c.sz) : (c.forget h).at i j = (c.at i j).forget h := by
  cases c with
  | box l => exact getD_forgets h l j hj
  | _ => rfl

def forgetO (h : Nat) : Option AObj → Option AObj
  | some o => some ⟨o.ty, o.c.forget h⟩
  | none => none
def forgetH (h : Nat) : AHeap → AHeap
  | [] => []
  | o :: r => forgetO h o :: forgetH h r
def forgetF (h : Nat) : Fr → Fr
  | [] => []
  | (t, v) :: r => (t, v.forget h) :: forgetF h r

theorem forgetH_get (h : Nat) (H : AHeap) (i : Nat) : (forgetH h H)[i]? = (H[i]?).map (forgetO h) := by
  induction H generalizing i with
  | nil => simp [forgetH]
  | cons o r ih => cases i with
    | zero => simp [forgetH]
    | succ i => simpa [forgetH] using ih i
theorem forgetH_length (h : Nat) (H : AHeap) : (forgetH h H).length = H.length := by
  induction H with
  | nil => rfl
  | cons o r ih => simp [forgetH, ih]
theorem look_forgetF (h : Nat) (fr : Fr) (t : Nat) : look t (forgetF h fr) = (look t fr).map (AV.forget h) := by
  induction fr with
  | nil => rfl
  | cons p r ih =>
    obtain ⟨u, v⟩ := p
    simp only [forgetF, look]
    cases Nat.beq t u <;> simp [ih]

/-- Object h is elsewhere now: in block b, whole; all else as it was. -/
theorem Rep.moved {c : Ctx} {w w' : World} {a : Act} {σ : Nat → Option Blk} {S : Nat → Prop} {n : Nat} {fr : Fr} {H : AHeap} (hr : Rep c w a σ S n fr H) {h : Nat} {o : AObj} (hh : H[h]? = some (some o)) {c' : Cells} {b C : Nat} {cur : Array Value}
    (hos : w'.os = w.os) (hout : w'.output = w.output) (htape : w'.tape = w.tape) (hsize : w.heap.size ≤ w'.heap.size)
    (hsz : c'.sz = o.c.sz)
    (hblk : ∀ b', b' < w.heap.size → b' ≠ b → w'.heap[b']? = w.heap[b']?)
    (hb : w'.heap[b]? = some (.cells cur o.ty (0, 0))) (hcur : cur.size = C * c'.sz) (hC : C ≤ maxLen) (hlen : c'.len ≤ C)
    (hfresh : w.heap.size ≤ b ∨ σ h = some (.at b o.c.sz C)) (hfix : ¬ c.fix h ∨ σ h = some (.at b o.c.sz C))
    (hc : ∀ i j, i < c'.len → j < c'.sz → ∃ v, cur[i * c'.sz + j]? = some v ∧ VR w S σ (c'.at i j) v ∧ v.oneCell' = true) (hnr : ∀ i j, i < c'.len → j < c'.sz → (c'.at i j).forget h = c'.at i j) :
    Rep c w' a (upσ σ h (.at b c'.sz C)) S n (forgetF h fr) ((forgetH h H).set h (some ⟨o.ty, c'⟩)) := by
  have hlt : h < H.length := (List.getElem?_eq_some_iff.1 hh).1
  have hlt' : h < (forgetH h H).length := by rw [forgetH_length]; exact hlt
  have hSb : ¬ S b := by
    rcases hfresh with hf | hf
    · intro hs; have := hr.hr.small b hs; omega
    · exact (hr.obj hh hf).2.choose_spec.2.2.2.2.1
  have hS : ∀ b', S b' → w'.heap[b']? = w.heap[b']? := fun b' hs => hblk b' (hr.hr.small b' hs) (fun e => hSb (e ▸ hs))
  have hσne : ∀ h', h' ≠ h → upσ σ h (.at b c'.sz C) h' = σ h' := fun h' he => by simp [upσ, he]
  have hvf : ∀ {x v}, VR w S σ x v → VR w' S (upσ σ h (.at b c'.sz C)) (x.forget h) v := fun hv => (hv.forget _ hσne).mono (fun _ h => h) hS _ (fun _ _ h => h)
  have hset : ∀ h' o', ((forgetH h H).set h (some ⟨o.ty, c'⟩))[h']? = some (some o') → (h' = h ∧ o' = ⟨o.ty, c'⟩) ∨ (h' ≠ h ∧ ∃ o0, H[h']? = some (some o0) ∧ o' = ⟨o0.ty, o0.c.forget h⟩) := by
    intro h' o' ho
    by_cases he : h' = h
    · subst he
      simp only [List.getElem?_set_self hlt', Option.some.injEq] at ho
      exact .inl ⟨rfl, ho.symm⟩
    · rw [List.getElem?_set_ne (Ne.symm he), forgetH_get] at ho
      cases hq : H[h']? with
      | none => simp [hq] at ho
      | some oo => cases oo with
        | none => simp [hq, forgetO] at ho
        | some o0 =>
          simp [hq, forgetO] at ho
          exact .inr ⟨he, o0, rfl, ho.symm⟩
  have hold : ∀ h' o0 b' s' C', h' ≠ h → H[h']? = some (some o0) → σ h' = some (.at b' s' C') → b' ≠ b ∧ b' < w.heap.size := by
    intro h' o0 b' s' C' hne ho0 hb'
    obtain ⟨_, cu, g, _⟩ := hr.obj ho0 hb'
    have h1 := (Array.getElem?_eq_some_iff.1 g).1
    refine ⟨fun e => ?_, h1⟩
    subst e
    rcases hfresh with hf | hf
    · omega
    · exact hne (hr.hr.dist h' h o0 o b' s' C' o.c.sz C ho0 hh hb' hf)
  refine ⟨⟨?_, ?_, fun b' hs => Nat.lt_of_lt_of_le (hr.hr.small b' hs) hsize, fun h' hl => ?_⟩, ?_, hr.defers, hr.size, fun t v hl => ?_⟩
  · intro h' o' ho
    rcases hset h' o' ho with ⟨rfl, rfl⟩ | ⟨hne, o0, ho0, rfl⟩
    · right
      refine ⟨b, C, cur, by simp [upσ], hb, hcur, hC, hlen, hSb, fun i j hi hj => ?_⟩
      obtain ⟨v, e1, e2, e3⟩ := hc i j hi hj
      refine ⟨v, e1, ?_, e3⟩
      have := hvf e2
      rwa [hnr i j hi hj] at this
    · rcases hr.hr.live h' o0 ho0 with ⟨hn, hl0⟩ | ⟨b', C', cu, g1, g2, g3, g4, g5, g6, g7⟩
      · left
        exact ⟨by rw [hσne h' hne]; exact hn, by simpa [Cells.forget_len] using hl0⟩
      · right
        obtain ⟨hb1, hb2⟩ := hold h' o0 b' _ C' hne ho0 g1
        simp only [Cells.forget_len, Cells.forget_sz]
        refine ⟨b', C', cu, by rw [hσne h' hne]; exact g1, by rw [hblk b' hb2 hb1]; exact g2, g3, g4, g5, g6, fun i j hi hj => ?_⟩
        obtain ⟨v, e1, e2, e3⟩ := g7 i j hi hj
        exact ⟨v, e1, by rw [Cells.forget_at h o0.c i j hj]; exact hvf e2, e3⟩
  · intro h1 h2 o1 o2 b' s1 C1 s2 C2 g1 g2 e1 e2
    rcases hset h1 o1 g1 with ⟨rfl, rfl⟩ | ⟨n1, p1, q1, rfl⟩ <;> rcases hset h2 o2 g2 with ⟨rfl, rfl⟩ | ⟨n2, p2, q2, rfl⟩
    · rfl
    · simp only [upσ, if_true, Option.some.injEq, Blk.at.injEq] at e1
      rw [hσne h2 n2] at e2
      exact absurd e1.1.symm (hold h2 p2 b' s2 C2 n2 q2 e2).1
    · simp only [upσ, if_true, Option.some.injEq, Blk.at.injEq] at e2
      rw [hσne h1 n1] at e1
      exact absurd e2.1.symm (hold h1 p1 b' s1 C1 n1 q1 e1).1
    · rw [hσne h1 n1] at e1
      rw [hσne h2 n2] at e2
      exact hr.hr.dist h1 h2 _ _ b' s1 C1 s2 C2 q1 q2 e1 e2
  · simp only [List.length_set, forgetH_length] at hl
    rw [hσne h' (by omega)]
    exact hr.hr.dom h' hl
  · refine ⟨hos.trans hr.kp.os, hout.trans hr.kp.output, htape.trans hr.kp.tape, Nat.le_trans hr.kp.size hsize, fun b' hb' ho => ?_, hr.kp.S1, hr.kp.S2, fun h' hf => ?_, fun h' hf => by simpa [forgetH_length] using hr.kp.fixlt h' hf, ?_⟩
    · have hne : b' ≠ b := by
        rintro rfl
        rcases hfresh with hf | hf
        · have := hr.kp.size; omega
        · rcases hr.kp.own h o b' _ C hh hf with h1 | h1
          · exact ho h1
          · omega
      rw [hblk b' (by have := hr.kp.size; omega) hne]
      exact hr.kp.block b' hb' ho
    · by_cases he : h' = h
      · subst he
        rcases hfix with h1 | h1
        · exact absurd hf h1
        · rw [← hr.kp.fixed h' hf, h1]
          simp [upσ, hsz]
      · rw [hσne h' he]; exact hr.kp.fixed h' hf
    · intro h' o' b' s' C' ho hb'
      rcases hset h' o' ho with ⟨rfl, rfl⟩ | ⟨hne, o0, ho0, rfl⟩
      · simp only [upσ, if_true, Option.some.injEq, Blk.at.injEq] at hb'
        obtain ⟨rfl, _, _⟩ := hb'
        rcases hfresh with hf | hf
        · right; have := hr.kp.size; omega
        · exact hr.kp.own h' o b _ C hh hf
      · rw [hσne h' hne] at hb'
        exact hr.kp.own h' o0 b' s' C' ho0 hb'
  · rw [look_forgetF] at hl
    cases hq : look t fr with
    | none => simp [hq] at hl
    | some v0 =>
      simp [hq] at hl
      subst hl
      exact ⟨(hr.slots t v0 hq).1, hvf (hr.slots t v0 hq).2⟩
end Go.Ax
