/-
  The last objects of a walk are left behind: nothing that is kept tells of them.
-/
import Derived.Test.YtmfhdfofmdggaaaAxMore8
namespace Go.Ax
set_option linter.unusedSimpArgs false
set_option linter.unusedVariables false

mutual
def belowA (n : Nat) : AV → Bool
  | .sl h _ _ => Nat.blt h n
  | .ptr h _ _ => Nat.blt h n
  | .fn _ l => belows n l
  | .agg l => belows n l
  | .tup l => belows n l
  | _ => true
def belows (n : Nat) : List AV → Bool
  | [] => true
  | v :: r => belowA n v && belows n r
end
theorem belows_get {n : Nat} {l : List AV} (h : belows n l = true) (i : Nat) (hi : i < l.length) : belowA n (l.getD i .any) = true := by
  induction l generalizing i with
  | nil => simp at hi
  | cons v r ih =>
    simp only [belows, Bool.and_eq_true] at h
    cases i with
    | zero => exact h.1
    | succ i => simpa using ih h.2 i (by simpa using hi)
theorem VR.cutv {w : World} {S : Nat → Prop} {σ : Nat → Option Blk} {n : Nat} {x : AV} {v : Value} (h : VR w S σ x v) : belowA n x = true → ∀ σ' : Nat → Option Blk, (∀ h, h < n → σ' h = σ h) → VR w S σ' x v := by
  induction h with
  | int => intros; constructor
  | bool => intros; constructor
  | str => intros; constructor
  | nil => intros; constructor
  | ro0 => intros; constructor
  | ro σ c i len b o cap val hSb hlen hc hv h1 ih => intro _ σ' _; exact .ro _ _ _ _ _ _ _ val hSb hlen hc hv h1
  | sl σ h i len b s C cap hσ hlen hcap => intro hb σ' hs; exact .sl _ _ _ _ _ _ _ _ (by rw [hs h (Nat.le_of_ble_eq_true hb)]; exact hσ) hlen hcap
  | sl0 σ h hσ => intro hb σ' hs; exact .sl0 _ _ (by rw [hs h (Nat.le_of_ble_eq_true hb)]; exact hσ)
  | rp σ c i j b o val hSb hc hv h1 ih => intro _ σ' _; exact .rp _ _ _ _ _ _ val hSb hc hv h1
  | ptr σ h i j b s C hσ => intro hb σ' hs; exact .ptr _ _ _ _ _ _ _ (by rw [hs h (Nat.le_of_ble_eq_true hb)]; exact hσ)
  | nilp => intros; constructor
  | fn σ f cap vs hl hv ih => intro hn σ' hs; exact .fn _ _ _ _ hl (fun i hi => ih i hi (belows_get hn i hi) _ hs)
  | nilfn => intros; constructor
  | agg σ l vs hl hv h1 ih => intro hn σ' hs; exact .agg _ _ _ hl (fun i hi => ih i hi (belows_get hn i hi) _ hs) h1
  | tup σ l vs hl hv ih => intro hn σ' hs; exact .tup _ _ _ hl (fun i hi => ih i hi (belows_get hn i hi) _ hs)
  | any => intros; constructor

def belowC (n : Nat) : Cells → Bool
  | .ints _ _ => true
  | .strs _ => true
  | .box l => belows n l
  | .fn _ _ _ => false
theorem belowC_at {n : Nat} {c : Cells} (h : belowC n c = true) (i j : Nat) (hj : j < c.sz) : belowA n (c.at i j) = true := by
  cases c with
  | ints => rfl
  | strs => rfl
  | box l => exact belows_get h j hj
  | fn => cases h
def belowO (n : Nat) : Option AObj → Bool
  | none => true
  | some o => belowC n o.c
def belowH (n : Nat) : AHeap → Bool
  | [] => true
  | x :: r => belowO n x && belowH n r
theorem belowH_get {n : Nat} {H : AHeap} (hb : belowH n H = true) {h : Nat} {o : AObj} (ho : H[h]? = some (some o)) : belowC n o.c = true := by
  induction H generalizing h with
  | nil => simp at ho
  | cons x r ih =>
    simp only [belowH, Bool.and_eq_true] at hb
    cases h with
    | zero => simp at ho; subst ho; exact hb.1
    | succ h => exact ih hb.2 (by simpa using ho)
def belowF (n : Nat) : Fr → Bool
  | [] => true
  | (_, v) :: r => belowA n v && belowF n r
theorem belowF_get {n : Nat} {fr : Fr} (hb : belowF n fr = true) {t : Nat} {v : AV} (hl : look t fr = some v) : belowA n v = true := by
  induction fr with
  | nil => simp [look] at hl
  | cons p r ih =>
    obtain ⟨u, x⟩ := p
    simp only [belowF, Bool.and_eq_true] at hb
    simp only [look] at hl
    cases hq : Nat.beq t u with
    | true => rw [hq] at hl; simp at hl; subst hl; exact hb.1
    | false => rw [hq] at hl; exact ih hb.2 (by simpa using hl)

def cutσ (n : Nat) (σ : Nat → Option Blk) (h : Nat) : Option Blk := if h < n then σ h else none
theorem Rep.cut {c : Ctx} {w : World} {a : Act} {σ : Nat → Option Blk} {S : Nat → Prop} {n : Nat} {fr : Fr} {H H0 H1 : AHeap} (hr : Rep c w a σ S n fr H) (hH : H = H0 ++ H1) (hf : ∀ h, c.fix h → h < H0.length)
    (hbH : belowH H0.length H0 = true) (hbF : belowF H0.length fr = true) : Rep c w a (cutσ H0.length σ) S n fr H0 := by
  subst hH
  have hs : ∀ h, h < H0.length → cutσ H0.length σ h = σ h := fun h hl => if_pos hl
  have hget : ∀ {h : Nat} {o : AObj}, H0[h]? = some (some o) → h < H0.length ∧ (H0 ++ H1)[h]? = some (some o) := by
    intro h o ho
    have hl : h < H0.length := (List.getElem?_eq_some_iff.1 ho).1
    exact ⟨hl, by rw [List.getElem?_append_left hl]; exact ho⟩
  refine ⟨⟨fun h o ho => ?_, fun h h' o o' b s C s' C' q1 q2 e1 e2 => ?_, hr.hr.small, fun h hl => if_neg (by omega)⟩, ⟨hr.kp.os, hr.kp.output, hr.kp.tape, hr.kp.size, hr.kp.block, hr.kp.S1, hr.kp.S2, fun h hh => by rw [hs h (hf h hh)]; exact hr.kp.fixed h hh, hf, fun h o b s C q e => ?_⟩, hr.defers, hr.size, fun t v hl => ⟨(hr.slots t v hl).1, (hr.slots t v hl).2.cutv (belowF_get hbF hl) _ hs⟩⟩
  · obtain ⟨hl, ho'⟩ := hget ho
    rw [hs h hl]
    rcases hr.hr.live h o ho' with g | ⟨b, C, cur, g1, g2, g3, g4, g5, g6, g7⟩
    · exact .inl g
    · refine .inr ⟨b, C, cur, g1, g2, g3, g4, g5, g6, fun i j hi hj => ?_⟩
      obtain ⟨v, k1, k2, k3⟩ := g7 i j hi hj
      exact ⟨v, k1, k2.cutv (belowC_at (belowH_get hbH ho) i j hj) _ hs, k3⟩
  · obtain ⟨hl, ho⟩ := hget q1
    obtain ⟨hl', ho'⟩ := hget q2
    rw [hs h hl] at e1
    rw [hs h' hl'] at e2
    exact hr.hr.dist h h' o o' b s C s' C' ho ho' e1 e2
  · obtain ⟨hl, ho⟩ := hget q
    rw [hs h hl] at e
    exact hr.kp.own h o b s C ho e

section
variable {P : Program} {fn : Func} {c : Ctx} {fr : Fr} {H : AHeap} {k : List It}
/-- Only the first objects are kept. -/
theorem ax_cut {x : Code} (H0 H1 : AHeap) (L : Fr) (hH : H = H0 ++ H1) (hL : knows fr L) (hf : ∀ h, c.fix h → h < H0.length) (hbH : belowH H0.length H0 = true) (hbF : belowF H0.length L = true)
    (hk : Ax P fn c (.code x k) L H0) : Ax P fn c (.code x k) fr H :=
  fun w a σ S hr => hk w a _ S ((hr.weaken hL).cut hH hf hbH hbF)
theorem ax_cut_ops {all : Array Oper} {rest : List Oper} (H0 H1 : AHeap) (L : Fr) (hH : H = H0 ++ H1) (hL : knows fr L) (hf : ∀ h, c.fix h → h < H0.length) (hbH : belowH H0.length H0 = true) (hbF : belowF H0.length L = true)
    (hk : Ax P fn c (.ops false all rest k) L H0) : Ax P fn c (.ops false all rest k) fr H :=
  fun hd w a σ S hr => hk hd w a _ S ((hr.weaken hL).cut hH hf hbH hbF)
/-- The same memory, its cells told otherwise. -/
theorem Rep.heapA {w : World} {a : Act} {σ : Nat → Option Blk} {S : Nat → Prop} {n : Nat} {H' : AHeap} (hr : Rep c w a σ S n fr H) (hlen : H'.length = H.length)
    (hs : ∀ (h : Nat) (o' : AObj), H'[h]? = some (some o') → ∃ o : AObj, H[h]? = some (some o) ∧ o'.ty = o.ty ∧ o'.c.len = o.c.len ∧ o'.c.sz = o.c.sz ∧ ∀ i j, i < o.c.len → j < o.c.sz → AEq (o.c.at i j) (o'.c.at i j)) : Rep c w a σ S n fr H' := by
  refine ⟨⟨fun h o' ho => ?_, fun h h' o o' b s C s' C' q1 q2 e1 e2 => ?_, hr.hr.small, fun h hl => hr.hr.dom h (by rw [← hlen]; exact hl)⟩, ⟨hr.kp.os, hr.kp.output, hr.kp.tape, hr.kp.size, hr.kp.block, hr.kp.S1, hr.kp.S2, hr.kp.fixed, fun h hf => by rw [hlen]; exact hr.kp.fixlt h hf, fun h o b s C q e => ?_⟩, hr.defers, hr.size, hr.slots⟩
  · obtain ⟨o, h1, h2, h3, h4, h5⟩ := hs h o' ho
    rw [h2, h3, h4]
    rcases hr.hr.live h o h1 with g | ⟨b, C, cur, g1, g2, g3, g4, g5, g6, g7⟩
    · exact .inl g
    · refine .inr ⟨b, C, cur, g1, g2, g3, g4, g5, g6, fun i j hi hj => ?_⟩
      obtain ⟨v, k1, k2, k3⟩ := g7 i j hi hj
      exact ⟨v, k1, h5 i j hi hj _ _ _ _ k2, k3⟩
  · obtain ⟨p, h1, _⟩ := hs h o q1
    obtain ⟨p', h1', _⟩ := hs h' o' q2
    exact hr.hr.dist h h' p p' b s C s' C' h1 h1' e1 e2
  · obtain ⟨p, h1, _⟩ := hs h o q
    exact hr.kp.own h p b s C h1 e
theorem ax_heapA {x : Code} (H' : AHeap) (hlen : H'.length = H.length) (hs : ∀ (h : Nat) (o' : AObj), H'[h]? = some (some o') → ∃ o : AObj, H[h]? = some (some o) ∧ o'.ty = o.ty ∧ o'.c.len = o.c.len ∧ o'.c.sz = o.c.sz ∧ ∀ i j, i < o.c.len → j < o.c.sz → AEq (o.c.at i j) (o'.c.at i j))
    (hk : Ax P fn c (.code x k) fr H') : Ax P fn c (.code x k) fr H := fun w a σ S hr => hk w a σ S (hr.heapA hlen hs)
theorem ax_heapA_ops {all : Array Oper} {rest : List Oper} (H' : AHeap) (hlen : H'.length = H.length) (hs : ∀ (h : Nat) (o' : AObj), H'[h]? = some (some o') → ∃ o : AObj, H[h]? = some (some o) ∧ o'.ty = o.ty ∧ o'.c.len = o.c.len ∧ o'.c.sz = o.c.sz ∧ ∀ i j, i < o.c.len → j < o.c.sz → AEq (o.c.at i j) (o'.c.at i j))
    (hk : Ax P fn c (.ops false all rest k) fr H') : Ax P fn c (.ops false all rest k) fr H := fun hd w a σ S hr => hk hd w a σ S (hr.heapA hlen hs)
end
/-- Any contract, at arguments told otherwise. -/
theorem ACall.args {P : Program} {f : FuncId} {as as' : List AV} {H : AHeap} {fix : Nat → Prop} {K : AV → AHeap → Prop} (hc : ACall P f as' H fix K) (h : AEqs as as') : ACall P f as H fix K := by
  unfold ACall at hc ⊢
  refine ⟨hc.1, fun w σ S vals hr hf hv => hc.2 w σ S vals hr hf ⟨hv.1.trans h.length, fun j hj => ?_⟩⟩
  rw [← h.length] at hj
  exact h.get j hj _ _ _ _ (hv.2 j hj)
end Go.Ax
