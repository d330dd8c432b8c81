import Derived.Test.YtgmleamhjnlknaaGreatDoorRows
import Derived.Test.YtgmleamhjnlknaaGreatDoorTie
import Derived.Test.YtgmleamhjnlknaaGreatDoorCards
import Derived.LaidMore
import Derived.Lay
import Derived.SevenTiedAt
import Derived.Stop.Joined
import Derived.Stop.ErrReads
import Derived.MakeChecks
import Derived.Test.YtgmleamhjnlknaaGreatDoorY4
set_option linter.unusedVariables false
set_option linter.unusedSimpArgs false
/-
  A function proved over an empty memory, called over another one: all that it made is the caller's.
-/
namespace Go.Ax
variable [Pins]
open Go.RowKit

mutual
/-- The objects stand behind N others. -/
def AV.shift (N : Nat) : AV → AV
  | .sl h i n => .sl (h + N) i n
  | .ptr h i j => .ptr (h + N) i j
  | .fn f l => .fn f (AV.shifts N l)
  | .agg l => .agg (AV.shifts N l)
  | .tup l => .tup (AV.shifts N l)
  | .mp h => .mp (h + N)
  | v => v
def AV.shifts (N : Nat) : List AV → List AV
  | [] => []
  | v :: r => v.shift N :: AV.shifts N r
end
theorem length_shifts (N : Nat) (l : List AV) : (AV.shifts N l).length = l.length := by
  have _pin := (inferInstance : Pins)
  induction l with
  | nil => rfl
  | cons v r ih => simp [AV.shifts, ih]
theorem getD_shifts (N : Nat) (l : List AV) (i : Nat) (hi : i < l.length) : (AV.shifts N l).getD i .any = (l.getD i .any).shift N := by
  have _pin := (inferInstance : Pins)
  induction l generalizing i with
  | nil => simp at hi
  | cons v r ih => cases i with
    | zero => rfl
    | succ i => simpa [AV.shifts] using ih i (by simpa using hi)
theorem VR.shift {w : World} {S : Nat → Prop} {σ : Nat → Option Blk} {x : AV} {v : Value} {N : Nat} (hv : VR w S σ x v) : ∀ σ' : Nat → Option Blk, (∀ h B, σ h = some B → σ' (h + N) = some B) → VR w S σ' (x.shift N) v := by
  induction hv with
  | int => intros; constructor
  | bool => intros; constructor
  | str => intros; constructor
  | nil => intros; constructor
  | ro0 => intros; constructor
  | ro σ c i len b o cap val hSb hlen hc hv h1 ih => intro σ' _; exact .ro _ _ _ _ _ _ _ val hSb hlen hc hv h1
  | sl σ h' i len b s C cap hσ hlen hcap => intro σ' hs; exact .sl _ _ _ _ _ _ _ _ (hs _ _ hσ) hlen hcap
  | sl0 σ h' hσ => intro σ' hs; exact .sl0 _ _ (hs _ _ hσ)
  | rp σ c i j b o val hSb hc hv h1 ih => intro σ' _; exact .rp _ _ _ _ _ _ val hSb hc hv h1
  | ptr σ h' i j b s C hσ => intro σ' hs; exact .ptr _ _ _ _ _ _ _ (hs _ _ hσ)
  | nilp => intros; constructor
  | fn σ f cap vs hl hv ih => intro σ' hs; exact .fn _ _ _ _ (by rw [length_shifts]; exact hl) (fun i hi => by rw [length_shifts] at hi; rw [getD_shifts N cap i hi]; exact ih i hi σ' hs)
  | nilfn => intros; constructor
  | iface => intros; constructor
  | nilif => intros; constructor
  | agg σ l vs hl hv h1 ih => intro σ' hs; exact .agg _ _ _ (by rw [length_shifts]; exact hl) (fun i hi => by rw [length_shifts] at hi; rw [getD_shifts N l i hi]; exact ih i hi σ' hs) (fun i hi => h1 i (by rwa [length_shifts] at hi))
  | tup σ l vs hl hv ih => intro σ' hs; exact .tup _ _ _ (by rw [length_shifts]; exact hl) (fun i hi => by rw [length_shifts] at hi; rw [getD_shifts N l i hi]; exact ih i hi σ' hs)
  | mp σ h' b hσ => intro σ' hs; exact .mp _ _ _ (hs _ _ hσ)
  | rom σ ks vs b es clock e hSb hb hn hl hd he hk hv => intro σ' hs; exact .rom _ _ _ b es clock e hSb hb hn hl hd he hk hv
  | any => intros; constructor
def Cells.shift (N : Nat) : Cells → Cells
  | .ints k l => .ints k l
  | .strs l => .strs l
  | .box l => .box (AV.shifts N l)
  | .mp ks vs => .mp (AV.shifts N ks) (AV.shifts N vs)
  | .fn n s f => .fn n s (fun i j => (f i j).shift N)
theorem Cells.shift_len (N : Nat) (c : Cells) : (c.shift N).len = c.len := by have _pin := (inferInstance : Pins); cases c <;> rfl
theorem Cells.shift_sz (N : Nat) (c : Cells) : (c.shift N).sz = c.sz := by
  cases c <;> first | rfl | exact length_shifts _ _
theorem Cells.shift_at (N : Nat) (c : Cells) (i j : Nat) (hj : j < c.sz) : (c.shift N).at i j = (c.at i j).shift N := by
  cases c with
  | box l => exact getD_shifts N l j hj
  | _ => rfl
def shiftO (N : Nat) : Option AObj → Option AObj
  | some o => some ⟨o.ty, o.c.shift N⟩
  | none => none
def shiftH (N : Nat) : AHeap → AHeap
  | [] => []
  | o :: r => shiftO N o :: shiftH N r
theorem shiftH_get (N : Nat) (H : AHeap) (i : Nat) : (shiftH N H)[i]? = (H[i]?).map (shiftO N) := by
  have _pin := (inferInstance : Pins)
  induction H generalizing i with
  | nil => simp [shiftH]
  | cons o r ih => cases i with
    | zero => simp [shiftH]
    | succ i => simpa [shiftH] using ih i
theorem shiftH_length (N : Nat) (H : AHeap) : (shiftH N H).length = H.length := by
  have _pin := (inferInstance : Pins)
  induction H with
  | nil => rfl
  | cons o r ih => simp [shiftH, ih]
theorem Lays.shift {w : World} {S : Nat → Prop} {σ σ' : Nat → Option Blk} {t : TypeId} {c : Cells} {b : Nat} {cur : Array Value} {C : Nat} {N : Nat} (hs : ∀ h B, σ h = some B → σ' (h + N) = some B)
    (hL : Lays w S σ ⟨t, c⟩ b cur C) : Lays w S σ' ⟨t, c.shift N⟩ b cur C := by
  have _pin := (inferInstance : Pins)
  cases hL with
  | row mk h hm hC => exact .row mk h hm hC
  | map ks vs es clock hc hC h hn hl hd he =>
    simp only at hc
    subst hc
    exact .map _ _ es clock rfl hC h (by rw [length_shifts]; exact hn) (by rw [length_shifts, length_shifts]; exact hl) hd (fun i hi => by
      rw [length_shifts] at hi
      obtain ⟨e, e1, e2, e3⟩ := he i hi
      exact ⟨e, e1, by rw [getD_shifts _ _ _ hi]; exact e2.shift σ' hs, by rw [getD_shifts _ _ _ (by omega)]; exact e3.shift σ' hs⟩)
def joinσ (N : Nat) (σ σ0 : Nat → Option Blk) (h : Nat) : Option Blk := if h < N then σ h else σ0 (h - N)
theorem joinσ_back {N : Nat} {σ σ0 : Nat → Option Blk} : ∀ h B, σ0 h = some B → joinσ N σ σ0 (h + N) = some B := by
  have _pin := (inferInstance : Pins)
  intro h B hB
  unfold joinσ
  rw [if_neg (by omega), Nat.add_sub_cancel]; exact hB
theorem HR.join {w : World} {S : Nat → Prop} {σ σ0 : Nat → Option Blk} {H H0 : AHeap} (h : HR w S σ H) (h0 : HR w S σ0 H0)
    (hd : ∀ h h' o o' b s C s' C', H[h]? = some (some o) → H0[h']? = some (some o') → σ h = some (.at b s C) → σ0 h' = some (.at b s' C') → False) :
    HR w S (joinσ H.length σ σ0) (H ++ shiftH H.length H0) := by
  have hfr : ∀ h B, σ h = some B → joinσ H.length σ σ0 h = some B := by
    intro h' B hB
    unfold joinσ
    split
    · exact hB
    · rename_i hl; rw [h.dom h' (by omega)] at hB; cases hB
  have hcase : ∀ h' o', (H ++ shiftH H.length H0)[h']? = some (some o') → (h' < H.length ∧ H[h']? = some (some o')) ∨ (H.length ≤ h' ∧ ∃ o, H0[h' - H.length]? = some (some o) ∧ o' = ⟨o.ty, o.c.shift H.length⟩) := by
    intro h' o' ho
    by_cases he : h' < H.length
    · rw [List.getElem?_append_left he] at ho; exact .inl ⟨he, ho⟩
    · rw [List.getElem?_append_right (by omega), shiftH_get] at ho
      cases e : H0[h' - H.length]? with
      | none => rw [e] at ho; cases ho
      | some x =>
        rw [e] at ho
        cases x with
        | none => simp [shiftO] at ho
        | some o => simp [shiftO] at ho; exact .inr ⟨by omega, o, rfl, ho.symm⟩
  refine ⟨fun h' o' ho => ?_, fun h1 h2 o1 o2 b s C s' C' q1 q2 e1 e2 => ?_, h.small, fun h' hl => ?_⟩
  · rcases hcase h' o' ho with ⟨hl, ho'⟩ | ⟨hl, o, ho', rfl⟩
    · rcases h.live h' o' ho' with ⟨h1, h2⟩ | ⟨b, C, cur, h1, h2, h3, h4, h5, h6, h7⟩
      · exact .inl ⟨hfr _ _ h1, h2⟩
      · refine .inr ⟨b, C, cur, hfr _ _ h1, h2.mono rfl (fun hv => hv.mono (fun _ h => h) (fun _ _ => rfl) _ hfr), h3, h4, h5, h6, fun i j hi hj => ?_⟩
        obtain ⟨v, e1, e2, e3⟩ := h7 i j hi hj
        exact ⟨v, e1, e2.mono (fun _ h => h) (fun _ _ => rfl) _ hfr, e3⟩
    · have hj : joinσ H.length σ σ0 h' = σ0 (h' - H.length) := by unfold joinσ; rw [if_neg (by omega)]
      rw [hj]
      rcases h0.live _ o ho' with ⟨h1, h2⟩ | ⟨b, C, cur, h1, h2, h3, h4, h5, h6, h7⟩
      · exact .inl ⟨h1, by rw [Cells.shift_len]; exact h2⟩
      · refine .inr ⟨b, C, cur, by rw [Cells.shift_sz]; exact h1, Lays.shift joinσ_back h2, by rw [Cells.shift_sz]; exact h3, h4, by rw [Cells.shift_len]; exact h5, h6, fun i j hi hj => ?_⟩
        rw [Cells.shift_len] at hi
        rw [Cells.shift_sz] at hj ⊢
        obtain ⟨v, e1, e2, e3⟩ := h7 i j hi hj
        exact ⟨v, e1, by rw [Cells.shift_at _ _ _ _ hj]; exact e2.shift _ joinσ_back, e3⟩
  · rcases hcase h1 o1 q1 with ⟨l1, r1⟩ | ⟨l1, x1, r1, rfl⟩ <;> rcases hcase h2 o2 q2 with ⟨l2, r2⟩ | ⟨l2, x2, r2, rfl⟩
    · unfold joinσ at e1 e2
      rw [if_pos l1] at e1
      rw [if_pos l2] at e2
      exact h.dist h1 h2 o1 o2 b s C s' C' r1 r2 e1 e2
    · unfold joinσ at e1 e2
      rw [if_pos l1] at e1
      rw [if_neg (by omega)] at e2
      exact (hd _ _ _ _ _ _ _ _ _ r1 r2 e1 e2).elim
    · unfold joinσ at e1 e2
      rw [if_neg (by omega)] at e1
      rw [if_pos l2] at e2
      exact (hd _ _ _ _ _ _ _ _ _ r2 r1 e2 e1).elim
    · unfold joinσ at e1 e2
      rw [if_neg (by omega)] at e1 e2
      have := h0.dist _ _ x1 x2 b s C s' C' r1 r2 e1 e2
      omega
  · rw [List.length_append, shiftH_length] at hl
    unfold joinσ
    rw [if_neg (by omega)]
    exact h0.dom _ (by omega)
/-- All that a function makes belongs to its caller. -/
theorem ACall.lift {P : Program} {f : FuncId} {args : List AV} {fix : Nat → Prop} {K K' : AV → AHeap → Prop} {H : AHeap} (hc : ACall P f args [] fix K) (hfx : ∀ h, ¬ fix h) (hn : noRef.noRefs args = true)
    (hK : ∀ (r0 : AV) (H0 : AHeap), K r0 H0 → K' (r0.shift H.length) (H ++ shiftH H.length H0)) : ACall P f args H (fun h => h < H.length) K' := by
  refine ⟨hc.1, fun w σ S vals hp hr hf hv => ?_⟩
  have hp0 : PinUp w S (fun _ => none) [] := hp.less (fun _ h => h) (fun _ h => h.nil)
  refine (hc.2 w (fun _ => none) S vals hp0 hr.empty (fun h hh => absurd hh (hfx h)) (hv.closed hn _)).mono ?_
  rintro e w' ⟨v, r0, σ', S', H0, rfl, g1, g2, g3, g4⟩
  obtain ⟨a1, a2⟩ := HR.after hr g1 g3
  have a3 := a2 K' hp
  have hno : ∀ b, ¬ Owned (fun _ => none) [] b := by rintro b ⟨h, o, s, C, h1, _⟩; simp at h1
  have hlto : ∀ h o b s C, H[h]? = some (some o) → σ h = some (.at b s C) → b < w.heap.size := by
    intro h o b s C ho hb
    rcases hr.live h o ho with ⟨hn, _⟩ | ⟨b', C', cur, hσ', g, _⟩
    · rw [hb] at hn; cases hn
    · rw [hb] at hσ'
      simp only [Option.some.injEq, Blk.at.injEq] at hσ'
      rw [hσ'.1]
      exact g.lt
  have hnew : ∀ h o b s C, H0[h]? = some (some o) → σ' h = some (.at b s C) → w.heap.size ≤ b := by
    intro h o b s C ho hb
    rcases g3.own h o b s C ho hb with h3 | h3
    · exact absurd h3 (hno b)
    · exact h3
  have hj := a1.join g1 (fun h h' o o' b s C s' C' q1 q2 e1 e2 => by
    have := hlto h o b s C q1 e1
    have := hnew h' o' b s' C' q2 e2
    omega)
  refine ⟨v, _, _, S', _, rfl, hj, g2.shift _ joinσ_back, ⟨a3.os, a3.output, a3.tape, a3.size, a3.block, a3.S1, a3.S2, fun h hl => ?_, fun h hl => ?_, fun h o b s C ho hb => ?_⟩, hK r0 H0 g4⟩
  · have hl : h < H.length := hl
    show joinσ H.length σ σ' h = σ h
    unfold joinσ; rw [if_pos hl]
  · have hl : h < H.length := hl
    rw [List.length_append]; omega
  · by_cases he : h < H.length
    · rw [List.getElem?_append_left he] at ho
      unfold joinσ at hb
      rw [if_pos he] at hb
      exact .inl ⟨h, o, s, C, ho, hb⟩
    · rw [List.getElem?_append_right (by omega), shiftH_get] at ho
      unfold joinσ at hb
      rw [if_neg he] at hb
      cases e : H0[h - H.length]? with
      | none => rw [e] at ho; cases ho
      | some x =>
        rw [e] at ho
        cases x with
        | none => simp [shiftO] at ho
        | some o' => exact .inr (hnew _ o' b s C e hb)
/-- A contract on a function that makes several objects: they are the caller's. -/
def MCall (P : Program) (f : FuncId) (args : List AV) (r : AV) (H0 : AHeap) : Prop := ∀ H, ACall P f args H (fun h => h < H.length) (fun r' H' => r' = r.shift H.length ∧ H' = H ++ shiftH H.length H0)
theorem ACall.many {P : Program} {f : FuncId} {args : List AV} {fix : Nat → Prop} {r : AV} {H0 : AHeap} (hc : ACall P f args [] fix (fun r' H' => r' = r ∧ H' = H0)) (hfx : ∀ h, ¬ fix h) (hn : noRef.noRefs args = true) : MCall P f args r H0 := fun H =>
  hc.lift hfx hn (fun r0 H1 h => by obtain ⟨rfl, rfl⟩ := h; exact ⟨rfl, rfl⟩)
section
variable {P : Program} {fn : Func} {c : Ctx} {fr : Fr} {H : AHeap} {k : List It} {all : Array Oper} {d : Nat} {g : Operand} {args : List Operand} {ats : Array TypeId} {ty : TypeId} {pos : String} {after : Array Edge} {rest : List Oper} {f : FuncId}
end
mutual
theorem noRef_shift : ∀ (x : AV), noRef x = true → ∀ N, x.shift N = x
  | .int _ _, _, _ => rfl
  | .bool _, _, _ => rfl
  | .str _, _, _ => rfl
  | .nil, _, _ => rfl
  | .ro _ _ _, _, _ => rfl
  | .sl _ _ _, h, _ => by simp [noRef] at h
  | .rp _ _ _, _, _ => rfl
  | .ptr _ _ _, h, _ => by simp [noRef] at h
  | .nilp, _, _ => rfl
  | .fn f l, h, N => by
    have _pin := (inferInstance : Pins)
    simp only [AV.shift]; rw [noRefs_shift l (by simpa [noRef] using h) N]
  | .nilfn, _, _ => rfl
  | .iface, _, _ => rfl
  | .nilif, _, _ => rfl
  | .agg l, h, N => by simp only [AV.shift]; rw [noRefs_shift l (by simpa [noRef] using h) N]
  | .tup l, h, N => by simp only [AV.shift]; rw [noRefs_shift l (by simpa [noRef] using h) N]
  | .mp _, h, _ => by simp [noRef] at h
  | .rom _ _, _, _ => rfl
  | .any, _, _ => rfl
theorem noRefs_shift : ∀ (l : List AV), noRef.noRefs l = true → ∀ N, AV.shifts N l = l
  | [], _, _ => rfl
  | v :: r, h, N => by
    have _pin := (inferInstance : Pins)
    simp only [noRef.noRefs, Bool.and_eq_true] at h
    simp only [AV.shifts]
    rw [noRef_shift v h.1 N, noRefs_shift r h.2 N]
end
end Go.Ax

namespace Go.Proofs.YtgmleamhjnlknaaGreatDoor
open Go.Ax Go.Ax.Bg Go.Ax.Rt Go.RowKit Go.Ax.Idx Go.Ax.Cd
attribute [local irreducible] Ax Post QOp ACall PureOp
set_option maxRecDepth 100000
set_option maxHeartbeats 4000000

def bothA (p : (List Text × List Text) × Int) : AV := .tup [.ro (.strs p.1.1) 0 p.1.1.length, .ro (.strs p.1.2) 0 p.1.2.length, .int .i64 p.2]
end Go.Proofs.YtgmleamhjnlknaaGreatDoor

namespace Go.Proofs.YtgmleamhjnlknaaGreatDoor
open Go.Ax Go.Ax.Bg Go.Ax.Rt Go.RowKit Go.Ax.Idx Go.Ax.Cd
attribute [local irreducible] Ax Post QOp ACall PureOp
set_option maxRecDepth 100000
set_option maxHeartbeats 4000000

end Go.Proofs.YtgmleamhjnlknaaGreatDoor

namespace Go.Proofs.YtgmleamhjnlknaaGreatDoor
open Go.Ax Go.Ax.Bg Go.Ax.Rt Go.RowKit Go.Ax.Idx Go.Ax.Cd
attribute [local irreducible] Ax Post QOp ACall PureOp
set_option maxRecDepth 100000
set_option maxHeartbeats 4000000

def averageR (m : List (List Text)) (l : Hist) : (List Text × List Text) × Int :=
  if histE m l ≠ 0 then (([], []), histE m l) else if l = [] then (([], []), 8)
  else bothR ((cntQ Prod.fst l m.length).map (fun q => q / (l.length : Rat))) ((cntQ Prod.snd l (widM m)).map (fun q => q / (l.length : Rat)))
def boundsA (p : (Text × Text) × Int) : AV := .tup [.str p.1.1, .str p.1.2, .int .i64 p.2]
end Go.Proofs.YtgmleamhjnlknaaGreatDoor

namespace Go.Proofs.YtgmleamhjnlknaaGreatDoor
open Go.Ax Go.Ax.Bg Go.Ax.Rt Go.RowKit Go.Ax.Idx Go.Ax.Cd
attribute [local irreducible] Ax Post QOp ACall PureOp
set_option maxRecDepth 100000
set_option maxHeartbeats 4000000

/-- Numbers that may not be there yet. -/
def cellsZ : Option Rat → List AV
  | some q => cellsQ q
  | none => [.bool false, .nil, .nil]
abbrev zsC (l : List (Option Rat)) : Cells := rowE none 3 cellsZ l
def histA (p : Hist × Int) : AV := .tup [.ro (pairsC p.1) 0 p.1.length, .int .i64 p.2]
theorem refless_pairs (l : Hist) : refless (pairsC l) := by
  intro i j _ hj
  have hj : j < 2 := hj
  match j, hj with
  | 0, _ => rfl
  | 1, _ => rfl
end Go.Proofs.YtgmleamhjnlknaaGreatDoor

/-
  Rules: arrays of single values compared.
-/
namespace Go.Ax
variable [Pins]
open Go.RowKit

def eqIs (P : Program) (e : TypeId) (L M : List AV) : List Nat → Option Bool
  | [] => some true
  | i :: is => match eqIs P e L M is, L[i]?, M[i]? with
    | some r, some x, some y => (sclEq P e x y).map (· && r)
    | _, _, _ => none
theorem run_eqIs {P : Program} {w w' : World} {S : Nat → Prop} {σ : Nat → Option Blk} {L M : List AV} {xs ys : Array Value} {d : Nat} {e : TypeId} (h1 : xs.size = L.length) (h2 : ∀ i, i < L.length → VR w S σ (L.getD i .any) (xs.getD i undef)) (h3 : ys.size = M.length) (h4 : ∀ i, i < M.length → VR w S σ (M.getD i .any) (ys.getD i undef)) :
    ∀ (is : List Nat) (b : Bool), eqIs P e L M is = some b → (Op.eqItems (d + 1) e 1 xs ys is).run P w' = .ok b w'
  | [], b, h => by simp [eqIs] at h; subst h; simp [Op.eqItems]
  | i :: is, b, h => by
    simp only [eqIs] at h
    split at h
    · rename_i r x y hr hL hM
      have ih := run_eqIs (d := d) (w' := w') h1 h2 h3 h4 is r hr
      obtain ⟨v1, e1, r1⟩ := vr_getA h1 h2 hL
      obtain ⟨v2, e2, r2⟩ := vr_getA h3 h4 hM
      obtain ⟨q, hq, hb⟩ := Option.map_eq_some_iff.1 h
      obtain ⟨hp, hrun⟩ := sclEq_run (w' := w') hq r1 r2 d
      simp only [Op.eqItems, Nat.mul_one]
      simp only [Sem.run_bind, run_part_plain w' hp e1, Result.andThen_ok, run_part_plain w' hp e2, hrun]
      subst hb
      cases q with
      | false => simp
      | true => simpa using ih
    · cases h
section
variable {P : Program} {fn : Func} {c : Ctx} {fr : Fr} {H : AHeap} {k : List It} {ind : Bool} {d : Option Nat} {ty : TypeId} {pos : String} {after : Array Edge} {g : Option (Nat × Bool)}
theorem q_arrneq {x y : Operand} {t t' e : TypeId} {n : Nat} {inf : TypeInfo} {L M : List AV} {b : Bool} (hx : ev fr x = some (.agg L)) (hy : ev fr y = some (.agg M)) (ht : P.underlying t = some (.array n e)) (hi : P.info? e = some inf) (hc : P.cellsOf e = 1) (hg : P.eqGuardType P.depth t = false)
    (he : eqIs P e L M (List.range n) = some b) : QOp ind P fn c fr H ⟨d, .binOp .neq t x y t', ty, pos, after, g⟩ (.bool (!b)) := by
  intro w a σ S hr
  have h1 := hr.evAt hx
  have h2 := hr.evAt hy
  generalize hz : a.eval x = z at h1
  generalize hzy : a.eval y = zy at h2
  cases h1 with
  | agg _ _ xs a1 a2 a3 =>
    cases h2 with
    | agg _ _ ys b1 b2 b3 =>
      refine ⟨_, .bool _ _, fun w' _ => ?_⟩
      have hr := run_eqIs (d := 9998) (w' := w') a1 a2 b1 b2 _ b he
      simp only [execOp, hz, hzy, Sem.run_bind, run_eqGuard_agg w' _ _ _ _ _ _ hg, Result.andThen_ok, run_neq_struct, show (10000 : Nat) = 9999 + 1 from rfl, run_equalIn_array w' 9999 _ _ ht hi, hc, hr]
      rfl
end
end Go.Ax

namespace Go.Proofs.YtgmleamhjnlknaaGreatDoor
open Go.Ax Go.Ax.Bg Go.Ax.Rt Go.RowKit Go.Ax.Idx Go.Ax.Cd
attribute [local irreducible] Ax Post QOp ACall PureOp
set_option maxRecDepth 100000
set_option maxHeartbeats 4000000

theorem equalP (a b : Hist) (hlen : a.length ≤ 9223372036854775807) (hlb : b.length ≤ 9223372036854775807) : VCall Tryz.prog 19 [.ro (pairsC a) 0 a.length, .ro (pairsC b) 0 b.length] (.bool (decide (a = b))) := by
  refine ACall.value0 (acall_of_ax (P := Tryz.prog) (fn := Tryz.f19) rfl rfl (by kernel_rfl) rfl (fun c hR hfix => ?_)) (fix := fun _ => False) (fun _ h => h) rfl rfl
  repeat (first | refine ax_q (q_move rfl) ?_ | refine ax_q (q_assign rfl) ?_ | refine ax_ops_nil ?_ | refine ax_post_code ?_ | refine ax_seq ?_ | refine ax_region rfl ?_ | refine ax_q (q_neq rfl rfl) ?_ | refine ax_q (q_len rfl rfl rfl) ?_)
  refine ax_cond_dec rfl (fun h => ?_) (fun h => ?_)
  · repeat (first | refine ax_q (q_assign rfl) ?_ | refine ax_ops_nil ?_ | refine ax_post_code ?_ | refine ax_seq ?_ | refine ax_region rfl ?_ | refine ax_return ?_ | refine ax_ret_code ?_)
    refine ax_ret hR rfl ?_
    have : ¬ a = b := by rintro rfl; exact h rfl
    simp [tupOf, this]
  have hab : a.length = b.length := by omega
  repeat (first | refine ax_q (q_move rfl) ?_ | refine ax_ops_nil ?_ | refine ax_post_code ?_ | refine ax_seq ?_ | refine ax_region rfl ?_ | refine ax_block ?_ | refine ax_skip ?_ | refine ax_q (q_len rfl rfl rfl) ?_)
  refine ax_loop (ι := Nat) (fun k => [(0, .ro (pairsC a) 0 a.length), (1, .ro (pairsC b) 0 b.length), (12, .int .i64 (a.length : Nat)), (13, .int .i64 (k : Nat))]) (fun _ => [])
    (fun k => k ≤ a.length ∧ a.take k = b.take k) (fun k => a.length - k) 0 ⟨⟨rfl, rfl, rfl, rfl, trivial⟩, rfl, Nat.zero_le _, rfl⟩ ?_
  intro k ⟨hk, heq⟩
  repeat (first | refine ax_ops_nil ?_ | refine ax_post_code ?_ | refine ax_seq ?_ | refine ax_region rfl ?_ | refine ax_q (q_lss rfl rfl) ?_)
  refine ax_cond_dec rfl (fun h2 => ?_) (fun h2 => ?_)
  · have hk' : k < a.length := by omega
    have hkb : k < b.length := by omega
    have ha := take_succ_getD a (0, 0) k hk'
    have hb := take_succ_getD b (0, 0) k hkb
    repeat (first | refine ax_q (q_move rfl) ?_ | refine ax_q (q_assign rfl) ?_ | refine ax_ops_nil ?_ | refine ax_post_code ?_ | refine ax_seq ?_ | refine ax_region rfl ?_ | refine ax_block ?_ | refine ax_skip ?_)
    refine ax_regiond (by kernel_rfl) ?_
    refine ax_any_run (fuel := 0) [0, 1, 2, 3, 4, 5, 6, 7, 8] [(0, .ro (pairsC a) 0 a.length), (1, .ro (pairsC b) 0 b.length), (5, .int .i64 (k : Nat)), (12, .int .i64 (a.length : Nat)), (13, .int .i64 (k : Nat))] ⟨rfl, rfl, rfl, rfl, rfl, trivial⟩ (by kernel_rfl) (by decide) rfl rfl ?_
    refine px_q rfl rfl (q_move rfl) ?_
    refine px_q rfl rfl (q_move rfl) ?_
    refine px_q rfl rfl (q_index_ro' rfl rfl rfl rfl (by first | (simp only [Nat.zero_add, Int.toNat_natCast, Int.toNat_zero]; exact rfl) | exact rfl) (by omega)) ?_
    refine px_q rfl rfl (q_loadagg_rp rfl rfl rfl rfl rfl rfl) ?_
    refine px_q rfl rfl (q_move rfl) ?_
    refine px_q rfl rfl (q_move rfl) ?_
    refine px_q rfl rfl (q_index_ro' rfl rfl rfl rfl (by first | (simp only [Nat.zero_add, Int.toNat_natCast, Int.toNat_zero]; exact rfl) | exact rfl) (by omega)) ?_
    refine px_q rfl rfl (q_loadagg_rp rfl rfl rfl rfl rfl rfl) ?_
    refine px_q rfl rfl (q_arrneq (L := cellsP (a.getD k (0, 0))) (M := cellsP (b.getD k (0, 0))) (b := decide ((a.getD k (0, 0)).1 = (b.getD k (0, 0)).1) && (decide ((a.getD k (0, 0)).2 = (b.getD k (0, 0)).2) && true)) rfl rfl rfl rfl (by kernel_rfl) (by kernel_rfl) rfl) ?_
    refine px_done ?_
    refine ax_any_done (by kernel_rfl) ?_
    repeat (refine ax_post_code ?_)
    by_cases h3 : a.getD k (0, 0) = b.getD k (0, 0)
    · rw [h3, decide_eq_true rfl, decide_eq_true rfl]
      repeat (first | refine ax_q (q_move rfl) ?_ | refine ax_ops_nil ?_ | refine ax_post_code ?_ | refine ax_region rfl ?_ | refine ax_cond_false rfl ?_ | refine ax_post_blk ?_ | refine ax_skip ?_ | refine ax_q (q_add rfl rfl (by omega)) ?_)
      exact ax_post_inv ⟨k + 1, ⟨by omega, by rw [ha, hb, heq, h3]⟩, by omega, ⟨rfl, rfl, rfl, rfl, trivial⟩, rfl⟩
    · have h4 : (decide ((a.getD k (0, 0)).1 = (b.getD k (0, 0)).1) && (decide ((a.getD k (0, 0)).2 = (b.getD k (0, 0)).2) && true)) = false := by
        rw [Bool.and_true, ← Bool.not_eq_true, Bool.and_eq_true, decide_eq_true_eq, decide_eq_true_eq]
        rintro ⟨e1, e2⟩
        exact h3 (Prod.ext e1 e2)
      rw [h4]
      repeat (first | refine ax_q (q_assign rfl) ?_ | refine ax_ops_nil ?_ | refine ax_post_code ?_ | refine ax_seq ?_ | refine ax_region rfl ?_ | refine ax_cond_true rfl ?_ | refine ax_return ?_ | refine ax_ret_code ?_ | refine ax_ret_blk ?_ | refine ax_ret_inv ?_)
      refine ax_ret hR rfl ?_
      have : ¬ a = b := by rintro rfl; exact h3 rfl
      simp [tupOf, this]
  · have hk' : k = a.length := by omega
    subst hk'
    rw [List.take_length, hab, List.take_length] at heq
    repeat (first | refine ax_q (q_assign rfl) ?_ | refine ax_ops_nil ?_ | refine ax_post_code ?_ | refine ax_seq ?_ | refine ax_region rfl ?_ | refine ax_exit ?_ | refine ax_exit_here ?_ | refine ax_exit_code ?_ | refine ax_exit_inv ?_ | refine ax_return ?_)
    refine ax_ret hR rfl ?_
    simp [tupOf, heq]
def pennT : List (List Text) := [[[49], [45, 49]], [[45, 49], [49]]]
/-- Texts that spell numbers, one by one. -/
def allQ : List Text → List Rat → Bool
  | [], [] => true
  | s :: r, q :: t => decide (IsQ s q) && allQ r t
  | _, _ => false
def histT : Hist := [(0, 0), (0, 1)]
end Go.Proofs.YtgmleamhjnlknaaGreatDoor

namespace Go.Proofs.YtgmleamhjnlknaaGreatDoor
open Go.Ax Go.Ax.Bg Go.Ax.Rt Go.RowKit Go.Ax.Idx Go.Ax.Cd
attribute [local irreducible] Ax Post QOp ACall PureOp
set_option maxRecDepth 100000
set_option maxHeartbeats 4000000

theorem rowE_cat {α : Type} (d : α) (n : Nat) (e : α → List AV) (a b : List α) : CEq (.fn (a.length + b.length) n (fun i j => bif Nat.blt i a.length then (rowE d n e a).at i j else (rowE d n e b).at (0 + (i - a.length)) j)) (rowE d n e (a ++ b)) := by
  refine ⟨by simp [rowE, Cells.len], rfl, fun i j hi hj => ?_⟩
  show (e ((a ++ b).getD i d)).getD j .any = bif Nat.blt i a.length then (e (a.getD i d)).getD j .any else (e (b.getD (0 + (i - a.length)) d)).getD j .any
  by_cases h : i < a.length
  · rw [show Nat.blt i a.length = true from Nat.ble_eq_true_of_le h, get_app d h]; rfl
  · have h2 : Nat.blt i a.length = false := by
      cases e : Nat.blt i a.length with
      | false => rfl
      | true => have : i + 1 ≤ a.length := Nat.le_of_ble_eq_true e
                omega
    rw [h2, Nat.zero_add]
    have : (a ++ b).getD i d = b.getD (i - a.length) d := by
      simp only [List.getD]
      rw [List.getElem?_append_right (by omega)]
    rw [this]; rfl
theorem cloneP (l : Hist) (hl : l.length ≤ 1000000) : FCall Tryz.prog 189 [.ro (pairsC l) 0 l.length] (fun N => .sl N 0 l.length) ⟨32, pairsC l⟩ := by
  refine ACall.fresh (K := fun r H => r = .sl 0 0 l.length ∧ H = [some ⟨32, pairsC l⟩]) (acall_of_ax (P := Tryz.prog) (fn := Tryz.f189) rfl rfl (by kernel_rfl) rfl (fun c hR hfix => ?_)) (fix := fun _ => False) (fun _ h => h) rfl (fun H => ⟨rfl, by simp [inBs, inB]⟩) ?_
  · repeat (first | refine ax_q (q_move rfl) ?_ | refine ax_q (q_assign rfl) ?_ | refine ax_ops_nil ?_ | refine ax_post_code ?_ | refine ax_seq ?_ | refine ax_region rfl ?_)
    refine ax_eqnil rfl rfl rfl (fun b hb => ?_)
    repeat (first | refine ax_ops_nil ?_ | refine ax_post_code ?_)
    refine ax_cond rfl (fun h => ?_) (fun h => ?_)
    · have := hb h
      have hn : l = [] := List.length_eq_zero_iff.mp this
      subst hn
      repeat (first | refine ax_q (q_assign rfl) ?_ | refine ax_ops_nil ?_ | refine ax_post_code ?_ | refine ax_seq ?_ | refine ax_region rfl ?_)
      refine ax_nilobj 2 ⟨32, pairsC []⟩ rfl rfl ?_
      repeat (first | refine ax_return ?_ | refine ax_ret_code ?_)
      exact ax_ret hR rfl ⟨rfl, rfl⟩
    · repeat (first | refine ax_post_code ?_ | refine ax_seq ?_ | refine ax_region rfl ?_ | refine ax_skip ?_)
      refine ax_buildSlice rfl rfl rfl rfl rfl rfl rfl rfl rfl rfl ?_
      refine ax_heap_ops [some ⟨32, pairsC []⟩] (HSub.eqv ⟨rfl, rfl, fun i j hi => absurd hi (Nat.not_lt_zero _)⟩ HSub.nil) ?_
      repeat (refine ax_q (q_move rfl) ?_)
      refine ax_append rfl rfl rfl rfl rfl rfl rfl rfl rfl rfl rfl rfl (by show 0 + l.length ≤ l.length; omega) rfl (by show (0 + l.length) * 16 ≤ _ ∧ _; omega) ?_ (by rw [hfix]; exact fun h => h) ?_
      · intro i' j' hi' hj'
        have q := (rowE_cat (0, 0) 2 cellsP [] l).2.2 i' j' hi' hj'
        refine (congrArg (AV.forget 0) q.symm).trans (Eq.trans ?_ q)
        match j', hj' with
        | 0, _ => rfl
        | 1, _ => rfl
      refine ax_heap_ops [some ⟨32, pairsC l⟩] (HSub.eqv (rowE_cat (0, 0) 2 cellsP [] l) HSub.nil) ?_
      repeat (first | refine ax_q (q_assign rfl) ?_ | refine ax_ops_nil ?_ | refine ax_post_code ?_ | refine ax_return ?_)
      refine ax_ret hR rfl ⟨?_, rfl⟩
      show AV.sl 0 0 (0 + l.length) = _; rw [Nat.zero_add]
  · rintro r H ⟨rfl, rfl⟩
    refine ⟨?_, fun h o ho => refl1 (refless_pairs _) h o ho, 0, rfl, fun n => rfl⟩
    intro o ho; simp at ho; subst ho; show 0 + l.length ≤ l.length; omega
def cellW (w : Hist) : List AV := [.ro (pairsC w) 0 w.length]
abbrev waysC (W : List Hist) : Cells := rowE [] 1 cellW W
theorem rowE1_set {α : Type} (d : α) (e : α → List AV) (l : List α) (x : Nat) (a : α) (v : AV) (hx : x < l.length) (hv : v = (e a).getD 0 .any) : CEq (.fn l.length 1 (fun i' j' => bif Nat.beq i' x && Nat.beq j' 0 then v else (e (l.getD i' d)).getD j' .any)) (rowE d 1 e (l.set x a)) := by
  refine ⟨by simp [rowE, Cells.len], rfl, fun i j hi hj => ?_⟩
  obtain rfl := Nat.lt_one_iff.1 (show j < 1 from hj)
  show (e ((l.set x a).getD i d)).getD 0 .any = bif Nat.beq i x && Nat.beq 0 0 then v else (e (l.getD i d)).getD 0 .any
  rw [Go.Ax.Dt.getD_set]
  by_cases h : i = x
  · subst h
    rw [if_pos ⟨rfl, hx⟩, hv, show Nat.beq i i = true from Nat.beq_refl i]; rfl
  · rw [if_neg (fun q => h q.1), beq_ne h]; rfl
theorem setG_mem {α : Type} {v : Nat → α} {P : α → Prop} : ∀ (l : List Int) (k : Nat) (a : List α), (∀ x ∈ a, P x) → (∀ j, k ≤ j → j < k + l.length → P (v j)) → ∀ x ∈ setG v l k a, P x
  | [], _, a, h, _ => h
  | c :: r, k, a, h, hv => by
    rw [setG]
    refine setG_mem r (k + 1) _ (fun x hx => ?_) (fun j h1 h2 => hv j (by omega) (by simp; omega))
    rcases List.mem_or_eq_of_mem_set hx with q | q
    · exact h x q
    · rw [q]; exact hv k (Nat.le_refl _) (by simp)
theorem getD_all {α : Type} {P : α → Prop} {l : List α} {d : α} (h : ∀ x ∈ l, P x) (hd : P d) (i : Nat) : P (l.getD i d) := by
  rcases Nat.lt_or_ge i l.length with q | q
  · exact h _ (get_in d q)
  · have : l.getD i d = d := by simp [List.getD, q]
    rw [this]; exact hd
theorem wayV_len (p : Int) (n : TNode) (w : Hist) (k : Nat) : (wayV p n w k).length ≤ w.length + 1 := by
  unfold wayV
  split
  · rw [List.length_append]; exact Nat.le_refl _
  · omega
theorem ways_len (t : Tree) (p : Int) : ∀ i, ∀ w ∈ waysN t p i, w.length ≤ i
  | 0, w, hw => by
    rw [(List.mem_replicate.1 hw).2]; exact Nat.le_refl _
  | i + 1, w, hw => by
    have ih := ways_len t p i
    rw [waysN, setWays_G] at hw
    refine setG_mem (P := fun w : Hist => w.length ≤ i + 1) _ _ _ (fun x hx => Nat.le_succ_of_le (ih x hx)) (fun j _ _ => ?_) w hw
    have h1 := wayV_len p (t.getD i node0) ((waysN t p i).getD i []) j
    have h2 : ((waysN t p i).getD i []).length ≤ i := getD_all (P := fun w : Hist => w.length ≤ i) ih (Nat.zero_le _) i
    omega
theorem ways_short {t : Tree} (hv : Valid t) (p : Int) : ∀ w ∈ waysOf t p, w.length ≤ 120 := fun w hw => Nat.le_trans (ways_len t p t.length w hw) hv.le
theorem refless_ways (W : List Hist) : refless (waysC W) := by
  intro i j _ hj
  obtain rfl : j = 0 := by have hj : j < 1 := hj; omega
  rfl
theorem below_ways (W : List Hist) (n : Nat) : belowP n (waysC W) := by
  intro i j _ hj
  obtain rfl : j = 0 := by have hj : j < 1 := hj; omega
  rfl
theorem below2 {n : Nat} {o1 o2 : AObj} (h1 : belowP n o1.c) (h2 : belowP n o2.c) : ∀ (h : Nat) (o : AObj), ([some o1, some o2] : AHeap)[h]? = some (some o) → belowP n o.c := by
  intro h o ho
  match h, ho with
  | 0, ho => cases ho; exact h1
  | 1, ho => cases ho; exact h2
  | _ + 2, ho => simp at ho
theorem below_node (n : Nat) (kd pl nf : Int) (nx : List Int) (od : List Text) (py : Text) : belowP n (.box [.int .i64 kd, .int .i64 pl, .int .i64 nf, .ro (.ints .i64 nx) 0 nx.length, .ro (.strs od) 0 od.length, .str py]) := by
  intro i j _ hj
  have hj : j < 6 := hj
  match j, hj with
  | 0, _ => rfl
  | 1, _ => rfl
  | 2, _ => rfl
  | 3, _ => rfl
  | 4, _ => rfl
  | 5, _ => rfl
theorem ways_forget (W : List Hist) (h : Nat) : CEq ((waysC W).forget h) (waysC W) := by
  refine ⟨rfl, rfl, fun i j _ hj => ?_⟩
  have hj : j < 1 := hj
  match j, hj with
  | 0, _ => rfl
theorem ways_ok (t : Tree) (p : Int) (hT : ShortT t) (hv : Valid t) : VCall Tryz.prog 160 [.ro (treeC t) 0 t.length, .int .i64 p] (.ro (waysC (waysOf t p)) 0 t.length) := by
  have hlen := hT.len
  have h120 := hv.le
  refine ACall.value0 (acall_of_ax (P := Tryz.prog) (fn := Tryz.f160) rfl rfl (by kernel_rfl) rfl (fun c hR hfix => ?_)) (fix := fun _ => False) (fun _ h => h) rfl rfl
  repeat (first | refine ax_q (q_move rfl) ?_ | refine ax_q (q_assign rfl) ?_ | refine ax_ops_nil ?_ | refine ax_post_code ?_ | refine ax_seq ?_ | refine ax_region rfl ?_ | refine ax_q (q_len rfl rfl rfl) ?_)
  refine ax_make rfl rfl rfl rfl rfl rfl rfl rfl (by show 0 ≤ _ ∧ _ ≤ _ ∧ (24 : Int) * _ ≤ _ ∧ _; omega) ?_
  refine ax_heapA_ops [some ⟨27, waysC (waysN t p 0)⟩] rfl (fun h o' ho' => ?_) ?_
  · match h, ho' with
    | 0, ho' =>
      cases ho'
      refine ⟨_, rfl, rfl, ?_, rfl, fun i j hi hj => ?_⟩
      · show (List.replicate t.length ([] : Hist)).length = ((t.length : Nat) : Int).toNat
        rw [List.length_replicate]; omega
      · obtain rfl := Nat.lt_one_iff.1 (show j < 1 from hj)
        have e : (List.replicate t.length ([] : Hist)).getD i [] = [] := by
          simp only [List.getD, List.getElem?_replicate]
          split <;> rfl
        show AEq .nil ((cellW ((List.replicate t.length ([] : Hist)).getD i [])).getD 0 .any)
        rw [e]; exact AEq.nil
    | _ + 1, ho' => simp at ho'
  repeat (first | refine ax_q (q_move rfl) ?_ | refine ax_q (q_assign rfl) ?_ | refine ax_ops_nil ?_ | refine ax_post_code ?_ | refine ax_seq ?_ | refine ax_region rfl ?_ | refine ax_block ?_ | refine ax_q (q_len rfl rfl rfl) ?_)
  refine ax_loop (ι := Nat) (fun i => [(0, .ro (treeC t) 0 t.length), (1, .int .i64 p), (5, .sl 0 0 t.length), (13, .ro (treeC t) 0 t.length), (14, .int .i64 (t.length : Nat)), (15, .int .i64 (i : Nat))]) (fun i => [some ⟨27, waysC (waysN t p i)⟩])
    (fun i => i ≤ t.length) (fun i => t.length - i) 0 ⟨⟨rfl, rfl, rfl, rfl, rfl, rfl, trivial⟩, rfl, Nat.zero_le _⟩ ?_
  intro i hi
  repeat (first | refine ax_ops_nil ?_ | refine ax_post_code ?_ | refine ax_seq ?_ | refine ax_region rfl ?_ | refine ax_q (q_lss rfl rfl) ?_)
  refine ax_cond_dec rfl (fun h => ?_) (fun h => ?_)
  · have hi' : i < t.length := by omega
    have hsn := hT.node _ (getD_mem node0 hi')
    have hbh := hv.behind hi'
    have hWl := waysN_len t p i
    have hWs := ways_len t p i
    have hnx : waysN t p (i + 1) = setG (wayV p (t.getD i node0) ((waysN t p i).getD i [])) (t.getD i node0).next 0 (waysN t p i) := by rw [waysN, setWays_G]
    generalize hW2 : waysN t p (i + 1) = W2 at *
    generalize waysN t p i = W at *
    obtain ⟨s1, s2, s3, s4⟩ := hsn
    repeat (first | refine ax_q (q_move rfl) ?_ | refine ax_q (q_assign rfl) ?_ | refine ax_post_code ?_ | refine ax_seq ?_ | refine ax_region rfl ?_ | refine ax_block ?_ | refine ax_skip ?_ | refine ax_q (q_index_ro' rfl rfl rfl rfl (by first | (simp only [Nat.zero_add, Int.toNat_natCast, Int.toNat_zero]; exact rfl) | exact rfl) (by omega)) ?_ | refine ax_q (q_loadagg_rp rfl rfl rfl rfl rfl rfl) ?_ | refine ax_alloc rfl rfl rfl ?_)
    refine ax_slot_ops 19 (.agg (cellsN (t.getD i node0))) rfl (AEq.of_eq rfl) ?_
    generalize hn : t.getD i node0 = n at *
    have hown : own p n = (decide (n.kind = 2) && decide (n.player = p)) := rfl
    obtain ⟨kd, pl, nf, nx, od, py⟩ := n
    simp only at *
    refine ax_storeagg (c' := .box [.int .i64 kd, .int .i64 pl, .int .i64 nf, .ro (.ints .i64 nx) 0 nx.length, .ro (.strs od) 0 od.length, .str py]) rfl rfl rfl rfl rfl Nat.zero_lt_one rfl rfl (fun i' j' hi' hj' => ?_) ?_
    · rw [if_pos (Nat.lt_one_iff.1 hi')]; rfl
    refine ax_heap_eq_ops [some ⟨27, waysC W⟩, some ⟨71, .box [.int .i64 kd, .int .i64 pl, .int .i64 nf, .ro (.ints .i64 nx) 0 nx.length, .ro (.strs od) 0 od.length, .str py]⟩] rfl ?_
    generalize hv : wayV p ⟨kd, pl, nf, nx, od, py⟩ (W.getD i []) = v at *
    repeat (first | refine ax_q (q_move rfl) ?_ | refine ax_ops_nil ?_ | refine ax_post_code ?_ | refine ax_seq ?_ | refine ax_region rfl ?_ | refine ax_block ?_ | refine ax_q (q_loadb_ptr rfl rfl rfl rfl rfl) ?_ | refine ax_q (q_len rfl rfl rfl) ?_ | refine ax_q (q_field_ptr rfl rfl rfl rfl rfl rfl) ?_)
    refine ax_loop (ι := Nat) (fun j => [(0, .ro (treeC t) 0 t.length), (1, .int .i64 p), (5, .sl 0 0 t.length), (6, .int .i64 (i : Nat)), (7, .ptr 1 0 0), (13, .ro (treeC t) 0 t.length), (14, .int .i64 (t.length : Nat)), (15, .int .i64 (i : Nat)), (21, .ro (.ints .i64 nx) 0 nx.length), (22, .int .i64 (nx.length : Nat)), (23, .int .i64 (j : Nat))]) (fun j => [some ⟨27, waysC (setG v (nx.take j) 0 W)⟩, some ⟨71, .box [.int .i64 kd, .int .i64 pl, .int .i64 nf, .ro (.ints .i64 nx) 0 nx.length, .ro (.strs od) 0 od.length, .str py]⟩])
      (fun j => j ≤ nx.length) (fun j => nx.length - j) 0 ⟨⟨rfl, rfl, rfl, rfl, rfl, rfl, rfl, rfl, rfl, rfl, rfl, trivial⟩, rfl, Nat.zero_le _⟩ ?_
    intro j hj
    repeat (first | refine ax_ops_nil ?_ | refine ax_post_code ?_ | refine ax_seq ?_ | refine ax_region rfl ?_ | refine ax_q (q_lss rfl rfl) ?_)
    refine ax_cond_dec rfl (fun h5 => ?_) (fun h5 => ?_)
    · have hj' : j < nx.length := by omega
      obtain ⟨b1, b2⟩ := hbh _ (get_in 0 hj')
      have hAl : (setG v (nx.take j) 0 W).length = t.length := by rw [setG_len]; exact hWl
      have hAi : (setG v (nx.take j) 0 W).getD i [] = W.getD i [] := setG_other v [] _ _ _ (fun c hc => by have := hbh c (List.mem_of_mem_take hc); omega)
      have hst : setG v (nx.take (j + 1)) 0 W = (setG v (nx.take j) 0 W).set (nx.getD j 0).toNat (v j) := by
        rw [take_snocI hj', setG_snoc, List.length_take, Nat.min_eq_left hj, Nat.zero_add]
      have hw0 : (W.getD i []).length ≤ i := getD_all (P := fun w : Hist => w.length ≤ i) hWs (Nat.zero_le _) i
      have hvj : v j = wayV p ⟨kd, pl, nf, nx, od, py⟩ (W.getD i []) j := by rw [hv]
      unfold wayV at hvj
      rw [hown] at hvj
      simp only at hvj
      generalize hA2 : setG v (nx.take (j + 1)) 0 W = A2 at *
      generalize setG v (nx.take j) 0 W = A at *
      generalize W.getD i [] = w0 at *
      obtain ⟨x, hx⟩ := Int.eq_ofNat_of_zero_le (show 0 ≤ nx.getD j 0 by omega)
      rw [hx] at b1 b2 hst
      rw [Int.toNat_natCast] at hst
      have hxl : x < A.length := by omega
      have gi : i < (waysC A).len := by show i < A.length; omega
      have gx : x < (waysC A).len := hxl
      have hA1i : (A.set x w0).getD i [] = w0 := by rw [Go.Ax.Dt.getD_set, if_neg (by omega)]; exact hAi
      have hA1l : (A.set x w0).length = t.length := by rw [List.length_set]; exact hAl
      have gi1 : i < (waysC (A.set x w0)).len := by show i < (A.set x w0).length; omega
      have gx1 : x < (waysC (A.set x w0)).len := by show x < (A.set x w0).length; omega
      have hw0l : w0.length ≤ 1000000 := by omega
      repeat (first | refine ax_q (q_move rfl) ?_ | refine ax_q (q_assign rfl) ?_ | refine ax_q (q_loadi_rp rfl rfl rfl) ?_ | refine ax_ops_nil ?_ | refine ax_post_code ?_ | refine ax_seq ?_ | refine ax_region rfl ?_ | refine ax_block ?_ | refine ax_skip ?_ | refine ax_q (q_loadb_ptr rfl rfl rfl rfl rfl) ?_ | refine ax_q (q_eql rfl rfl) ?_ | refine ax_q (q_index_ro' rfl rfl rfl rfl (by first | (simp only [Nat.zero_add, Int.toNat_natCast, Int.toNat_zero]; exact rfl) | exact rfl) (by omega)) ?_ | refine ax_q (q_index_sl' rfl rfl rfl rfl rfl (by first | (simp only [Nat.zero_add, Int.toNat_natCast, Int.toNat_zero]; exact rfl) | exact rfl) (by omega)) ?_ | refine ax_q (q_loadf_ptr rfl rfl rfl rfl rfl (by first | assumption | omega)) ?_ | refine ax_q (q_field_ptr rfl rfl rfl rfl rfl rfl) ?_ | refine ax_store rfl rfl rfl rfl rfl rfl rfl (by first | assumption | (show _ < List.length _; first | assumption | omega)) ?_)
      refine ax_slot_ops 33 (.ro (pairsC w0) 0 w0.length) rfl (AEq.of_eq (by rw [← hAi]; rfl)) ?_
      refine ax_slot_ops 29 (.int .i64 (x : Nat)) rfl (AEq.of_eq (by rw [hx])) ?_
      refine ax_slot_ops 9 (.int .i64 (x : Nat)) rfl (AEq.of_eq (by rw [hx])) ?_
      have hxn : (nx.getD j 0).toNat = x := by rw [hx, Int.toNat_natCast]
      refine ax_heap_ops [some ⟨27, waysC (A.set x w0)⟩, some ⟨71, .box [.int .i64 kd, .int .i64 pl, .int .i64 nf, .ro (.ints .i64 nx) 0 nx.length, .ro (.strs od) 0 od.length, .str py]⟩] (by rw [← hxn]; exact HSub.eqv (rowE1_set [] cellW A (nx.getD j 0).toNat w0 _ (by omega) (by rw [← hAi])) (HSub.refl _)) ?_
      refine ax_gsplit rfl rfl (fun g1 => ?_) (fun g1 => ?_)
      · repeat (first | refine ax_q (q_move rfl) ?_ | refine ax_ops_nil ?_ | refine ax_post_code ?_ | refine ax_guard rfl rfl ?_ | refine ax_q (q_loadb_ptr rfl rfl rfl rfl rfl) ?_ | refine ax_q (q_eql rfl rfl) ?_ | refine ax_q (q_pick rfl rfl) ?_ | refine ax_q (q_field_ptr rfl rfl rfl rfl rfl rfl) ?_)
        refine ax_cond_dec rfl (fun g2 => ?_) (fun g2 => ?_)
        · rw [decide_eq_true g1, decide_eq_true g2, Bool.true_and, if_pos rfl] at hvj
          skip
          refine ax_regiond (by kernel_rfl) ?_
          apply ax_tail_any (H := [some ⟨27, waysC (A.set x w0)⟩, some ⟨71, .box [.int .i64 kd, .int .i64 pl, .int .i64 nf, .ro (.ints .i64 nx) 0 nx.length, .ro (.strs od) 0 od.length, .str py]⟩, some ⟨32, pairsC w0⟩]) [(0, .ro (treeC t) 0 t.length), (1, .int .i64 p), (5, .sl 0 0 t.length), (6, .int .i64 (i : Nat)), (7, .ptr 1 0 0), (13, .ro (treeC t) 0 t.length), (14, .int .i64 (t.length : Nat)), (15, .int .i64 (i : Nat)), (21, .ro (.ints .i64 nx) 0 nx.length), (22, .int .i64 (nx.length : Nat)), (23, .int .i64 (j : Nat)), (44, .sl 0 0 t.length), (45, .int .i64 (x : Nat)), (50, .sl 2 0 w0.length), (55, .ro (rowOf 1 2 [.int .i64 nf, .int .i64 (j : Nat)]) 0 1)]
          · intro fin2
            refine ax_any_q 0 rfl (by kernel_rfl) (by kernel_rfl) (by kernel_rfl) rfl (q_move rfl) rfl ?_
            refine ax_any_q 1 rfl (by kernel_rfl) (by kernel_rfl) (by kernel_rfl) rfl (q_move rfl) rfl ?_
            refine ax_any_q 2 rfl (by kernel_rfl) (by kernel_rfl) (by kernel_rfl) rfl (q_move rfl) rfl ?_
            refine ax_any_q 3 rfl (by kernel_rfl) (by kernel_rfl) (by kernel_rfl) rfl (q_move rfl) rfl ?_
            refine ax_any_q 7 rfl (by kernel_rfl) (by kernel_rfl) (by kernel_rfl) rfl (q_field_ptr rfl rfl rfl rfl rfl rfl) rfl ?_
            refine ax_any_q 9 rfl (by kernel_rfl) (by kernel_rfl) (by kernel_rfl) rfl (q_move rfl) rfl ?_
            refine ax_any_q 4 rfl (by kernel_rfl) (by kernel_rfl) (by kernel_rfl) rfl (q_index_sl' rfl rfl rfl rfl rfl (by first | (simp only [Nat.zero_add, Int.toNat_natCast, Int.toNat_zero]; exact rfl) | exact rfl) (by omega)) rfl ?_
            refine ax_any_step (is := [5, 8]) (by kernel_rfl) (by simp) rfl ⟨fun o ho => ?_, fun o ho => ?_, trivial⟩
            all_goals (cases ho)
            · repeat (first | refine ax_ops_nil ?_ | refine ax_post_any ?_ | refine ax_q (q_loadf_ptr rfl rfl rfl rfl rfl (by first | assumption | omega)) ?_)
              refine ax_slot_any 49 (.ro (pairsC w0) 0 w0.length) rfl (AEq.of_eq (show (cellW ((A.set x w0).getD i [])).getD 0 .any = .ro (pairsC w0) 0 w0.length by rw [hA1i]; rfl)) ?_
              refine ax_any_step (is := [6, 8]) (by kernel_rfl) (by simp) rfl ⟨fun o ho => ?_, fun o ho => ?_, trivial⟩
              all_goals (cases ho)
              · refine ax_callf rfl rfl rfl (cloneP w0 hw0l) ?_
                repeat (first | refine ax_ops_nil ?_ | refine ax_post_any ?_)
                refine ax_any_step (is := [8]) (by kernel_rfl) (by simp) rfl ⟨fun o ho => ?_, trivial⟩
                all_goals (cases ho)
                repeat (first | refine ax_ops_nil ?_ | refine ax_post_any ?_ | refine ax_q (q_loadb_ptr rfl rfl rfl rfl rfl) ?_)
                refine ax_any_q 10 rfl (by kernel_rfl) (by kernel_rfl) (by kernel_rfl) rfl (q_build rfl rfl rfl rfl rfl rfl) rfl ?_
                refine ax_any_step (is := [11]) (by kernel_rfl) (by simp) rfl ⟨fun o ho => ?_, trivial⟩
                all_goals (cases ho)
                repeat (first | refine ax_ops_nil ?_ | refine ax_post_any ?_ | refine ax_buildSliceRo rfl rfl rfl rfl rfl rfl rfl rfl rfl rfl rfl ?_)
                exact fin2 _ ⟨rfl, rfl, rfl, rfl, rfl, rfl, rfl, rfl, rfl, rfl, rfl, rfl, rfl, rfl, rfl, trivial⟩
              · repeat (first | refine ax_ops_nil ?_ | refine ax_post_any ?_ | refine ax_q (q_loadb_ptr rfl rfl rfl rfl rfl) ?_)
                refine ax_any_q 10 rfl (by kernel_rfl) (by kernel_rfl) (by kernel_rfl) rfl (q_build rfl rfl rfl rfl rfl rfl) rfl ?_
                refine ax_any_step (is := [6, 11]) (by kernel_rfl) (by simp) rfl ⟨fun o ho => ?_, fun o ho => ?_, trivial⟩
                all_goals (cases ho)
                · refine ax_callf rfl rfl rfl (cloneP w0 hw0l) ?_
                  repeat (first | refine ax_ops_nil ?_ | refine ax_post_any ?_)
                  refine ax_any_step (is := [11]) (by kernel_rfl) (by simp) rfl ⟨fun o ho => ?_, trivial⟩
                  all_goals (cases ho)
                  repeat (first | refine ax_ops_nil ?_ | refine ax_post_any ?_ | refine ax_buildSliceRo rfl rfl rfl rfl rfl rfl rfl rfl rfl rfl rfl ?_)
                  exact fin2 _ ⟨rfl, rfl, rfl, rfl, rfl, rfl, rfl, rfl, rfl, rfl, rfl, rfl, rfl, rfl, rfl, trivial⟩
                · repeat (first | refine ax_ops_nil ?_ | refine ax_post_any ?_ | refine ax_buildSliceRo rfl rfl rfl rfl rfl rfl rfl rfl rfl rfl rfl ?_)
                  refine ax_any_step (is := [6]) (by kernel_rfl) (by simp) rfl ⟨fun o ho => ?_, trivial⟩
                  all_goals (cases ho)
                  refine ax_callf rfl rfl rfl (cloneP w0 hw0l) ?_
                  repeat (first | refine ax_ops_nil ?_ | refine ax_post_any ?_)
                  exact fin2 _ ⟨rfl, rfl, rfl, rfl, rfl, rfl, rfl, rfl, rfl, rfl, rfl, rfl, rfl, rfl, rfl, trivial⟩
            · repeat (first | refine ax_ops_nil ?_ | refine ax_post_any ?_ | refine ax_q (q_loadb_ptr rfl rfl rfl rfl rfl) ?_)
              refine ax_any_q 10 rfl (by kernel_rfl) (by kernel_rfl) (by kernel_rfl) rfl (q_build rfl rfl rfl rfl rfl rfl) rfl ?_
              refine ax_any_step (is := [5, 11]) (by kernel_rfl) (by simp) rfl ⟨fun o ho => ?_, fun o ho => ?_, trivial⟩
              all_goals (cases ho)
              · repeat (first | refine ax_ops_nil ?_ | refine ax_post_any ?_ | refine ax_q (q_loadf_ptr rfl rfl rfl rfl rfl (by first | assumption | omega)) ?_)
                refine ax_slot_any 49 (.ro (pairsC w0) 0 w0.length) rfl (AEq.of_eq (show (cellW ((A.set x w0).getD i [])).getD 0 .any = .ro (pairsC w0) 0 w0.length by rw [hA1i]; rfl)) ?_
                refine ax_any_step (is := [6, 11]) (by kernel_rfl) (by simp) rfl ⟨fun o ho => ?_, fun o ho => ?_, trivial⟩
                all_goals (cases ho)
                · refine ax_callf rfl rfl rfl (cloneP w0 hw0l) ?_
                  repeat (first | refine ax_ops_nil ?_ | refine ax_post_any ?_)
                  refine ax_any_step (is := [11]) (by kernel_rfl) (by simp) rfl ⟨fun o ho => ?_, trivial⟩
                  all_goals (cases ho)
                  repeat (first | refine ax_ops_nil ?_ | refine ax_post_any ?_ | refine ax_buildSliceRo rfl rfl rfl rfl rfl rfl rfl rfl rfl rfl rfl ?_)
                  exact fin2 _ ⟨rfl, rfl, rfl, rfl, rfl, rfl, rfl, rfl, rfl, rfl, rfl, rfl, rfl, rfl, rfl, trivial⟩
                · repeat (first | refine ax_ops_nil ?_ | refine ax_post_any ?_ | refine ax_buildSliceRo rfl rfl rfl rfl rfl rfl rfl rfl rfl rfl rfl ?_)
                  refine ax_any_step (is := [6]) (by kernel_rfl) (by simp) rfl ⟨fun o ho => ?_, trivial⟩
                  all_goals (cases ho)
                  refine ax_callf rfl rfl rfl (cloneP w0 hw0l) ?_
                  repeat (first | refine ax_ops_nil ?_ | refine ax_post_any ?_)
                  exact fin2 _ ⟨rfl, rfl, rfl, rfl, rfl, rfl, rfl, rfl, rfl, rfl, rfl, rfl, rfl, rfl, rfl, trivial⟩
              · repeat (first | refine ax_ops_nil ?_ | refine ax_post_any ?_ | refine ax_buildSliceRo rfl rfl rfl rfl rfl rfl rfl rfl rfl rfl rfl ?_)
                refine ax_any_step (is := [5]) (by kernel_rfl) (by simp) rfl ⟨fun o ho => ?_, trivial⟩
                all_goals (cases ho)
                repeat (first | refine ax_ops_nil ?_ | refine ax_post_any ?_ | refine ax_q (q_loadf_ptr rfl rfl rfl rfl rfl (by first | assumption | omega)) ?_)
                refine ax_slot_any 49 (.ro (pairsC w0) 0 w0.length) rfl (AEq.of_eq (show (cellW ((A.set x w0).getD i [])).getD 0 .any = .ro (pairsC w0) 0 w0.length by rw [hA1i]; rfl)) ?_
                refine ax_any_step (is := [6]) (by kernel_rfl) (by simp) rfl ⟨fun o ho => ?_, trivial⟩
                all_goals (cases ho)
                refine ax_callf rfl rfl rfl (cloneP w0 hw0l) ?_
                repeat (first | refine ax_ops_nil ?_ | refine ax_post_any ?_)
                exact fin2 _ ⟨rfl, rfl, rfl, rfl, rfl, rfl, rfl, rfl, rfl, rfl, rfl, rfl, rfl, rfl, rfl, trivial⟩
          · refine ax_any_step (is := [12]) (by kernel_rfl) (by simp) rfl ⟨fun o ho => ?_, trivial⟩
            all_goals (cases ho)
            refine ax_append rfl rfl rfl rfl rfl rfl rfl rfl rfl rfl rfl rfl (by show 0 + 1 ≤ 1; omega) rfl (by show (w0.length + 1) * 16 ≤ _ ∧ _; omega) ?_ (by rw [hfix]; exact fun h => h) ?_
            · intro i' j' hi' hj'
              have q := (rowE_snoc (0, 0) 2 cellsP w0 (nf, (j : Int)) (rowOf 1 2 [.int .i64 nf, .int .i64 (j : Nat)]) (fun j hj => by
                match j, hj with
                | 0, _ => rfl
                | 1, _ => rfl)).2.2 i' j' hi' hj'
              refine (congrArg (AV.forget 2) q.symm).trans (Eq.trans ?_ q)
              match j', hj' with
              | 0, _ => rfl
              | 1, _ => rfl
            refine ax_heap_ops [some ⟨27, waysC (A.set x w0)⟩, some ⟨71, .box [.int .i64 kd, .int .i64 pl, .int .i64 nf, .ro (.ints .i64 nx) 0 nx.length, .ro (.strs od) 0 od.length, .str py]⟩, some ⟨32, pairsC (w0 ++ [(nf, (j : Int))])⟩] ?_ ?_
            · exact HSub.eqv (ways_forget (A.set x w0) 2) (HSub.eqv (CEq.refl _) (HSub.eqv (rowE_snoc (0, 0) 2 cellsP w0 (nf, (j : Int)) (rowOf 1 2 [.int .i64 nf, .int .i64 (j : Nat)]) (fun j hj => by
                match j, hj with
                | 0, _ => rfl
                | 1, _ => rfl)) HSub.nil))
            refine ax_give 2 56 (w0.length + 1) [(0, .ro (treeC t) 0 t.length), (1, .int .i64 p), (5, .sl 0 0 t.length), (6, .int .i64 (i : Nat)), (7, .ptr 1 0 0), (13, .ro (treeC t) 0 t.length), (14, .int .i64 (t.length : Nat)), (15, .int .i64 (i : Nat)), (21, .ro (.ints .i64 nx) 0 nx.length), (22, .int .i64 (nx.length : Nat)), (23, .int .i64 (j : Nat)), (44, .sl 0 0 t.length), (45, .int .i64 (x : Nat))] rfl (refless_pairs _) rfl (by show w0.length + 1 ≤ (w0 ++ [(nf, (j : Int))]).length; rw [List.length_append]; exact Nat.le_refl _) ⟨rfl, rfl, rfl, rfl, rfl, rfl, rfl, rfl, rfl, rfl, rfl, rfl, rfl, trivial⟩ ?_
            refine ax_heap_eq_ops [some ⟨27, waysC (A.set x w0)⟩, some ⟨71, .box [.int .i64 kd, .int .i64 pl, .int .i64 nf, .ro (.ints .i64 nx) 0 nx.length, .ro (.strs od) 0 od.length, .str py]⟩, none] rfl ?_
            have hl9 : (w0 ++ [(nf, (j : Int))]).length = w0.length + 1 := by rw [List.length_append]; rfl
            refine ax_slot_ops 56 (.ro (pairsC (w0 ++ [(nf, (j : Int))])) 0 (w0 ++ [(nf, (j : Int))]).length) rfl (AEq.of_eq (by rw [hl9])) ?_
            generalize w0 ++ [(nf, (j : Int))] = w1 at *
            repeat (first | refine ax_ops_nil ?_ | refine ax_post_any ?_)
            refine ax_any_q 13 rfl (by kernel_rfl) (by kernel_rfl) (by kernel_rfl) rfl (q_index_sl' rfl rfl rfl rfl rfl (by first | (simp only [Nat.zero_add, Int.toNat_natCast, Int.toNat_zero]; exact rfl) | exact rfl) (by omega)) rfl ?_
            refine ax_any_step (is := [14]) (by kernel_rfl) (by simp) rfl ⟨fun o ho => ?_, trivial⟩
            all_goals (cases ho)
            refine ax_store rfl rfl rfl rfl rfl rfl rfl gx1 ?_
            refine ax_heap_ops [some ⟨27, waysC ((A.set x w0).set x w1)⟩, some ⟨71, .box [.int .i64 kd, .int .i64 pl, .int .i64 nf, .ro (.ints .i64 nx) 0 nx.length, .ro (.strs od) 0 od.length, .str py]⟩, none] (HSub.eqv (rowE1_set [] cellW (A.set x w0) x w1 _ gx1 rfl) (HSub.refl _)) ?_
            repeat (first | refine ax_ops_nil ?_ | refine ax_post_any ?_)
            refine ax_any_done (by kernel_rfl) ?_
            repeat (refine ax_post_blk ?_)
            refine ax_post_code ?_
            refine ax_cutP [some ⟨27, waysC ((A.set x w0).set x w1)⟩, some ⟨71, .box [.int .i64 kd, .int .i64 pl, .int .i64 nf, .ro (.ints .i64 nx) 0 nx.length, .ro (.strs od) 0 od.length, .str py]⟩] [none] [(0, .ro (treeC t) 0 t.length), (1, .int .i64 p), (5, .sl 0 0 t.length), (6, .int .i64 (i : Nat)), (7, .ptr 1 0 0), (13, .ro (treeC t) 0 t.length), (14, .int .i64 (t.length : Nat)), (15, .int .i64 (i : Nat)), (21, .ro (.ints .i64 nx) 0 nx.length), (22, .int .i64 (nx.length : Nat)), (23, .int .i64 (j : Nat))] rfl ⟨rfl, rfl, rfl, rfl, rfl, rfl, rfl, rfl, rfl, rfl, rfl, trivial⟩ (fun h hh => by rw [hfix] at hh; exact absurd hh id) (below2 (below_ways _ _) (below_node _ _ _ _ _ _ _)) rfl ?_
            repeat (first | refine ax_q (q_move rfl) ?_ | refine ax_ops_nil ?_ | refine ax_region rfl ?_ | refine ax_q (q_add rfl rfl (by omega)) ?_)
            exact ax_post_inv ⟨j + 1, by omega, by omega, ⟨rfl, rfl, rfl, rfl, rfl, rfl, rfl, rfl, rfl, rfl, rfl, trivial⟩, by rw [hA2, hst, hvj, List.set_set]⟩
        · rw [decide_eq_true g1, decide_eq_false g2, if_neg (by decide)] at hvj
          repeat (first | refine ax_q (q_move rfl) ?_ | refine ax_ops_nil ?_ | refine ax_post_code ?_ | refine ax_region rfl ?_ | refine ax_post_blk ?_ | refine ax_skip ?_ | refine ax_q (q_add rfl rfl (by omega)) ?_)
          exact ax_post_inv ⟨j + 1, by omega, by omega, ⟨rfl, rfl, rfl, rfl, rfl, rfl, rfl, rfl, rfl, rfl, rfl, trivial⟩, by rw [hA2, hst, hvj]⟩
      · rw [decide_eq_false g1, Bool.false_and, if_neg (by decide)] at hvj
        repeat (first | refine ax_q (q_move rfl) ?_ | refine ax_ops_nil ?_ | refine ax_post_code ?_ | refine ax_region rfl ?_ | refine ax_skip_not rfl rfl rfl ?_ | refine ax_cond_false rfl ?_ | refine ax_post_blk ?_ | refine ax_skip ?_ | refine ax_q (q_pick rfl rfl) ?_ | refine ax_q (q_add rfl rfl (by omega)) ?_)
        exact ax_post_inv ⟨j + 1, by omega, by omega, ⟨rfl, rfl, rfl, rfl, rfl, rfl, rfl, rfl, rfl, rfl, rfl, trivial⟩, by rw [hA2, hst, hvj]⟩
    · have hje : j = nx.length := by omega
      subst hje
      rw [List.take_length, ← hnx]
      repeat (first | refine ax_post_blk ?_ | refine ax_exit ?_ | refine ax_exit_here ?_ | refine ax_exit_code ?_ | refine ax_exit_inv ?_)
      refine ax_post_code ?_
      refine ax_cutP [some ⟨27, waysC W2⟩] [some ⟨71, .box [.int .i64 kd, .int .i64 pl, .int .i64 nf, .ro (.ints .i64 nx) 0 nx.length, .ro (.strs od) 0 od.length, .str py]⟩] [(0, .ro (treeC t) 0 t.length), (1, .int .i64 p), (5, .sl 0 0 t.length), (13, .ro (treeC t) 0 t.length), (14, .int .i64 (t.length : Nat)), (15, .int .i64 (i : Nat))] rfl ⟨rfl, rfl, rfl, rfl, rfl, rfl, trivial⟩ (fun h hh => by rw [hfix] at hh; exact absurd hh id) (below1 (below_ways _ _)) rfl ?_
      repeat (first | refine ax_q (q_move rfl) ?_ | refine ax_ops_nil ?_ | refine ax_region rfl ?_ | refine ax_q (q_add rfl rfl (by omega)) ?_)
      exact ax_post_inv ⟨i + 1, by omega, by omega, ⟨rfl, rfl, rfl, rfl, rfl, rfl, trivial⟩, by rw [hW2]⟩
  · have hie : i = t.length := by omega
    subst hie
    repeat (first | refine ax_post_code ?_ | refine ax_seq ?_ | refine ax_exit ?_ | refine ax_exit_here ?_ | refine ax_exit_code ?_ | refine ax_exit_inv ?_)
    refine ax_give_code 0 5 t.length [] rfl (refless_ways _) rfl (by show t.length ≤ (waysN t p t.length).length; rw [waysN_len]; exact Nat.le_refl _) trivial ?_
    repeat (first | refine ax_q (q_move rfl) ?_ | refine ax_q (q_assign rfl) ?_ | refine ax_ops_nil ?_ | refine ax_post_code ?_ | refine ax_region rfl ?_ | refine ax_return ?_)
    exact ax_ret hR rfl rfl
end Go.Proofs.YtgmleamhjnlknaaGreatDoor

namespace Go.Proofs.YtgmleamhjnlknaaGreatDoor
open Go.Ax Go.Ax.Bg Go.Ax.Rt Go.RowKit Go.Ax.Idx Go.Ax.Cd
attribute [local irreducible] Ax Post QOp ACall PureOp
set_option maxRecDepth 100000
set_option maxHeartbeats 4000000

abbrev mapC (F : List (Int × Nat)) : Cells := .mp (F.map (fun x => .int .i64 x.1)) (F.map (fun x => .int .i64 (x.2 : Nat)))
theorem keysI (F : List (Int × Nat)) : ∀ x ∈ F.map (fun x : Int × Nat => AV.int .i64 x.1), keyOK (.int .i64) x = true := by
  intro x hx
  obtain ⟨e, _, rfl⟩ := List.mem_map.1 hx
  rfl
theorem lookA_idx {m : List (Int × Nat)} {k : Int} {s : Nat} (h : lookA m k = some s) : ∃ j : Nat, (m.map (fun x : Int × Nat => AV.int .i64 x.1))[j]? = some (.int .i64 k) ∧ (m.map (fun x : Int × Nat => AV.int .i64 (x.2 : Nat)))[j]? = some (.int .i64 (s : Nat)) := by
  obtain ⟨j, hj⟩ := List.getElem?_of_mem (lookA_some h)
  exact ⟨j, by rw [List.getElem?_map, hj]; rfl, by rw [List.getElem?_map, hj]; rfl⟩
theorem lookA_new {m : List (Int × Nat)} {k : Int} (h : lookA m k = none) : AV.int .i64 k ∉ m.map (fun x : Int × Nat => AV.int .i64 x.1) := by
  intro hm
  obtain ⟨x, hx, e⟩ := List.mem_map.1 hm
  have := lookA_none h
  injection e with e1 e2
  exact this (List.mem_map.2 ⟨x, hx, e2⟩)
theorem below_map (F : List (Int × Nat)) (n : Nat) : belowP n (mapC F) := ⟨belows_map (fun _ => rfl) F, belows_map (fun _ => rfl) F⟩
theorem own_eq {p : Int} {kd pl nf : Int} {nx : List Int} {od : List Text} {py : Text} : own p ⟨kd, pl, nf, nx, od, py⟩ = (decide (kd = 2) && decide (pl = p)) := rfl
theorem isPerf_ok (t : Tree) (p : Int) (hT : ShortT t) (hv : Valid t) : VCall Tryz.prog 112 [.ro (treeC t) 0 t.length, .int .i64 p] (.bool (isPerf t p)) := by
  have hlen := hT.len
  have h120 := hv.le
  have cw := ways_ok t p hT hv
  have hWl : (waysOf t p).length = t.length := waysN_len t p t.length
  have hWs := ways_short hv p
  have hmono : ∀ n i, i ≤ n → perfB t p (waysOf t p) i = false → perfB t p (waysOf t p) n = false := by
    intro n
    induction n with
    | zero => intro i hi h; obtain rfl : i = 0 := by omega
              exact h
    | succ n ih =>
      intro i hi h
      by_cases e : i = n + 1
      · subst e; exact h
      · rw [perfB, ih i (by omega) h]; rfl
  refine ACall.value0 (acall_of_ax (P := Tryz.prog) (fn := Tryz.f112) rfl rfl (by kernel_rfl) rfl (fun c hR hfix => ?_)) (fix := fun _ => False) (fun _ h => h) rfl rfl
  have hR : c.R = fun r' _ => r' = .bool (perfB t p (waysOf t p) t.length) := hR
  generalize waysOf t p = W at *
  repeat (first | refine ax_q (q_move rfl) ?_ | refine ax_q (q_assign rfl) ?_ | refine ax_ops_nil ?_ | refine ax_post_code ?_ | refine ax_seq ?_ | refine ax_region rfl ?_)
  refine ax_callv rfl rfl rfl cw ?_
  repeat (first | refine ax_q (q_assign rfl) ?_ | refine ax_ops_nil ?_ | refine ax_post_code ?_ | refine ax_seq ?_ | refine ax_region rfl ?_)
  refine ax_makemap ?_
  repeat (first | refine ax_q (q_move rfl) ?_ | refine ax_q (q_assign rfl) ?_ | refine ax_ops_nil ?_ | refine ax_post_code ?_ | refine ax_seq ?_ | refine ax_region rfl ?_ | refine ax_block ?_ | refine ax_q (q_len rfl rfl rfl) ?_)
  refine ax_loop (ι := Nat) (fun i => [(0, .ro (treeC t) 0 t.length), (1, .int .i64 p), (5, .ro (waysC W) 0 t.length), (6, .mp 0), (15, .ro (treeC t) 0 t.length), (16, .int .i64 (t.length : Nat)), (17, .int .i64 (i : Nat))]) (fun i => [some ⟨184, mapC (firstsN t p i)⟩])
    (fun i => i ≤ t.length ∧ perfB t p W i = true) (fun i => t.length - i) 0 ⟨⟨rfl, rfl, rfl, rfl, rfl, rfl, rfl, trivial⟩, rfl, Nat.zero_le _, rfl⟩ ?_
  rintro i ⟨hi, hP⟩
  repeat (first | refine ax_ops_nil ?_ | refine ax_post_code ?_ | refine ax_seq ?_ | refine ax_region rfl ?_ | refine ax_q (q_lss rfl rfl) ?_)
  refine ax_cond_dec rfl (fun h => ?_) (fun h => ?_)
  · have hi' : i < t.length := by omega
    have hfs : firstsN t p (i + 1) = if own p (t.getD i node0) = true ∧ lookA (firstsN t p i) (t.getD i node0).info = none then firstsN t p i ++ [((t.getD i node0).info, i)] else firstsN t p i := rfl
    have hps : perfB t p W (i + 1) = (perfB t p W i && (if own p (t.getD i node0) = true then (match lookA (firstsN t p i) (t.getD i node0).info with | none => true | some k => decide (W.getD i [] = W.getD k [])) else true)) := rfl
    have hff : ∀ x ∈ firstsN t p i, x.2 < i := fun x hx => (firsts_from hx).1
    have hno := hmono t.length (i + 1) (by omega)
    rw [hP, Bool.true_and] at hps
    generalize hF2 : firstsN t p (i + 1) = F2 at *
    generalize firstsN t p i = F at *
    generalize hP2 : perfB t p W (i + 1) = P2 at *
    repeat (first | refine ax_q (q_move rfl) ?_ | refine ax_q (q_assign rfl) ?_ | refine ax_post_code ?_ | refine ax_seq ?_ | refine ax_region rfl ?_ | refine ax_block ?_ | refine ax_skip ?_ | refine ax_q (q_index_ro' rfl rfl rfl rfl (by first | (simp only [Nat.zero_add, Int.toNat_natCast, Int.toNat_zero]; exact rfl) | exact rfl) (by omega)) ?_ | refine ax_q (q_loadagg_rp rfl rfl rfl rfl rfl rfl) ?_ | refine ax_alloc rfl rfl rfl ?_)
    refine ax_slot_ops 21 (.agg (cellsN (t.getD i node0))) rfl (AEq.of_eq rfl) ?_
    generalize t.getD i node0 = n at *
    obtain ⟨kd, pl, nf, nx, od, py⟩ := n
    simp only at *
    refine ax_storeagg (c' := .box [.int .i64 kd, .int .i64 pl, .int .i64 nf, .ro (.ints .i64 nx) 0 nx.length, .ro (.strs od) 0 od.length, .str py]) rfl rfl rfl rfl rfl Nat.zero_lt_one rfl rfl (fun i' j' hi' hj' => ?_) ?_
    · rw [if_pos (Nat.lt_one_iff.1 hi')]; rfl
    refine ax_heap_eq_ops [some ⟨184, mapC F⟩, some ⟨71, .box [.int .i64 kd, .int .i64 pl, .int .i64 nf, .ro (.ints .i64 nx) 0 nx.length, .ro (.strs od) 0 od.length, .str py]⟩] rfl ?_
    repeat (first | refine ax_q (q_move rfl) ?_ | refine ax_ops_nil ?_ | refine ax_post_code ?_ | refine ax_seq ?_ | refine ax_region rfl ?_ | refine ax_q (q_loadb_ptr rfl rfl rfl rfl rfl) ?_ | refine ax_q (q_neq rfl rfl) ?_ | refine ax_q (q_field_ptr rfl rfl rfl rfl rfl rfl) ?_)
    refine ax_gsplit rfl rfl (fun g1 => ?_) (fun g1 => ?_)
    · rw [own_eq, decide_eq_false g1, Bool.false_and] at hfs hps
      rw [if_neg (by rintro ⟨q, _⟩; cases q)] at hfs
      rw [if_neg (by decide)] at hps
      repeat (first | refine ax_ops_nil ?_ | refine ax_skip_not rfl rfl rfl ?_ | refine ax_q (q_pick rfl rfl) ?_)
      refine ax_post_code ?_
      repeat (first | refine ax_cond_true rfl ?_ | refine ax_exit ?_ | refine ax_exit_here ?_ | refine ax_exit_code ?_)
      refine ax_post_code ?_
      refine ax_cutP [some ⟨184, mapC (F)⟩] [some ⟨71, .box [.int .i64 kd, .int .i64 pl, .int .i64 nf, .ro (.ints .i64 nx) 0 nx.length, .ro (.strs od) 0 od.length, .str py]⟩] [(0, .ro (treeC t) 0 t.length), (1, .int .i64 p), (5, .ro (waysC W) 0 t.length), (6, .mp 0), (15, .ro (treeC t) 0 t.length), (16, .int .i64 (t.length : Nat)), (17, .int .i64 (i : Nat))] rfl ⟨rfl, rfl, rfl, rfl, rfl, rfl, rfl, trivial⟩ (fun h hh => by rw [hfix] at hh; exact absurd hh id) (below1 (below_map _ _)) rfl ?_
      repeat (first | refine ax_q (q_move rfl) ?_ | refine ax_ops_nil ?_ | refine ax_region rfl ?_ | refine ax_q (q_add rfl rfl (by omega)) ?_)
      exact ax_post_inv ⟨i + 1, ⟨by omega, by rw [hP2, hps]⟩, by omega, ⟨rfl, rfl, rfl, rfl, rfl, rfl, rfl, trivial⟩, by rw [hF2, hfs]⟩
    have g1 := Classical.not_not.1 g1
    repeat (first | refine ax_q (q_move rfl) ?_ | refine ax_ops_nil ?_ | refine ax_post_code ?_ | refine ax_guard rfl rfl ?_ | refine ax_q (q_loadb_ptr rfl rfl rfl rfl rfl) ?_ | refine ax_q (q_neq rfl rfl) ?_ | refine ax_q (q_pick rfl rfl) ?_ | refine ax_q (q_field_ptr rfl rfl rfl rfl rfl rfl) ?_)
    refine ax_cond_dec rfl (fun g2 => ?_) (fun g2 => ?_)
    · rw [own_eq, decide_eq_true g1, decide_eq_false g2, Bool.true_and] at hfs hps
      rw [if_neg (by rintro ⟨q, _⟩; cases q)] at hfs
      rw [if_neg (by decide)] at hps
      repeat (first | refine ax_exit ?_ | refine ax_exit_here ?_ | refine ax_exit_code ?_)
      refine ax_post_code ?_
      refine ax_cutP [some ⟨184, mapC (F)⟩] [some ⟨71, .box [.int .i64 kd, .int .i64 pl, .int .i64 nf, .ro (.ints .i64 nx) 0 nx.length, .ro (.strs od) 0 od.length, .str py]⟩] [(0, .ro (treeC t) 0 t.length), (1, .int .i64 p), (5, .ro (waysC W) 0 t.length), (6, .mp 0), (15, .ro (treeC t) 0 t.length), (16, .int .i64 (t.length : Nat)), (17, .int .i64 (i : Nat))] rfl ⟨rfl, rfl, rfl, rfl, rfl, rfl, rfl, trivial⟩ (fun h hh => by rw [hfix] at hh; exact absurd hh id) (below1 (below_map _ _)) rfl ?_
      repeat (first | refine ax_q (q_move rfl) ?_ | refine ax_ops_nil ?_ | refine ax_region rfl ?_ | refine ax_q (q_add rfl rfl (by omega)) ?_)
      exact ax_post_inv ⟨i + 1, ⟨by omega, by rw [hP2, hps]⟩, by omega, ⟨rfl, rfl, rfl, rfl, rfl, rfl, rfl, trivial⟩, by rw [hF2, hfs]⟩
    have g2 := Classical.not_not.1 g2
    rw [own_eq, decide_eq_true g1, decide_eq_true g2, Bool.true_and] at hfs hps
    rw [if_pos rfl] at hps
    repeat (first | refine ax_q (q_move rfl) ?_ | refine ax_post_code ?_ | refine ax_seq ?_ | refine ax_region rfl ?_ | refine ax_skip ?_ | refine ax_q (q_loadb_ptr rfl rfl rfl rfl rfl) ?_ | refine ax_q (q_field_ptr rfl rfl rfl rfl rfl rfl) ?_)
    cases hL : lookA F nf with
    | none =>
      rw [hL, if_pos ⟨rfl, rfl⟩] at hfs
      rw [hL] at hps
      simp only at hps
      refine ax_q (q_lookup_miss rfl (.int rfl) rfl rfl rfl rfl rfl rfl rfl rfl (keysI F) (lookA_new hL)) ?_
      repeat (first | refine ax_q (q_move rfl) ?_ | refine ax_q (q_assign rfl) ?_ | refine ax_ops_nil ?_ | refine ax_post_code ?_ | refine ax_seq ?_ | refine ax_region rfl ?_ | refine ax_cond_true rfl ?_ | refine ax_q (q_loadb_ptr rfl rfl rfl rfl rfl) ?_ | refine ax_q (q_not rfl) ?_ | refine ax_q (q_extract rfl rfl) ?_ | refine ax_q (q_field_ptr rfl rfl rfl rfl rfl rfl) ?_)
      refine ax_mapset_miss rfl (.int rfl) rfl rfl rfl rfl rfl (keysI F) (lookA_new hL) ?_
      refine ax_heap_eq_ops [some ⟨184, mapC (F ++ [(nf, i)])⟩, some ⟨71, .box [.int .i64 kd, .int .i64 pl, .int .i64 nf, .ro (.ints .i64 nx) 0 nx.length, .ro (.strs od) 0 od.length, .str py]⟩] (by unfold mapC; rw [List.map_append, List.map_append]; rfl) ?_
      repeat (refine ax_ops_nil ?_)
      refine ax_post_code ?_
      refine ax_cutP [some ⟨184, mapC (F ++ [(nf, i)])⟩] [some ⟨71, .box [.int .i64 kd, .int .i64 pl, .int .i64 nf, .ro (.ints .i64 nx) 0 nx.length, .ro (.strs od) 0 od.length, .str py]⟩] [(0, .ro (treeC t) 0 t.length), (1, .int .i64 p), (5, .ro (waysC W) 0 t.length), (6, .mp 0), (15, .ro (treeC t) 0 t.length), (16, .int .i64 (t.length : Nat)), (17, .int .i64 (i : Nat))] rfl ⟨rfl, rfl, rfl, rfl, rfl, rfl, rfl, trivial⟩ (fun h hh => by rw [hfix] at hh; exact absurd hh id) (below1 (below_map _ _)) rfl ?_
      repeat (first | refine ax_q (q_move rfl) ?_ | refine ax_ops_nil ?_ | refine ax_post_code ?_ | refine ax_region rfl ?_ | refine ax_exit ?_ | refine ax_exit_here ?_ | refine ax_exit_code ?_ | refine ax_q (q_add rfl rfl (by omega)) ?_)
      exact ax_post_inv ⟨i + 1, ⟨by omega, by rw [hP2, hps]⟩, by omega, ⟨rfl, rfl, rfl, rfl, rfl, rfl, rfl, trivial⟩, by rw [hF2, hfs]⟩
    | some k0 =>
      rw [hL, if_neg (by rintro ⟨_, q⟩; cases q)] at hfs
      rw [hL] at hps
      simp only at hps
      obtain ⟨jj, i1, i2⟩ := lookA_idx hL
      have hk0 := hff _ (lookA_some hL)
      simp only at hk0
      have hk0' : k0 < t.length := by omega
      have hw0 : ∀ z, (W.getD z []).length ≤ 9223372036854775807 := fun z => getD_all (P := fun w : Hist => w.length ≤ 9223372036854775807) (fun w hw => Nat.le_trans (hWs w hw) (by decide)) (Nat.zero_le _) z
      have ceq := equalP (W.getD i []) (W.getD k0 []) (hw0 i) (hw0 k0)
      refine ax_q (q_lookup_hit rfl (.int rfl) rfl rfl rfl rfl (keysI F) jj i1 i2) ?_
      repeat (first | refine ax_q (q_move rfl) ?_ | refine ax_q (q_assign rfl) ?_ | refine ax_ops_nil ?_ | refine ax_post_code ?_ | refine ax_seq ?_ | refine ax_region rfl ?_ | refine ax_cond_false rfl ?_ | refine ax_skip ?_ | refine ax_q (q_not rfl) ?_ | refine ax_q (q_extract rfl rfl) ?_)
      refine ax_regiond (by kernel_rfl) ?_
      refine ax_any_run (fuel := 0) [0, 1, 2, 3, 4, 5, 6, 7, 8, 9] [(0, .ro (treeC t) 0 t.length), (1, .int .i64 p), (5, .ro (waysC W) 0 t.length), (6, .mp 0), (15, .ro (treeC t) 0 t.length), (16, .int .i64 (t.length : Nat)), (17, .int .i64 (i : Nat)), (7, .int .i64 (i : Nat)), (8, .ptr 1 0 0), (9, .int .i64 (k0 : Nat))] ⟨rfl, rfl, rfl, rfl, rfl, rfl, rfl, rfl, rfl, rfl, trivial⟩ (by kernel_rfl) (by decide) rfl rfl ?_
      refine px_q rfl rfl (q_move rfl) ?_
      refine px_q rfl rfl (q_move rfl) ?_
      refine px_q rfl rfl (q_index_ro' rfl rfl rfl rfl (by first | (simp only [Nat.zero_add, Int.toNat_natCast, Int.toNat_zero]; exact rfl) | exact rfl) (by omega)) ?_
      refine px_q rfl rfl (q_loadf_rp rfl rfl rfl rfl) ?_
      refine px_q rfl rfl (q_move rfl) ?_
      refine px_q rfl rfl (q_move rfl) ?_
      refine px_q rfl rfl (q_index_ro' rfl rfl rfl rfl (by first | (simp only [Nat.zero_add, Int.toNat_natCast, Int.toNat_zero]; exact rfl) | exact rfl) (by omega)) ?_
      refine px_q rfl rfl (q_loadf_rp rfl rfl rfl rfl) ?_
      refine px_v rfl rfl rfl rfl rfl ceq ?_
      refine px_q rfl rfl (q_not rfl) ?_
      refine px_done ?_
      refine ax_any_done (by kernel_rfl) ?_
      repeat (refine ax_post_code ?_)
      by_cases he : W.getD i [] = W.getD k0 []
      · rw [decide_eq_true he] at hps ⊢
        repeat (first | refine ax_cond_false rfl ?_ | refine ax_post_blk ?_ | refine ax_skip ?_)
        refine ax_post_code ?_
        refine ax_cutP [some ⟨184, mapC (F)⟩] [some ⟨71, .box [.int .i64 kd, .int .i64 pl, .int .i64 nf, .ro (.ints .i64 nx) 0 nx.length, .ro (.strs od) 0 od.length, .str py]⟩] [(0, .ro (treeC t) 0 t.length), (1, .int .i64 p), (5, .ro (waysC W) 0 t.length), (6, .mp 0), (15, .ro (treeC t) 0 t.length), (16, .int .i64 (t.length : Nat)), (17, .int .i64 (i : Nat))] rfl ⟨rfl, rfl, rfl, rfl, rfl, rfl, rfl, trivial⟩ (fun h hh => by rw [hfix] at hh; exact absurd hh id) (below1 (below_map _ _)) rfl ?_
        repeat (first | refine ax_q (q_move rfl) ?_ | refine ax_ops_nil ?_ | refine ax_region rfl ?_ | refine ax_q (q_add rfl rfl (by omega)) ?_)
        exact ax_post_inv ⟨i + 1, ⟨by omega, by rw [hP2, hps]⟩, by omega, ⟨rfl, rfl, rfl, rfl, rfl, rfl, rfl, trivial⟩, by rw [hF2, hfs]⟩
      · rw [decide_eq_false he] at hps ⊢
        rw [hno hps] at hR
        repeat (first | refine ax_q (q_assign rfl) ?_ | refine ax_ops_nil ?_ | refine ax_post_code ?_ | refine ax_seq ?_ | refine ax_region rfl ?_ | refine ax_cond_true rfl ?_ | refine ax_return ?_ | refine ax_ret_code ?_ | refine ax_ret_blk ?_ | refine ax_ret_inv ?_)
        exact ax_ret hR rfl rfl
  · have hie : i = t.length := by omega
    subst hie
    rw [hP] at hR
    repeat (first | refine ax_q (q_assign rfl) ?_ | refine ax_ops_nil ?_ | refine ax_post_code ?_ | refine ax_seq ?_ | refine ax_region rfl ?_ | refine ax_exit ?_ | refine ax_exit_here ?_ | refine ax_exit_code ?_ | refine ax_exit_inv ?_ | refine ax_return ?_)
    exact ax_ret hR rfl rfl
end Go.Proofs.YtgmleamhjnlknaaGreatDoor

namespace Go.Proofs.YtgmleamhjnlknaaGreatDoor
open Go.Ax Go.Ax.Bg Go.Ax.Rt Go.RowKit Go.Ax.Idx Go.Ax.Cd
attribute [local irreducible] Ax Post QOp ACall PureOp
set_option maxRecDepth 100000
set_option maxHeartbeats 4000000

def cellsS (s : RSeq) : List AV := [.int .i64 s.info, .int .i64 s.choice, .int .i64 s.before]
abbrev seqsC (l : List RSeq) : Cells := rowE seq0 3 cellsS l
theorem cellsS_noref (s : RSeq) (j h : Nat) (hj : j < 3) : ((cellsS s).getD j .any).forget h = (cellsS s).getD j .any := by
  match j, hj with
  | 0, _ => rfl
  | 1, _ => rfl
  | 2, _ => rfl
theorem cellsS_plain (s : RSeq) (j : Nat) : noRef ((cellsS s).getD j .any) = true := by
  match j with
  | 0 => rfl
  | 1 => rfl
  | 2 => rfl
  | _ + 3 => rfl
theorem refless_seqs (l : List RSeq) : refless (seqsC l) := by
  intro i j _ hj
  exact cellsS_plain _ j
theorem rowS3 (s : RSeq) (j : Nat) (hj : j < 3) : (rowOf 1 3 [.int .i64 s.info, .int .i64 s.choice, .int .i64 s.before]).at 0 j = (cellsS s).getD j .any := by
  match j, hj with
  | 0, _ => rfl
  | 1, _ => rfl
  | 2, _ => rfl
abbrev formB (n N : Nat) : Cells := .box [.sl 0 0 n, .sl 1 0 N]
abbrev formH (N : Nat) (f : RForm) (L : AHeap) : AHeap := some ⟨80, seqsC f.seqs⟩ :: some ⟨3, .ints .i64 f.pos⟩ :: some ⟨166, formB f.seqs.length N⟩ :: some ⟨184, mapC f.first⟩ :: L
theorem add_len (p : Int) (n : TNode) (i : Nat) (f : RForm) : f.seqs.length ≤ (addInfo p n i f).seqs.length := by
  unfold addInfo
  split
  · show _ ≤ (_ ++ _ : List RSeq).length
    rw [List.length_append]; omega
  · exact Nat.le_refl _
theorem seqs_mono (t : Tree) (p : Int) (i : Nat) : ∀ e, (formN t p i).seqs.length ≤ (formN t p (i + e)).seqs.length
  | 0 => Nat.le_refl _
  | e + 1 => by
    rw [← Nat.add_assoc, formN, stepF]
    exact Nat.le_trans (seqs_mono t p i e) (add_len _ _ _ _)
theorem form_few {t : Tree} (hv : Valid t) (p : Int) {i : Nat} (hi : i ≤ t.length) : (formN t p i).seqs.length ≤ 61 := by
  have h1 := seqs_mono t p i (t.length - i)
  rw [show i + (t.length - i) = t.length by omega] at h1
  exact Nat.le_trans h1 (seqs_few hv p)
theorem below_seqs (l : List RSeq) (n : Nat) : belowP n (seqsC l) := by
  intro i j _ hj
  have hj : j < 3 := hj
  match j, hj with
  | 0, _ => rfl
  | 1, _ => rfl
  | 2, _ => rfl
theorem below_form (N : Nat) (f : RForm) : ∀ (h : Nat) (o : AObj), (formH N f [])[h]? = some (some o) → belowP 4 o.c := by
  intro h o ho
  match h, ho with
  | 0, ho => cases ho; exact below_seqs _ _
  | 1, ho => cases ho; exact below_ints _ _ _
  | 2, ho =>
    cases ho
    intro i j _ hj
    have hj : j < 2 := hj
    match j, hj with
    | 0, _ => rfl
    | 1, _ => rfl
  | 3, ho => cases ho; exact below_map _ _
  | _ + 4, ho => simp at ho
theorem add_yes {p : Int} {n : TNode} {i : Nat} {f : RForm} (h1 : own p n = true) (h2 : lookA f.first n.info = none) : addInfo p n i f = ⟨f.seqs ++ newSeqs n (f.pos.getD i 0), f.pos, f.first ++ [(n.info, f.seqs.length)]⟩ := by unfold addInfo; rw [if_pos ⟨h1, h2⟩]
theorem add_old {p : Int} {n : TNode} {i : Nat} {f : RForm} {s : Nat} (h2 : lookA f.first n.info = some s) : addInfo p n i f = f := by unfold addInfo; rw [if_neg (by rintro ⟨_, q⟩; rw [h2] at q; cases q)]
theorem add_not {p : Int} {n : TNode} {i : Nat} {f : RForm} (h1 : own p n = false) : addInfo p n i f = f := by unfold addInfo; rw [if_neg (by rintro ⟨q, _⟩; rw [h1] at q; cases q)]
theorem forgets_map {α : Type} {h : Nat} {f : α → AV} (hf : ∀ x, (f x).forget h = f x) : ∀ l : List α, AV.forgets h (l.map f) = l.map f
  | [] => rfl
  | a :: r => by
    show (f a).forget h :: AV.forgets h (r.map f) = f a :: r.map f
    rw [hf a, forgets_map hf r]
theorem map_forget (F : List (Int × Nat)) (h : Nat) : CEq ((mapC F).forget h) (mapC F) := by
  have e : (mapC F).forget h = mapC F := by
    show Cells.mp (AV.forgets h _) (AV.forgets h _) = _
    rw [forgets_map (fun _ => rfl), forgets_map (fun _ => rfl)]
  rw [e]; exact CEq.refl _
def newK (n : TNode) (b : Int) (k : Nat) : List RSeq := (List.range k).map (fun k : Nat => ⟨n.info, (k : Int), b⟩)
theorem newK_succ (n : TNode) (b : Int) (k : Nat) : newK n b (k + 1) = newK n b k ++ [⟨n.info, (k : Int), b⟩] := by
  unfold newK; rw [List.range_succ, List.map_append]; rfl
theorem form_new (N : Nat) (f : RForm) (nf : Int) (n : TNode) (b : Int) (L : AHeap) : formH N ⟨f.seqs ++ newK n b 0, f.pos, f.first ++ [(nf, f.seqs.length)]⟩ L = some ⟨80, seqsC f.seqs⟩ :: some ⟨3, .ints .i64 f.pos⟩ :: some ⟨166, formB f.seqs.length N⟩ :: some ⟨184, .mp (f.first.map (fun x => .int .i64 x.1) ++ [.int .i64 nf]) (f.first.map (fun x => .int .i64 (x.2 : Nat)) ++ [.int .i64 (f.seqs.length : Nat)])⟩ :: L := by
  have e : f.seqs ++ newK n b 0 = f.seqs := List.append_nil _
  simp only [formH, e, mapC, List.map_append, List.map_cons, List.map_nil]
theorem newK_len (n : TNode) (b : Int) (k : Nat) : (newK n b k).length = k := by simp [newK]
theorem of_ok (t : Tree) (p : Int) (hT : ShortT t) (hv : Valid t) : ACall Tryz.prog 115 [.ro (treeC t) 0 t.length, .int .i64 p] [] (fun _ => False) (fun r H' => r = .ptr 2 0 0 ∧ H' = formH t.length (formN t p t.length) []) := by
  have hlen := hT.len
  have h120 := hv.le
  have hN0 := hv.ne
  refine acall_of_ax (P := Tryz.prog) (fn := Tryz.f115) rfl rfl (by kernel_rfl) rfl (fun c hR hfix => ?_)
  repeat (first | refine ax_q (q_assign rfl) ?_ | refine ax_ops_nil ?_ | refine ax_post_code ?_ | refine ax_seq ?_ | refine ax_region rfl ?_ | refine ax_q (q_build rfl rfl rfl rfl rfl rfl) ?_)
  refine ax_buildSlice rfl rfl rfl rfl rfl rfl rfl rfl rfl rfl ?_
  repeat (first | refine ax_q (q_move rfl) ?_ | refine ax_q (q_len rfl rfl rfl) ?_)
  refine ax_make rfl rfl rfl rfl rfl rfl rfl rfl (by show 0 ≤ _ ∧ _ ≤ _ ∧ (8 : Int) * _ ≤ _ ∧ _; omega) ?_
  repeat (first | refine ax_q (q_assign rfl) ?_ | refine ax_ops_nil ?_ | refine ax_post_code ?_ | refine ax_seq ?_ | refine ax_region rfl ?_ | refine ax_q (q_build rfl rfl rfl rfl rfl rfl) ?_ | refine ax_box rfl rfl ?_)
  refine ax_makemap ?_
  refine ax_heap_ops (formH t.length (formN t p 0) []) ?_ ?_
  · refine HSub.eqv ⟨rfl, rfl, fun i j hi hj => ?_⟩ (HSub.eqv (CEq.refl _) (HSub.eqv (CEq.refl _) (HSub.eqv (CEq.refl _) HSub.nil)))
    have hj : j < 3 := hj
    obtain rfl := Nat.lt_one_iff.1 (show i < 1 from hi)
    match j, hj with
    | 0, _ => rfl
    | 1, _ => rfl
    | 2, _ => rfl
  repeat (first | refine ax_q (q_move rfl) ?_ | refine ax_q (q_assign rfl) ?_ | refine ax_ops_nil ?_ | refine ax_post_code ?_ | refine ax_seq ?_ | refine ax_region rfl ?_ | refine ax_block ?_ | refine ax_q (q_len rfl rfl rfl) ?_)
  refine ax_loop (ι := Nat) (fun i => [(0, .ro (treeC t) 0 t.length), (1, .int .i64 p), (5, .ptr 2 0 0), (6, .mp 3), (23, .ro (treeC t) 0 t.length), (24, .int .i64 (t.length : Nat)), (25, .int .i64 (i : Nat))]) (fun i => formH t.length (formN t p i) [])
    (fun i => i ≤ t.length) (fun i => t.length - i) 0 ⟨⟨rfl, rfl, rfl, rfl, rfl, rfl, rfl, trivial⟩, rfl, Nat.zero_le _⟩ ?_
  intro i hi
  repeat (first | refine ax_ops_nil ?_ | refine ax_post_code ?_ | refine ax_seq ?_ | refine ax_region rfl ?_ | refine ax_q (q_lss rfl rfl) ?_)
  refine ax_cond_dec rfl (fun h => ?_) (fun h => ?_)
  · have hi' : i < t.length := by omega
    have hsn := hT.node _ (getD_mem node0 hi')
    have hbh := hv.behind hi'
    have hwf := hv.few hi'
    have hRI := RI.all_n hv p i hi
    obtain ⟨_, _, _, _, _, _, _, a8, _, a10⟩ := RI.add hv hRI hi' hRI hRI.s0.1
    have hfl := form_few hv p hi
    have hgf := form_few hv p (show i + 1 ≤ t.length by omega)
    have hfl2 := form_len t p i
    have hnx : formN t p (i + 1) = ⟨(addInfo p (t.getD i node0) i (formN t p i)).seqs, setG (nextV p (t.getD i node0) i (addInfo p (t.getD i node0) i (formN t p i))) (t.getD i node0).next 0 (addInfo p (t.getD i node0) i (formN t p i)).pos, (addInfo p (t.getD i node0) i (formN t p i)).first⟩ := by rw [formN, stepF, setNext_G]
    have hgl : (addInfo p (t.getD i node0) i (formN t p i)).pos.length = t.length := by rw [addInfo_pos]; exact hfl2
    rw [hnx] at hgf
    simp only at hgf
    obtain ⟨s1, s2, s3, s4⟩ := hsn
    repeat (first | refine ax_q (q_move rfl) ?_ | refine ax_q (q_assign rfl) ?_ | refine ax_post_code ?_ | refine ax_seq ?_ | refine ax_region rfl ?_ | refine ax_block ?_ | refine ax_skip ?_ | refine ax_q (q_index_ro' rfl rfl rfl rfl (by first | (simp only [Nat.zero_add, Int.toNat_natCast, Int.toNat_zero]; exact rfl) | exact rfl) (by omega)) ?_ | refine ax_q (q_loadagg_rp rfl rfl rfl rfl rfl rfl) ?_ | refine ax_alloc rfl rfl rfl ?_)
    refine ax_slot_ops 29 (.agg (cellsN (t.getD i node0))) rfl (AEq.of_eq rfl) ?_
    generalize t.getD i node0 = n at *
    generalize formN t p i = f at *
    obtain ⟨kd, pl, nf, nx, od, py⟩ := n
    simp only at *
    refine ax_storeagg (c' := .box [.int .i64 kd, .int .i64 pl, .int .i64 nf, .ro (.ints .i64 nx) 0 nx.length, .ro (.strs od) 0 od.length, .str py]) rfl rfl rfl rfl rfl Nat.zero_lt_one rfl rfl (fun i' j' hi' hj' => ?_) ?_
    · rw [if_pos (Nat.lt_one_iff.1 hi')]; rfl
    refine ax_heap_eq_ops (formH t.length f [some ⟨71, .box [.int .i64 kd, .int .i64 pl, .int .i64 nf, .ro (.ints .i64 nx) 0 nx.length, .ro (.strs od) 0 od.length, .str py]⟩]) rfl ?_
    refine ax_slot_ops 8 (.ptr 4 0 0) rfl (AEq.of_eq rfl) ?_
    have hown : own p ⟨kd, pl, nf, nx, od, py⟩ = (decide (kd = 2) && decide (pl = p)) := rfl
    generalize hv' : nextV p ⟨kd, pl, nf, nx, od, py⟩ i (addInfo p ⟨kd, pl, nf, nx, od, py⟩ i f) = v at *
    have hvv : ∀ k, v k = if own p ⟨kd, pl, nf, nx, od, py⟩ = true then (((lookA (addInfo p ⟨kd, pl, nf, nx, od, py⟩ i f).first nf).getD 0 : Nat) : Int) + (k : Int) else (addInfo p ⟨kd, pl, nf, nx, od, py⟩ i f).pos.getD i 0 := fun k => by rw [← hv']; rfl
    have hay := @add_yes p ⟨kd, pl, nf, nx, od, py⟩ i f
    have hao := @add_old p ⟨kd, pl, nf, nx, od, py⟩ i f
    have han := @add_not p ⟨kd, pl, nf, nx, od, py⟩ i f
    generalize hb : own p ⟨kd, pl, nf, nx, od, py⟩ = b at *
    apply ax_tail_code (H := formH t.length f [some ⟨71, .box [.int .i64 kd, .int .i64 pl, .int .i64 nf, .ro (.ints .i64 nx) 0 nx.length, .ro (.strs od) 0 od.length, .str py]⟩]) [(0, .ro (treeC t) 0 t.length), (1, .int .i64 p), (5, .ptr 2 0 0), (6, .mp 3), (7, .int .i64 (i : Nat)), (8, .ptr 4 0 0), (9, .bool b), (23, .ro (treeC t) 0 t.length), (24, .int .i64 (t.length : Nat)), (25, .int .i64 (i : Nat))]
    · intro fin
      repeat (first | refine ax_q (q_move rfl) ?_ | refine ax_ops_nil ?_ | refine ax_post_code ?_ | refine ax_seq ?_ | refine ax_region rfl ?_ | refine ax_q (q_loadb_ptr rfl rfl rfl rfl rfl) ?_ | refine ax_q (q_eql rfl rfl) ?_ | refine ax_q (q_field_ptr rfl rfl rfl rfl rfl rfl) ?_)
      refine ax_gsplit rfl rfl (fun g1 => ?_) (fun g1 => ?_)
      · repeat (first | refine ax_q (q_move rfl) ?_ | refine ax_q (q_assign rfl) ?_ | refine ax_ops_nil ?_ | refine ax_guard rfl rfl ?_ | refine ax_q (q_loadb_ptr rfl rfl rfl rfl rfl) ?_ | refine ax_q (q_eql rfl rfl) ?_ | refine ax_q (q_pick rfl rfl) ?_ | refine ax_q (q_field_ptr rfl rfl rfl rfl rfl rfl) ?_)
        refine ax_post_code ?_
        refine ax_slot 9 (.bool b) rfl (AEq.of_eq (by rw [hown, decide_eq_true g1, Bool.true_and])) ?_
        exact fin _ ⟨rfl, rfl, rfl, rfl, rfl, rfl, rfl, rfl, rfl, rfl, trivial⟩
      · repeat (first | refine ax_q (q_assign rfl) ?_ | refine ax_ops_nil ?_ | refine ax_skip_not rfl rfl rfl ?_ | refine ax_q (q_pick rfl rfl) ?_)
        refine ax_post_code ?_
        refine ax_slot 9 (.bool b) rfl (AEq.of_eq (by rw [hown, decide_eq_false g1, Bool.false_and])) ?_
        exact fin _ ⟨rfl, rfl, rfl, rfl, rfl, rfl, rfl, rfl, rfl, rfl, trivial⟩
    cases b
    · have hg := han rfl
      generalize addInfo p ⟨kd, pl, nf, nx, od, py⟩ i f = g at *
      subst hg
      simp only [Bool.false_eq_true, if_false] at hvv
      repeat (first | refine ax_q (q_move rfl) ?_ | refine ax_ops_nil ?_ | refine ax_post_code ?_ | refine ax_seq ?_ | refine ax_region rfl ?_ | refine ax_cond_false rfl ?_ | refine ax_block ?_ | refine ax_skip ?_ | refine ax_q (q_loadb_ptr rfl rfl rfl rfl rfl) ?_ | refine ax_q (q_len rfl rfl rfl) ?_ | refine ax_q (q_field_ptr rfl rfl rfl rfl rfl rfl) ?_)
      refine ax_loop (ι := Nat) (fun k => [(0, .ro (treeC t) 0 t.length), (1, .int .i64 p), (5, .ptr 2 0 0), (6, .mp 3), (7, .int .i64 (i : Nat)), (8, .ptr 4 0 0), (9, .bool false), (23, .ro (treeC t) 0 t.length), (24, .int .i64 (t.length : Nat)), (25, .int .i64 (i : Nat)), (85, .ro (.ints .i64 nx) 0 nx.length), (86, .int .i64 (nx.length : Nat)), (87, .int .i64 (k : Nat))]) (fun k => formH t.length ⟨g.seqs, setG v (nx.take k) 0 g.pos, g.first⟩ [some ⟨71, .box [.int .i64 kd, .int .i64 pl, .int .i64 nf, .ro (.ints .i64 nx) 0 nx.length, .ro (.strs od) 0 od.length, .str py]⟩])
        (fun k => k ≤ nx.length) (fun k => nx.length - k) 0 ⟨⟨rfl, rfl, rfl, rfl, rfl, rfl, rfl, rfl, rfl, rfl, rfl, rfl, rfl, trivial⟩, rfl, Nat.zero_le _⟩ ?_
      intro k hk
      repeat (first | refine ax_ops_nil ?_ | refine ax_post_code ?_ | refine ax_seq ?_ | refine ax_region rfl ?_ | refine ax_q (q_lss rfl rfl) ?_)
      refine ax_cond_dec rfl (fun h5 => ?_) (fun h5 => ?_)
      · have hk' : k < nx.length := by omega
        obtain ⟨b1, b2⟩ := hbh _ (get_in 0 hk')
        have hAl : (setG v (nx.take k) 0 g.pos).length = t.length := by rw [setG_len]; exact hgl
        have hAi : (setG v (nx.take k) 0 g.pos).getD i 0 = g.pos.getD i 0 := setG_other v 0 _ _ _ (fun c hc => by have := hbh c (List.mem_of_mem_take hc); omega)
        have hst : setG v (nx.take (k + 1)) 0 g.pos = (setG v (nx.take k) 0 g.pos).set (nx.getD k 0).toNat (v k) := by
          rw [take_snocI hk', setG_snoc, List.length_take, Nat.min_eq_left hk, Nat.zero_add]
        have hvk := hvv k
        generalize hA2 : setG v (nx.take (k + 1)) 0 g.pos = A2 at *
        generalize setG v (nx.take k) 0 g.pos = A at *
        obtain ⟨x, hx⟩ := Int.eq_ofNat_of_zero_le (show 0 ≤ nx.getD k 0 by omega)
        have hxn : (nx.getD k 0).toNat = x := by rw [hx, Int.toNat_natCast]
        rw [hx] at b1 b2
        rw [hxn] at hst
        have hxl : x < A.length := by omega
        have hil : i < A.length := by omega
        have hxl2 : x < (A.set x (A.getD i 0)).length := by rw [List.length_set]; exact hxl
        repeat (first | refine ax_q (q_move rfl) ?_ | refine ax_q (q_assign rfl) ?_ | refine ax_q (q_loadi_rp rfl rfl rfl) ?_ | refine ax_ops_nil ?_ | refine ax_post_code ?_ | refine ax_seq ?_ | refine ax_region rfl ?_ | refine ax_block ?_ | refine ax_skip ?_ | refine ax_q (q_index_ro' rfl rfl rfl rfl (by first | (simp only [Nat.zero_add, Int.toNat_natCast, Int.toNat_zero]; exact rfl) | exact rfl) (by omega)) ?_)
        refine ax_slot 14 (.int .i64 (x : Nat)) rfl (AEq.of_eq (by rw [hx])) ?_
        refine ax_regiond (by kernel_rfl) ?_
        refine ax_any_run (fuel := 1) [0, 1, 2, 3, 4, 5, 6, 7, 8, 9, 10, 11, 12] [(0, .ro (treeC t) 0 t.length), (1, .int .i64 p), (5, .ptr 2 0 0), (6, .mp 3), (7, .int .i64 (i : Nat)), (8, .ptr 4 0 0), (9, .bool false), (23, .ro (treeC t) 0 t.length), (24, .int .i64 (t.length : Nat)), (25, .int .i64 (i : Nat)), (85, .ro (.ints .i64 nx) 0 nx.length), (86, .int .i64 (nx.length : Nat)), (87, .int .i64 (k : Nat)), (13, .int .i64 (k : Nat)), (14, .int .i64 (x : Nat))] ⟨rfl, rfl, rfl, rfl, rfl, rfl, rfl, rfl, rfl, rfl, rfl, rfl, rfl, rfl, rfl, trivial⟩ (by kernel_rfl) (by decide) rfl rfl ?_
        refine px_q rfl rfl (q_move rfl) ?_
        refine px_q rfl rfl (q_nilcheck_ptr rfl) ?_
        refine px_q rfl rfl (q_field_ptr rfl rfl rfl rfl rfl rfl) ?_
        refine px_q rfl rfl (q_loadb_ptr rfl rfl rfl rfl rfl) ?_
        refine px_q rfl rfl (q_move rfl) ?_
        refine px_q rfl rfl (q_move rfl) ?_
        refine px_q rfl rfl (q_nilcheck_ptr rfl) ?_
        refine px_q rfl rfl (q_field_ptr rfl rfl rfl rfl rfl rfl) ?_
        refine px_q rfl rfl (q_loadb_ptr rfl rfl rfl rfl rfl) ?_
        refine px_q rfl rfl (q_move rfl) ?_
        refine px_q rfl rfl (q_index_sl' rfl rfl rfl rfl rfl (by first | (simp only [Nat.zero_add, Int.toNat_natCast, Int.toNat_zero]; exact rfl) | exact rfl) (by omega)) ?_
        refine px_q rfl rfl (q_loadi_ptr rfl rfl rfl rfl (by first | assumption | omega)) ?_
        refine px_q rfl rfl (q_index_sl' rfl rfl rfl rfl rfl (by first | (simp only [Nat.zero_add, Int.toNat_natCast, Int.toNat_zero]; exact rfl) | exact rfl) (by omega)) ?_
        refine px_done ?_
        refine ax_any_step (is := [13]) (by kernel_rfl) (by simp) rfl ⟨fun o ho => ?_, trivial⟩
        all_goals (cases ho)
        repeat (first | refine ax_ops_nil ?_ | refine ax_post_any ?_ | refine ax_store rfl rfl rfl rfl rfl rfl rfl (by first | assumption | (show _ < List.length _; first | assumption | omega)) ?_)
        refine ax_any_done (by kernel_rfl) ?_
        repeat (first | refine ax_q (q_move rfl) ?_ | refine ax_ops_nil ?_ | refine ax_post_code ?_ | refine ax_seq ?_ | refine ax_region rfl ?_ | refine ax_cond_false rfl ?_ | refine ax_post_blk ?_ | refine ax_skip ?_ | refine ax_q (q_add rfl rfl (by omega)) ?_)
        exact ax_post_inv ⟨k + 1, by omega, by omega, ⟨rfl, rfl, rfl, rfl, rfl, rfl, rfl, rfl, rfl, rfl, rfl, rfl, rfl, trivial⟩, by rw [hA2, hst, hvk, ← hAi]; rfl⟩
      · have hke : k = nx.length := by omega
        subst hke
        rw [List.take_length]
        repeat (first | refine ax_post_blk ?_ | refine ax_exit ?_ | refine ax_exit_here ?_ | refine ax_exit_code ?_ | refine ax_exit_inv ?_)
        refine ax_post_code ?_
        refine ax_cutP (formH t.length ⟨g.seqs, setG v nx 0 g.pos, g.first⟩ []) [some ⟨71, .box [.int .i64 kd, .int .i64 pl, .int .i64 nf, .ro (.ints .i64 nx) 0 nx.length, .ro (.strs od) 0 od.length, .str py]⟩] [(0, .ro (treeC t) 0 t.length), (1, .int .i64 p), (5, .ptr 2 0 0), (6, .mp 3), (23, .ro (treeC t) 0 t.length), (24, .int .i64 (t.length : Nat)), (25, .int .i64 (i : Nat))] rfl ⟨rfl, rfl, rfl, rfl, rfl, rfl, rfl, trivial⟩ (fun h hh => by rw [hfix] at hh; exact absurd hh id) (below_form _ _) rfl ?_
        repeat (first | refine ax_q (q_move rfl) ?_ | refine ax_ops_nil ?_ | refine ax_region rfl ?_ | refine ax_q (q_add rfl rfl (by omega)) ?_)
        exact ax_post_inv ⟨i + 1, by omega, by omega, ⟨rfl, rfl, rfl, rfl, rfl, rfl, rfl, trivial⟩, by rw [hnx]⟩
    · obtain ⟨s, hs⟩ := a10 rfl
      obtain ⟨jj, i1, i2⟩ := lookA_idx hs
      have hsl := (a8 _ (lookA_some hs)).2.1
      simp only at hsl
      simp only [if_true] at hvv
      rw [hs] at hvv
      simp only [Option.getD_some] at hvv
      repeat (first | refine ax_q (q_move rfl) ?_ | refine ax_ops_nil ?_ | refine ax_post_code ?_ | refine ax_seq ?_ | refine ax_region rfl ?_ | refine ax_cond_true rfl ?_ | refine ax_q (q_loadb_ptr rfl rfl rfl rfl rfl) ?_ | refine ax_q (q_field_ptr rfl rfl rfl rfl rfl rfl) ?_)
      cases hL : lookA f.first nf with
      | some s0 =>
        have hg := hao hL
        refine ax_q (q_lookup_hit rfl (.int rfl) rfl rfl rfl rfl (keysI f.first) (lookA_idx hL).choose (lookA_idx hL).choose_spec.1 (lookA_idx hL).choose_spec.2) ?_
        generalize addInfo p ⟨kd, pl, nf, nx, od, py⟩ i f = g at *
        subst hg
        obtain ⟨jj, i1, i2⟩ := lookA_idx hs
        repeat (first | refine ax_q (q_move rfl) ?_ | refine ax_q (q_assign rfl) ?_ | refine ax_ops_nil ?_ | refine ax_post_code ?_ | refine ax_seq ?_ | refine ax_region rfl ?_ | refine ax_cond_false rfl ?_ | refine ax_block ?_ | refine ax_skip ?_ | refine ax_q (q_loadb_ptr rfl rfl rfl rfl rfl) ?_ | refine ax_q (q_not rfl) ?_ | refine ax_q (q_extract rfl rfl) ?_ | refine ax_q (q_len rfl rfl rfl) ?_ | refine ax_q (q_field_ptr rfl rfl rfl rfl rfl rfl) ?_)
        refine ax_loop (ι := Nat) (fun k => [(0, .ro (treeC t) 0 t.length), (1, .int .i64 p), (5, .ptr 2 0 0), (6, .mp 3), (7, .int .i64 (i : Nat)), (8, .ptr 4 0 0), (9, .bool true), (23, .ro (treeC t) 0 t.length), (24, .int .i64 (t.length : Nat)), (25, .int .i64 (i : Nat)), (85, .ro (.ints .i64 nx) 0 nx.length), (86, .int .i64 (nx.length : Nat)), (87, .int .i64 (k : Nat))]) (fun k => formH t.length ⟨g.seqs, setG v (nx.take k) 0 g.pos, g.first⟩ [some ⟨71, .box [.int .i64 kd, .int .i64 pl, .int .i64 nf, .ro (.ints .i64 nx) 0 nx.length, .ro (.strs od) 0 od.length, .str py]⟩])
          (fun k => k ≤ nx.length) (fun k => nx.length - k) 0 ⟨⟨rfl, rfl, rfl, rfl, rfl, rfl, rfl, rfl, rfl, rfl, rfl, rfl, rfl, trivial⟩, rfl, Nat.zero_le _⟩ ?_
        intro k hk
        repeat (first | refine ax_ops_nil ?_ | refine ax_post_code ?_ | refine ax_seq ?_ | refine ax_region rfl ?_ | refine ax_q (q_lss rfl rfl) ?_)
        refine ax_cond_dec rfl (fun h5 => ?_) (fun h5 => ?_)
        · have hk' : k < nx.length := by omega
          obtain ⟨b1, b2⟩ := hbh _ (get_in 0 hk')
          have hAl : (setG v (nx.take k) 0 g.pos).length = t.length := by rw [setG_len]; exact hgl
          have hAi : (setG v (nx.take k) 0 g.pos).getD i 0 = g.pos.getD i 0 := setG_other v 0 _ _ _ (fun c hc => by have := hbh c (List.mem_of_mem_take hc); omega)
          have hst : setG v (nx.take (k + 1)) 0 g.pos = (setG v (nx.take k) 0 g.pos).set (nx.getD k 0).toNat (v k) := by
            rw [take_snocI hk', setG_snoc, List.length_take, Nat.min_eq_left hk, Nat.zero_add]
          have hvk := hvv k
          generalize hA2 : setG v (nx.take (k + 1)) 0 g.pos = A2 at *
          generalize setG v (nx.take k) 0 g.pos = A at *
          obtain ⟨x, hx⟩ := Int.eq_ofNat_of_zero_le (show 0 ≤ nx.getD k 0 by omega)
          have hxn : (nx.getD k 0).toNat = x := by rw [hx, Int.toNat_natCast]
          rw [hx] at b1 b2
          rw [hxn] at hst
          have hxl : x < A.length := by omega
          have hil : i < A.length := by omega
          have hxl2 : x < (A.set x (A.getD i 0)).length := by rw [List.length_set]; exact hxl
          repeat (first | refine ax_q (q_move rfl) ?_ | refine ax_q (q_assign rfl) ?_ | refine ax_q (q_loadi_rp rfl rfl rfl) ?_ | refine ax_ops_nil ?_ | refine ax_post_code ?_ | refine ax_seq ?_ | refine ax_region rfl ?_ | refine ax_block ?_ | refine ax_skip ?_ | refine ax_q (q_index_ro' rfl rfl rfl rfl (by first | (simp only [Nat.zero_add, Int.toNat_natCast, Int.toNat_zero]; exact rfl) | exact rfl) (by omega)) ?_)
          refine ax_slot 14 (.int .i64 (x : Nat)) rfl (AEq.of_eq (by rw [hx])) ?_
          refine ax_regiond (by kernel_rfl) ?_
          refine ax_any_run (fuel := 1) [0, 1, 2, 3, 4, 5, 6, 7, 8, 9, 10, 11, 12] [(0, .ro (treeC t) 0 t.length), (1, .int .i64 p), (5, .ptr 2 0 0), (6, .mp 3), (7, .int .i64 (i : Nat)), (8, .ptr 4 0 0), (9, .bool true), (23, .ro (treeC t) 0 t.length), (24, .int .i64 (t.length : Nat)), (25, .int .i64 (i : Nat)), (85, .ro (.ints .i64 nx) 0 nx.length), (86, .int .i64 (nx.length : Nat)), (87, .int .i64 (k : Nat)), (13, .int .i64 (k : Nat)), (14, .int .i64 (x : Nat))] ⟨rfl, rfl, rfl, rfl, rfl, rfl, rfl, rfl, rfl, rfl, rfl, rfl, rfl, rfl, rfl, trivial⟩ (by kernel_rfl) (by decide) rfl rfl ?_
          refine px_q rfl rfl (q_move rfl) ?_
          refine px_q rfl rfl (q_nilcheck_ptr rfl) ?_
          refine px_q rfl rfl (q_field_ptr rfl rfl rfl rfl rfl rfl) ?_
          refine px_q rfl rfl (q_loadb_ptr rfl rfl rfl rfl rfl) ?_
          refine px_q rfl rfl (q_move rfl) ?_
          refine px_q rfl rfl (q_move rfl) ?_
          refine px_q rfl rfl (q_nilcheck_ptr rfl) ?_
          refine px_q rfl rfl (q_field_ptr rfl rfl rfl rfl rfl rfl) ?_
          refine px_q rfl rfl (q_loadb_ptr rfl rfl rfl rfl rfl) ?_
          refine px_q rfl rfl (q_move rfl) ?_
          refine px_q rfl rfl (q_index_sl' rfl rfl rfl rfl rfl (by first | (simp only [Nat.zero_add, Int.toNat_natCast, Int.toNat_zero]; exact rfl) | exact rfl) (by omega)) ?_
          refine px_q rfl rfl (q_loadi_ptr rfl rfl rfl rfl (by first | assumption | omega)) ?_
          refine px_q rfl rfl (q_index_sl' rfl rfl rfl rfl rfl (by first | (simp only [Nat.zero_add, Int.toNat_natCast, Int.toNat_zero]; exact rfl) | exact rfl) (by omega)) ?_
          refine px_done ?_
          refine ax_any_step (is := [13]) (by kernel_rfl) (by simp) rfl ⟨fun o ho => ?_, trivial⟩
          all_goals (cases ho)
          repeat (first | refine ax_ops_nil ?_ | refine ax_post_any ?_ | refine ax_store rfl rfl rfl rfl rfl rfl rfl (by first | assumption | (show _ < List.length _; first | assumption | omega)) ?_)
          refine ax_heap_any (formH t.length ⟨g.seqs, A.set x (A.getD i 0), g.first⟩ [some ⟨71, .box [.int .i64 kd, .int .i64 pl, .int .i64 nf, .ro (.ints .i64 nx) 0 nx.length, .ro (.strs od) 0 od.length, .str py]⟩]) (HSub.refl _) ?_
          refine ax_any_done (by kernel_rfl) ?_
          repeat (first | refine ax_q (q_move rfl) ?_ | refine ax_ops_nil ?_ | refine ax_post_code ?_ | refine ax_seq ?_ | refine ax_region rfl ?_ | refine ax_cond_true rfl ?_)
          refine ax_regiond (by kernel_rfl) ?_
          refine ax_any_run (fuel := 1) [0, 1, 2, 3, 4, 5, 6, 7, 8, 9, 10, 11] [(0, .ro (treeC t) 0 t.length), (1, .int .i64 p), (5, .ptr 2 0 0), (6, .mp 3), (7, .int .i64 (i : Nat)), (8, .ptr 4 0 0), (9, .bool true), (23, .ro (treeC t) 0 t.length), (24, .int .i64 (t.length : Nat)), (25, .int .i64 (i : Nat)), (85, .ro (.ints .i64 nx) 0 nx.length), (86, .int .i64 (nx.length : Nat)), (87, .int .i64 (k : Nat)), (13, .int .i64 (k : Nat)), (14, .int .i64 (x : Nat))] ⟨rfl, rfl, rfl, rfl, rfl, rfl, rfl, rfl, rfl, rfl, rfl, rfl, rfl, rfl, rfl, trivial⟩ (by kernel_rfl) (by decide) rfl rfl ?_
          refine px_q rfl rfl (q_move rfl) ?_
          refine px_q rfl rfl (q_nilcheck_ptr rfl) ?_
          refine px_q rfl rfl (q_field_ptr rfl rfl rfl rfl rfl rfl) ?_
          refine px_q rfl rfl (q_loadb_ptr rfl rfl rfl rfl rfl) ?_
          refine px_q rfl rfl (q_move rfl) ?_
          refine px_q rfl rfl (q_move rfl) ?_
          refine px_q rfl rfl (q_field_ptr rfl rfl rfl rfl rfl rfl) ?_
          refine px_q rfl rfl (q_loadb_ptr rfl rfl rfl rfl rfl) ?_
          refine px_q rfl rfl (q_lookup_hit rfl (.int rfl) rfl rfl rfl rfl (keysI g.first) jj i1 i2) ?_
          refine px_q rfl rfl (q_move rfl) ?_
          refine px_q rfl rfl (q_add rfl rfl (by omega)) ?_
          refine px_q rfl rfl (q_index_sl' rfl rfl rfl rfl rfl (by first | (simp only [Nat.zero_add, Int.toNat_natCast, Int.toNat_zero]; exact rfl) | exact rfl) (by omega)) ?_
          refine px_done ?_
          refine ax_any_step (is := [12]) (by kernel_rfl) (by simp) rfl ⟨fun o ho => ?_, trivial⟩
          all_goals (cases ho)
          repeat (first | refine ax_ops_nil ?_ | refine ax_post_any ?_ | refine ax_store rfl rfl rfl rfl rfl rfl rfl (by first | assumption | (show _ < List.length _; first | assumption | omega)) ?_)
          refine ax_any_done (by kernel_rfl) ?_
          repeat (first | refine ax_q (q_move rfl) ?_ | refine ax_ops_nil ?_ | refine ax_post_code ?_ | refine ax_region rfl ?_ | refine ax_post_blk ?_ | refine ax_q (q_add rfl rfl (by omega)) ?_)
          exact ax_post_inv ⟨k + 1, by omega, by omega, ⟨rfl, rfl, rfl, rfl, rfl, rfl, rfl, rfl, rfl, rfl, rfl, rfl, rfl, trivial⟩, by rw [hA2, hst, hvk]; exact congrArg (fun l => formH t.length ⟨g.seqs, l, g.first⟩ [some ⟨71, .box [.int .i64 kd, .int .i64 pl, .int .i64 nf, .ro (.ints .i64 nx) 0 nx.length, .ro (.strs od) 0 od.length, .str py]⟩]) (List.set_set ..)⟩
        · have hke : k = nx.length := by omega
          subst hke
          rw [List.take_length]
          repeat (first | refine ax_post_blk ?_ | refine ax_exit ?_ | refine ax_exit_here ?_ | refine ax_exit_code ?_ | refine ax_exit_inv ?_)
          refine ax_post_code ?_
          refine ax_cutP (formH t.length ⟨g.seqs, setG v nx 0 g.pos, g.first⟩ []) [some ⟨71, .box [.int .i64 kd, .int .i64 pl, .int .i64 nf, .ro (.ints .i64 nx) 0 nx.length, .ro (.strs od) 0 od.length, .str py]⟩] [(0, .ro (treeC t) 0 t.length), (1, .int .i64 p), (5, .ptr 2 0 0), (6, .mp 3), (23, .ro (treeC t) 0 t.length), (24, .int .i64 (t.length : Nat)), (25, .int .i64 (i : Nat))] rfl ⟨rfl, rfl, rfl, rfl, rfl, rfl, rfl, trivial⟩ (fun h hh => by rw [hfix] at hh; exact absurd hh id) (below_form _ _) rfl ?_
          repeat (first | refine ax_q (q_move rfl) ?_ | refine ax_ops_nil ?_ | refine ax_region rfl ?_ | refine ax_q (q_add rfl rfl (by omega)) ?_)
          exact ax_post_inv ⟨i + 1, by omega, by omega, ⟨rfl, rfl, rfl, rfl, rfl, rfl, rfl, trivial⟩, by rw [hnx]⟩
      | none =>
        have hg := hay rfl hL
        refine ax_q (q_lookup_miss rfl (.int rfl) rfl rfl rfl rfl rfl rfl rfl rfl (keysI f.first) (lookA_new hL)) ?_
        generalize addInfo p ⟨kd, pl, nf, nx, od, py⟩ i f = g at *
        obtain ⟨jj, i1, i2⟩ := lookA_idx hs
        simp only at hg
        have hgs : g.seqs.length = f.seqs.length + nx.length := by rw [hg]; simp [newSeqs]
        have hil : i < f.pos.length := by omega
        repeat (first | refine ax_q (q_move rfl) ?_ | refine ax_q (q_assign rfl) ?_ | refine ax_ops_nil ?_ | refine ax_post_code ?_ | refine ax_seq ?_ | refine ax_region rfl ?_ | refine ax_cond_true rfl ?_ | refine ax_q (q_not rfl) ?_ | refine ax_q (q_extract rfl rfl) ?_)
        refine ax_regiond (by kernel_rfl) ?_
        refine ax_any_run (fuel := 1) [0, 1, 2, 3, 4, 5, 6, 7] [(0, .ro (treeC t) 0 t.length), (1, .int .i64 p), (5, .ptr 2 0 0), (6, .mp 3), (7, .int .i64 (i : Nat)), (8, .ptr 4 0 0), (9, .bool true), (23, .ro (treeC t) 0 t.length), (24, .int .i64 (t.length : Nat)), (25, .int .i64 (i : Nat))] ⟨rfl, rfl, rfl, rfl, rfl, rfl, rfl, rfl, rfl, rfl, trivial⟩ (by kernel_rfl) (by decide) rfl rfl ?_
        refine px_q rfl rfl (q_move rfl) ?_
        refine px_q rfl rfl (q_field_ptr rfl rfl rfl rfl rfl rfl) ?_
        refine px_q rfl rfl (q_loadb_ptr rfl rfl rfl rfl rfl) ?_
        refine px_q rfl rfl (q_move rfl) ?_
        refine px_q rfl rfl (q_nilcheck_ptr rfl) ?_
        refine px_q rfl rfl (q_field_ptr rfl rfl rfl rfl rfl rfl) ?_
        refine px_q rfl rfl (q_loadb_ptr rfl rfl rfl rfl rfl) ?_
        refine px_q rfl rfl (q_len rfl rfl rfl) ?_
        refine px_done ?_
        refine ax_any_step (is := [8]) (by kernel_rfl) (by simp) rfl ⟨fun o ho => ?_, trivial⟩
        all_goals (cases ho)
        refine ax_mapset_miss rfl (.int rfl) rfl rfl rfl rfl rfl (keysI f.first) (lookA_new hL) ?_
        repeat (first | refine ax_ops_nil ?_ | refine ax_post_any ?_)
        refine ax_any_done (by kernel_rfl) ?_
        repeat (first | refine ax_q (q_move rfl) ?_ | refine ax_ops_nil ?_ | refine ax_post_code ?_ | refine ax_seq ?_ | refine ax_region rfl ?_ | refine ax_block ?_ | refine ax_q (q_loadb_ptr rfl rfl rfl rfl rfl) ?_ | refine ax_q (q_len rfl rfl rfl) ?_ | refine ax_q (q_field_ptr rfl rfl rfl rfl rfl rfl) ?_)
        refine ax_loop (ι := Nat) (fun k => [(0, .ro (treeC t) 0 t.length), (1, .int .i64 p), (5, .ptr 2 0 0), (6, .mp 3), (7, .int .i64 (i : Nat)), (8, .ptr 4 0 0), (9, .bool true), (23, .ro (treeC t) 0 t.length), (24, .int .i64 (t.length : Nat)), (25, .int .i64 (i : Nat)), (58, .ro (.ints .i64 nx) 0 nx.length), (59, .int .i64 (nx.length : Nat)), (60, .int .i64 (k : Nat))]) (fun k => formH t.length ⟨f.seqs ++ newK ⟨kd, pl, nf, nx, od, py⟩ (f.pos.getD i 0) k, f.pos, f.first ++ [(nf, f.seqs.length)]⟩ [some ⟨71, .box [.int .i64 kd, .int .i64 pl, .int .i64 nf, .ro (.ints .i64 nx) 0 nx.length, .ro (.strs od) 0 od.length, .str py]⟩])
          (fun k => k ≤ nx.length) (fun k => nx.length - k) 0 ⟨⟨rfl, rfl, rfl, rfl, rfl, rfl, rfl, rfl, rfl, rfl, rfl, rfl, rfl, trivial⟩, (form_new t.length f nf ⟨kd, pl, nf, nx, od, py⟩ (f.pos.getD i 0) [some ⟨71, .box [.int .i64 kd, .int .i64 pl, .int .i64 nf, .ro (.ints .i64 nx) 0 nx.length, .ro (.strs od) 0 od.length, .str py]⟩]).symm, Nat.zero_le _⟩ ?_
        intro k hk
        repeat (first | refine ax_ops_nil ?_ | refine ax_post_code ?_ | refine ax_seq ?_ | refine ax_region rfl ?_ | refine ax_q (q_lss rfl rfl) ?_)
        refine ax_cond_dec rfl (fun h5 => ?_) (fun h5 => ?_)
        · have hk' : k < nx.length := by omega
          have hks := newK_succ ⟨kd, pl, nf, nx, od, py⟩ (f.pos.getD i 0) k
          have hSl : (f.seqs ++ newK ⟨kd, pl, nf, nx, od, py⟩ (f.pos.getD i 0) k).length ≤ 61 := by rw [List.length_append, newK_len]; omega
          have hS2 : f.seqs ++ newK ⟨kd, pl, nf, nx, od, py⟩ (f.pos.getD i 0) (k + 1) = (f.seqs ++ newK ⟨kd, pl, nf, nx, od, py⟩ (f.pos.getD i 0) k) ++ [(⟨nf, (k : Int), f.pos.getD i 0⟩ : RSeq)] := by rw [hks, List.append_assoc]
          generalize hS2' : f.seqs ++ newK ⟨kd, pl, nf, nx, od, py⟩ (f.pos.getD i 0) (k + 1) = S2 at *
          generalize f.seqs ++ newK ⟨kd, pl, nf, nx, od, py⟩ (f.pos.getD i 0) k = S at *
          repeat (first | refine ax_q (q_move rfl) ?_ | refine ax_q (q_assign rfl) ?_ | refine ax_ops_nil ?_ | refine ax_post_code ?_ | refine ax_seq ?_ | refine ax_region rfl ?_ | refine ax_block ?_ | refine ax_skip ?_)
          refine ax_regiond (by kernel_rfl) ?_
          apply ax_tail_any (H := formH t.length ⟨S, f.pos, f.first ++ [(nf, f.seqs.length)]⟩ [some ⟨71, .box [.int .i64 kd, .int .i64 pl, .int .i64 nf, .ro (.ints .i64 nx) 0 nx.length, .ro (.strs od) 0 od.length, .str py]⟩]) [(0, .ro (treeC t) 0 t.length), (1, .int .i64 p), (5, .ptr 2 0 0), (6, .mp 3), (7, .int .i64 (i : Nat)), (8, .ptr 4 0 0), (9, .bool true), (23, .ro (treeC t) 0 t.length), (24, .int .i64 (t.length : Nat)), (25, .int .i64 (i : Nat)), (58, .ro (.ints .i64 nx) 0 nx.length), (59, .int .i64 (nx.length : Nat)), (60, .int .i64 (k : Nat)), (12, .int .i64 (k : Nat)), (63, .ptr 2 0 0), (67, .sl 0 0 S.length), (79, .ro (rowOf 1 3 [.int .i64 nf, .int .i64 (k : Nat), .int .i64 (f.pos.getD i 0)]) 0 1)]
          · intro fin2
            refine ax_any_q 0 rfl (by kernel_rfl) (by kernel_rfl) (by kernel_rfl) rfl (q_move rfl) rfl ?_
            refine ax_any_q 1 rfl (by kernel_rfl) (by kernel_rfl) (by kernel_rfl) rfl (q_move rfl) rfl ?_
            refine ax_any_q 5 rfl (by kernel_rfl) (by kernel_rfl) (by kernel_rfl) rfl (q_field_ptr rfl rfl rfl rfl rfl rfl) rfl ?_
            refine ax_any_q 7 rfl (by kernel_rfl) (by kernel_rfl) (by kernel_rfl) rfl (q_move rfl) rfl ?_
            refine ax_any_q 8 rfl (by kernel_rfl) (by kernel_rfl) (by kernel_rfl) rfl (q_move rfl) rfl ?_
            refine ax_any_q 12 rfl (by kernel_rfl) (by kernel_rfl) (by kernel_rfl) rfl (q_move rfl) rfl ?_
            refine ax_any_q 2 rfl (by kernel_rfl) (by kernel_rfl) (by kernel_rfl) rfl (q_nilcheck_ptr rfl) rfl ?_
            refine ax_any_q 9 rfl (by kernel_rfl) (by kernel_rfl) (by kernel_rfl) rfl (q_nilcheck_ptr rfl) rfl ?_
            refine ax_any_q 3 rfl (by kernel_rfl) (by kernel_rfl) (by kernel_rfl) rfl (q_field_ptr rfl rfl rfl rfl rfl rfl) rfl ?_
            refine ax_any_q 10 rfl (by kernel_rfl) (by kernel_rfl) (by kernel_rfl) rfl (q_field_ptr rfl rfl rfl rfl rfl rfl) rfl ?_
            refine ax_any_step (is := [4, 6, 11]) (by kernel_rfl) (by simp) rfl ⟨fun o ho => ?_, fun o ho => ?_, fun o ho => ?_, trivial⟩
            all_goals (cases ho)
            · repeat (first | refine ax_ops_nil ?_ | refine ax_post_any ?_ | refine ax_q (q_loadb_ptr rfl rfl rfl rfl rfl) ?_)
              refine ax_any_step (is := [6, 11]) (by kernel_rfl) (by simp) rfl ⟨fun o ho => ?_, fun o ho => ?_, trivial⟩
              all_goals (cases ho)
              · repeat (first | refine ax_ops_nil ?_ | refine ax_post_any ?_ | refine ax_q (q_loadb_ptr rfl rfl rfl rfl rfl) ?_)
                refine ax_any_step (is := [11]) (by kernel_rfl) (by simp) rfl ⟨fun o ho => ?_, trivial⟩
                all_goals (cases ho)
                repeat (first | refine ax_ops_nil ?_ | refine ax_post_any ?_ | refine ax_q (q_loadb_ptr rfl rfl rfl rfl rfl) ?_)
                refine ax_any_q 13 rfl (by kernel_rfl) (by kernel_rfl) (by kernel_rfl) rfl (q_index_sl' rfl rfl rfl rfl rfl (by first | (simp only [Nat.zero_add, Int.toNat_natCast, Int.toNat_zero]; exact rfl) | exact rfl) (by omega)) rfl ?_
                refine ax_any_step (is := [14]) (by kernel_rfl) (by simp) rfl ⟨fun o ho => ?_, trivial⟩
                all_goals (cases ho)
                repeat (first | refine ax_ops_nil ?_ | refine ax_post_any ?_ | refine ax_q (q_loadi_ptr rfl rfl rfl rfl (by first | assumption | omega)) ?_)
                refine ax_any_q 15 rfl (by kernel_rfl) (by kernel_rfl) (by kernel_rfl) rfl (q_build rfl rfl rfl rfl rfl rfl) rfl ?_
                refine ax_any_step (is := [16]) (by kernel_rfl) (by simp) rfl ⟨fun o ho => ?_, trivial⟩
                all_goals (cases ho)
                repeat (first | refine ax_ops_nil ?_ | refine ax_post_any ?_ | refine ax_buildSliceRo rfl rfl rfl rfl rfl rfl rfl rfl rfl rfl rfl ?_)
                exact fin2 _ ⟨rfl, rfl, rfl, rfl, rfl, rfl, rfl, rfl, rfl, rfl, rfl, rfl, rfl, rfl, rfl, rfl, rfl, trivial⟩
              · repeat (first | refine ax_ops_nil ?_ | refine ax_post_any ?_ | refine ax_q (q_loadb_ptr rfl rfl rfl rfl rfl) ?_)
                refine ax_any_q 13 rfl (by kernel_rfl) (by kernel_rfl) (by kernel_rfl) rfl (q_index_sl' rfl rfl rfl rfl rfl (by first | (simp only [Nat.zero_add, Int.toNat_natCast, Int.toNat_zero]; exact rfl) | exact rfl) (by omega)) rfl ?_
                refine ax_any_step (is := [6, 14]) (by kernel_rfl) (by simp) rfl ⟨fun o ho => ?_, fun o ho => ?_, trivial⟩
                all_goals (cases ho)
                · repeat (first | refine ax_ops_nil ?_ | refine ax_post_any ?_ | refine ax_q (q_loadb_ptr rfl rfl rfl rfl rfl) ?_)
                  refine ax_any_step (is := [14]) (by kernel_rfl) (by simp) rfl ⟨fun o ho => ?_, trivial⟩
                  all_goals (cases ho)
                  repeat (first | refine ax_ops_nil ?_ | refine ax_post_any ?_ | refine ax_q (q_loadi_ptr rfl rfl rfl rfl (by first | assumption | omega)) ?_)
                  refine ax_any_q 15 rfl (by kernel_rfl) (by kernel_rfl) (by kernel_rfl) rfl (q_build rfl rfl rfl rfl rfl rfl) rfl ?_
                  refine ax_any_step (is := [16]) (by kernel_rfl) (by simp) rfl ⟨fun o ho => ?_, trivial⟩
                  all_goals (cases ho)
                  repeat (first | refine ax_ops_nil ?_ | refine ax_post_any ?_ | refine ax_buildSliceRo rfl rfl rfl rfl rfl rfl rfl rfl rfl rfl rfl ?_)
                  exact fin2 _ ⟨rfl, rfl, rfl, rfl, rfl, rfl, rfl, rfl, rfl, rfl, rfl, rfl, rfl, rfl, rfl, rfl, rfl, trivial⟩
                · repeat (first | refine ax_ops_nil ?_ | refine ax_post_any ?_ | refine ax_q (q_loadi_ptr rfl rfl rfl rfl (by first | assumption | omega)) ?_)
                  refine ax_any_step (is := [6]) (by kernel_rfl) (by simp) rfl ⟨fun o ho => ?_, trivial⟩
                  all_goals (cases ho)
                  repeat (first | refine ax_ops_nil ?_ | refine ax_post_any ?_ | refine ax_q (q_loadb_ptr rfl rfl rfl rfl rfl) ?_)
                  refine ax_any_q 15 rfl (by kernel_rfl) (by kernel_rfl) (by kernel_rfl) rfl (q_build rfl rfl rfl rfl rfl rfl) rfl ?_
                  refine ax_any_step (is := [16]) (by kernel_rfl) (by simp) rfl ⟨fun o ho => ?_, trivial⟩
                  all_goals (cases ho)
                  repeat (first | refine ax_ops_nil ?_ | refine ax_post_any ?_ | refine ax_buildSliceRo rfl rfl rfl rfl rfl rfl rfl rfl rfl rfl rfl ?_)
                  exact fin2 _ ⟨rfl, rfl, rfl, rfl, rfl, rfl, rfl, rfl, rfl, rfl, rfl, rfl, rfl, rfl, rfl, rfl, rfl, trivial⟩
            · repeat (first | refine ax_ops_nil ?_ | refine ax_post_any ?_ | refine ax_q (q_loadb_ptr rfl rfl rfl rfl rfl) ?_)
              refine ax_any_step (is := [4, 11]) (by kernel_rfl) (by simp) rfl ⟨fun o ho => ?_, fun o ho => ?_, trivial⟩
              all_goals (cases ho)
              · repeat (first | refine ax_ops_nil ?_ | refine ax_post_any ?_ | refine ax_q (q_loadb_ptr rfl rfl rfl rfl rfl) ?_)
                refine ax_any_step (is := [11]) (by kernel_rfl) (by simp) rfl ⟨fun o ho => ?_, trivial⟩
                all_goals (cases ho)
                repeat (first | refine ax_ops_nil ?_ | refine ax_post_any ?_ | refine ax_q (q_loadb_ptr rfl rfl rfl rfl rfl) ?_)
                refine ax_any_q 13 rfl (by kernel_rfl) (by kernel_rfl) (by kernel_rfl) rfl (q_index_sl' rfl rfl rfl rfl rfl (by first | (simp only [Nat.zero_add, Int.toNat_natCast, Int.toNat_zero]; exact rfl) | exact rfl) (by omega)) rfl ?_
                refine ax_any_step (is := [14]) (by kernel_rfl) (by simp) rfl ⟨fun o ho => ?_, trivial⟩
                all_goals (cases ho)
                repeat (first | refine ax_ops_nil ?_ | refine ax_post_any ?_ | refine ax_q (q_loadi_ptr rfl rfl rfl rfl (by first | assumption | omega)) ?_)
                refine ax_any_q 15 rfl (by kernel_rfl) (by kernel_rfl) (by kernel_rfl) rfl (q_build rfl rfl rfl rfl rfl rfl) rfl ?_
                refine ax_any_step (is := [16]) (by kernel_rfl) (by simp) rfl ⟨fun o ho => ?_, trivial⟩
                all_goals (cases ho)
                repeat (first | refine ax_ops_nil ?_ | refine ax_post_any ?_ | refine ax_buildSliceRo rfl rfl rfl rfl rfl rfl rfl rfl rfl rfl rfl ?_)
                exact fin2 _ ⟨rfl, rfl, rfl, rfl, rfl, rfl, rfl, rfl, rfl, rfl, rfl, rfl, rfl, rfl, rfl, rfl, rfl, trivial⟩
              · repeat (first | refine ax_ops_nil ?_ | refine ax_post_any ?_ | refine ax_q (q_loadb_ptr rfl rfl rfl rfl rfl) ?_)
                refine ax_any_q 13 rfl (by kernel_rfl) (by kernel_rfl) (by kernel_rfl) rfl (q_index_sl' rfl rfl rfl rfl rfl (by first | (simp only [Nat.zero_add, Int.toNat_natCast, Int.toNat_zero]; exact rfl) | exact rfl) (by omega)) rfl ?_
                refine ax_any_step (is := [4, 14]) (by kernel_rfl) (by simp) rfl ⟨fun o ho => ?_, fun o ho => ?_, trivial⟩
                all_goals (cases ho)
                · repeat (first | refine ax_ops_nil ?_ | refine ax_post_any ?_ | refine ax_q (q_loadb_ptr rfl rfl rfl rfl rfl) ?_)
                  refine ax_any_step (is := [14]) (by kernel_rfl) (by simp) rfl ⟨fun o ho => ?_, trivial⟩
                  all_goals (cases ho)
                  repeat (first | refine ax_ops_nil ?_ | refine ax_post_any ?_ | refine ax_q (q_loadi_ptr rfl rfl rfl rfl (by first | assumption | omega)) ?_)
                  refine ax_any_q 15 rfl (by kernel_rfl) (by kernel_rfl) (by kernel_rfl) rfl (q_build rfl rfl rfl rfl rfl rfl) rfl ?_
                  refine ax_any_step (is := [16]) (by kernel_rfl) (by simp) rfl ⟨fun o ho => ?_, trivial⟩
                  all_goals (cases ho)
                  repeat (first | refine ax_ops_nil ?_ | refine ax_post_any ?_ | refine ax_buildSliceRo rfl rfl rfl rfl rfl rfl rfl rfl rfl rfl rfl ?_)
                  exact fin2 _ ⟨rfl, rfl, rfl, rfl, rfl, rfl, rfl, rfl, rfl, rfl, rfl, rfl, rfl, rfl, rfl, rfl, rfl, trivial⟩
                · repeat (first | refine ax_ops_nil ?_ | refine ax_post_any ?_ | refine ax_q (q_loadi_ptr rfl rfl rfl rfl (by first | assumption | omega)) ?_)
                  refine ax_any_q 15 rfl (by kernel_rfl) (by kernel_rfl) (by kernel_rfl) rfl (q_build rfl rfl rfl rfl rfl rfl) rfl ?_
                  refine ax_any_step (is := [4, 16]) (by kernel_rfl) (by simp) rfl ⟨fun o ho => ?_, fun o ho => ?_, trivial⟩
                  all_goals (cases ho)
                  · repeat (first | refine ax_ops_nil ?_ | refine ax_post_any ?_ | refine ax_q (q_loadb_ptr rfl rfl rfl rfl rfl) ?_)
                    refine ax_any_step (is := [16]) (by kernel_rfl) (by simp) rfl ⟨fun o ho => ?_, trivial⟩
                    all_goals (cases ho)
                    repeat (first | refine ax_ops_nil ?_ | refine ax_post_any ?_ | refine ax_buildSliceRo rfl rfl rfl rfl rfl rfl rfl rfl rfl rfl rfl ?_)
                    exact fin2 _ ⟨rfl, rfl, rfl, rfl, rfl, rfl, rfl, rfl, rfl, rfl, rfl, rfl, rfl, rfl, rfl, rfl, rfl, trivial⟩
                  · repeat (first | refine ax_ops_nil ?_ | refine ax_post_any ?_ | refine ax_buildSliceRo rfl rfl rfl rfl rfl rfl rfl rfl rfl rfl rfl ?_)
                    refine ax_any_step (is := [4]) (by kernel_rfl) (by simp) rfl ⟨fun o ho => ?_, trivial⟩
                    all_goals (cases ho)
                    repeat (first | refine ax_ops_nil ?_ | refine ax_post_any ?_ | refine ax_q (q_loadb_ptr rfl rfl rfl rfl rfl) ?_)
                    exact fin2 _ ⟨rfl, rfl, rfl, rfl, rfl, rfl, rfl, rfl, rfl, rfl, rfl, rfl, rfl, rfl, rfl, rfl, rfl, trivial⟩
            · repeat (first | refine ax_ops_nil ?_ | refine ax_post_any ?_ | refine ax_q (q_loadb_ptr rfl rfl rfl rfl rfl) ?_)
              refine ax_any_q 13 rfl (by kernel_rfl) (by kernel_rfl) (by kernel_rfl) rfl (q_index_sl' rfl rfl rfl rfl rfl (by first | (simp only [Nat.zero_add, Int.toNat_natCast, Int.toNat_zero]; exact rfl) | exact rfl) (by omega)) rfl ?_
              refine ax_any_step (is := [4, 6, 14]) (by kernel_rfl) (by simp) rfl ⟨fun o ho => ?_, fun o ho => ?_, fun o ho => ?_, trivial⟩
              all_goals (cases ho)
              · repeat (first | refine ax_ops_nil ?_ | refine ax_post_any ?_ | refine ax_q (q_loadb_ptr rfl rfl rfl rfl rfl) ?_)
                refine ax_any_step (is := [6, 14]) (by kernel_rfl) (by simp) rfl ⟨fun o ho => ?_, fun o ho => ?_, trivial⟩
                all_goals (cases ho)
                · repeat (first | refine ax_ops_nil ?_ | refine ax_post_any ?_ | refine ax_q (q_loadb_ptr rfl rfl rfl rfl rfl) ?_)
                  refine ax_any_step (is := [14]) (by kernel_rfl) (by simp) rfl ⟨fun o ho => ?_, trivial⟩
                  all_goals (cases ho)
                  repeat (first | refine ax_ops_nil ?_ | refine ax_post_any ?_ | refine ax_q (q_loadi_ptr rfl rfl rfl rfl (by first | assumption | omega)) ?_)
                  refine ax_any_q 15 rfl (by kernel_rfl) (by kernel_rfl) (by kernel_rfl) rfl (q_build rfl rfl rfl rfl rfl rfl) rfl ?_
                  refine ax_any_step (is := [16]) (by kernel_rfl) (by simp) rfl ⟨fun o ho => ?_, trivial⟩
                  all_goals (cases ho)
                  repeat (first | refine ax_ops_nil ?_ | refine ax_post_any ?_ | refine ax_buildSliceRo rfl rfl rfl rfl rfl rfl rfl rfl rfl rfl rfl ?_)
                  exact fin2 _ ⟨rfl, rfl, rfl, rfl, rfl, rfl, rfl, rfl, rfl, rfl, rfl, rfl, rfl, rfl, rfl, rfl, rfl, trivial⟩
                · repeat (first | refine ax_ops_nil ?_ | refine ax_post_any ?_ | refine ax_q (q_loadi_ptr rfl rfl rfl rfl (by first | assumption | omega)) ?_)
                  refine ax_any_step (is := [6]) (by kernel_rfl) (by simp) rfl ⟨fun o ho => ?_, trivial⟩
                  all_goals (cases ho)
                  repeat (first | refine ax_ops_nil ?_ | refine ax_post_any ?_ | refine ax_q (q_loadb_ptr rfl rfl rfl rfl rfl) ?_)
                  refine ax_any_q 15 rfl (by kernel_rfl) (by kernel_rfl) (by kernel_rfl) rfl (q_build rfl rfl rfl rfl rfl rfl) rfl ?_
                  refine ax_any_step (is := [16]) (by kernel_rfl) (by simp) rfl ⟨fun o ho => ?_, trivial⟩
                  all_goals (cases ho)
                  repeat (first | refine ax_ops_nil ?_ | refine ax_post_any ?_ | refine ax_buildSliceRo rfl rfl rfl rfl rfl rfl rfl rfl rfl rfl rfl ?_)
                  exact fin2 _ ⟨rfl, rfl, rfl, rfl, rfl, rfl, rfl, rfl, rfl, rfl, rfl, rfl, rfl, rfl, rfl, rfl, rfl, trivial⟩
              · repeat (first | refine ax_ops_nil ?_ | refine ax_post_any ?_ | refine ax_q (q_loadb_ptr rfl rfl rfl rfl rfl) ?_)
                refine ax_any_step (is := [4, 14]) (by kernel_rfl) (by simp) rfl ⟨fun o ho => ?_, fun o ho => ?_, trivial⟩
                all_goals (cases ho)
                · repeat (first | refine ax_ops_nil ?_ | refine ax_post_any ?_ | refine ax_q (q_loadb_ptr rfl rfl rfl rfl rfl) ?_)
                  refine ax_any_step (is := [14]) (by kernel_rfl) (by simp) rfl ⟨fun o ho => ?_, trivial⟩
                  all_goals (cases ho)
                  repeat (first | refine ax_ops_nil ?_ | refine ax_post_any ?_ | refine ax_q (q_loadi_ptr rfl rfl rfl rfl (by first | assumption | omega)) ?_)
                  refine ax_any_q 15 rfl (by kernel_rfl) (by kernel_rfl) (by kernel_rfl) rfl (q_build rfl rfl rfl rfl rfl rfl) rfl ?_
                  refine ax_any_step (is := [16]) (by kernel_rfl) (by simp) rfl ⟨fun o ho => ?_, trivial⟩
                  all_goals (cases ho)
                  repeat (first | refine ax_ops_nil ?_ | refine ax_post_any ?_ | refine ax_buildSliceRo rfl rfl rfl rfl rfl rfl rfl rfl rfl rfl rfl ?_)
                  exact fin2 _ ⟨rfl, rfl, rfl, rfl, rfl, rfl, rfl, rfl, rfl, rfl, rfl, rfl, rfl, rfl, rfl, rfl, rfl, trivial⟩
                · repeat (first | refine ax_ops_nil ?_ | refine ax_post_any ?_ | refine ax_q (q_loadi_ptr rfl rfl rfl rfl (by first | assumption | omega)) ?_)
                  refine ax_any_q 15 rfl (by kernel_rfl) (by kernel_rfl) (by kernel_rfl) rfl (q_build rfl rfl rfl rfl rfl rfl) rfl ?_
                  refine ax_any_step (is := [4, 16]) (by kernel_rfl) (by simp) rfl ⟨fun o ho => ?_, fun o ho => ?_, trivial⟩
                  all_goals (cases ho)
                  · repeat (first | refine ax_ops_nil ?_ | refine ax_post_any ?_ | refine ax_q (q_loadb_ptr rfl rfl rfl rfl rfl) ?_)
                    refine ax_any_step (is := [16]) (by kernel_rfl) (by simp) rfl ⟨fun o ho => ?_, trivial⟩
                    all_goals (cases ho)
                    repeat (first | refine ax_ops_nil ?_ | refine ax_post_any ?_ | refine ax_buildSliceRo rfl rfl rfl rfl rfl rfl rfl rfl rfl rfl rfl ?_)
                    exact fin2 _ ⟨rfl, rfl, rfl, rfl, rfl, rfl, rfl, rfl, rfl, rfl, rfl, rfl, rfl, rfl, rfl, rfl, rfl, trivial⟩
                  · repeat (first | refine ax_ops_nil ?_ | refine ax_post_any ?_ | refine ax_buildSliceRo rfl rfl rfl rfl rfl rfl rfl rfl rfl rfl rfl ?_)
                    refine ax_any_step (is := [4]) (by kernel_rfl) (by simp) rfl ⟨fun o ho => ?_, trivial⟩
                    all_goals (cases ho)
                    repeat (first | refine ax_ops_nil ?_ | refine ax_post_any ?_ | refine ax_q (q_loadb_ptr rfl rfl rfl rfl rfl) ?_)
                    exact fin2 _ ⟨rfl, rfl, rfl, rfl, rfl, rfl, rfl, rfl, rfl, rfl, rfl, rfl, rfl, rfl, rfl, rfl, rfl, trivial⟩
              · repeat (first | refine ax_ops_nil ?_ | refine ax_post_any ?_ | refine ax_q (q_loadi_ptr rfl rfl rfl rfl (by first | assumption | omega)) ?_)
                refine ax_any_step (is := [4, 6]) (by kernel_rfl) (by simp) rfl ⟨fun o ho => ?_, fun o ho => ?_, trivial⟩
                all_goals (cases ho)
                · repeat (first | refine ax_ops_nil ?_ | refine ax_post_any ?_ | refine ax_q (q_loadb_ptr rfl rfl rfl rfl rfl) ?_)
                  refine ax_any_step (is := [6]) (by kernel_rfl) (by simp) rfl ⟨fun o ho => ?_, trivial⟩
                  all_goals (cases ho)
                  repeat (first | refine ax_ops_nil ?_ | refine ax_post_any ?_ | refine ax_q (q_loadb_ptr rfl rfl rfl rfl rfl) ?_)
                  refine ax_any_q 15 rfl (by kernel_rfl) (by kernel_rfl) (by kernel_rfl) rfl (q_build rfl rfl rfl rfl rfl rfl) rfl ?_
                  refine ax_any_step (is := [16]) (by kernel_rfl) (by simp) rfl ⟨fun o ho => ?_, trivial⟩
                  all_goals (cases ho)
                  repeat (first | refine ax_ops_nil ?_ | refine ax_post_any ?_ | refine ax_buildSliceRo rfl rfl rfl rfl rfl rfl rfl rfl rfl rfl rfl ?_)
                  exact fin2 _ ⟨rfl, rfl, rfl, rfl, rfl, rfl, rfl, rfl, rfl, rfl, rfl, rfl, rfl, rfl, rfl, rfl, rfl, trivial⟩
                · repeat (first | refine ax_ops_nil ?_ | refine ax_post_any ?_ | refine ax_q (q_loadb_ptr rfl rfl rfl rfl rfl) ?_)
                  refine ax_any_q 15 rfl (by kernel_rfl) (by kernel_rfl) (by kernel_rfl) rfl (q_build rfl rfl rfl rfl rfl rfl) rfl ?_
                  refine ax_any_step (is := [4, 16]) (by kernel_rfl) (by simp) rfl ⟨fun o ho => ?_, fun o ho => ?_, trivial⟩
                  all_goals (cases ho)
                  · repeat (first | refine ax_ops_nil ?_ | refine ax_post_any ?_ | refine ax_q (q_loadb_ptr rfl rfl rfl rfl rfl) ?_)
                    refine ax_any_step (is := [16]) (by kernel_rfl) (by simp) rfl ⟨fun o ho => ?_, trivial⟩
                    all_goals (cases ho)
                    repeat (first | refine ax_ops_nil ?_ | refine ax_post_any ?_ | refine ax_buildSliceRo rfl rfl rfl rfl rfl rfl rfl rfl rfl rfl rfl ?_)
                    exact fin2 _ ⟨rfl, rfl, rfl, rfl, rfl, rfl, rfl, rfl, rfl, rfl, rfl, rfl, rfl, rfl, rfl, rfl, rfl, trivial⟩
                  · repeat (first | refine ax_ops_nil ?_ | refine ax_post_any ?_ | refine ax_buildSliceRo rfl rfl rfl rfl rfl rfl rfl rfl rfl rfl rfl ?_)
                    refine ax_any_step (is := [4]) (by kernel_rfl) (by simp) rfl ⟨fun o ho => ?_, trivial⟩
                    all_goals (cases ho)
                    repeat (first | refine ax_ops_nil ?_ | refine ax_post_any ?_ | refine ax_q (q_loadb_ptr rfl rfl rfl rfl rfl) ?_)
                    exact fin2 _ ⟨rfl, rfl, rfl, rfl, rfl, rfl, rfl, rfl, rfl, rfl, rfl, rfl, rfl, rfl, rfl, rfl, rfl, trivial⟩
          · refine ax_any_step (is := [17]) (by kernel_rfl) (by simp) rfl ⟨fun o ho => ?_, trivial⟩
            all_goals (cases ho)
            refine ax_append rfl rfl rfl rfl rfl rfl rfl rfl rfl rfl rfl rfl (by show 0 + 1 ≤ 1; omega) rfl (by show (S.length + 1) * 24 ≤ _ ∧ _; omega) ?_ (by rw [hfix]; exact fun h => h) ?_
            · intro i' j' hi' hj'
              exact rowE_noref seq0 3 cellsS cellsS_noref S ⟨nf, (k : Int), f.pos.getD i 0⟩ _ (rowS3 ⟨nf, (k : Int), f.pos.getD i 0⟩) 0 i' j' hi' hj'
            refine ax_heap_ops [some ⟨80, seqsC (S ++ [(⟨nf, (k : Int), f.pos.getD i 0⟩ : RSeq)])⟩, some ⟨3, .ints .i64 f.pos⟩, some ⟨166, .box [.any, .sl 1 0 t.length]⟩, some ⟨184, mapC (f.first ++ [(nf, f.seqs.length)])⟩, some ⟨71, .box [.int .i64 kd, .int .i64 pl, .int .i64 nf, .ro (.ints .i64 nx) 0 nx.length, .ro (.strs od) 0 od.length, .str py]⟩] (HSub.eqv (rowE_snoc seq0 3 cellsS S ⟨nf, (k : Int), f.pos.getD i 0⟩ _ (rowS3 ⟨nf, (k : Int), f.pos.getD i 0⟩)) (HSub.eqv (CEq.refl _) (HSub.eqv (CEq.refl _) (HSub.eqv (map_forget _ _) (HSub.eqv (CEq.refl _) HSub.nil))))) ?_
            repeat (first | refine ax_ops_nil ?_ | refine ax_post_any ?_)
            refine ax_any_q 18 rfl (by kernel_rfl) (by kernel_rfl) (by kernel_rfl) rfl (q_nilcheck_ptr rfl) rfl ?_
            refine ax_any_q 19 rfl (by kernel_rfl) (by kernel_rfl) (by kernel_rfl) rfl (q_field_ptr rfl rfl rfl rfl rfl rfl) rfl ?_
            refine ax_any_step (is := [20]) (by kernel_rfl) (by simp) rfl ⟨fun o ho => ?_, trivial⟩
            all_goals (cases ho)
            repeat (first | refine ax_ops_nil ?_ | refine ax_post_any ?_ | refine ax_store rfl rfl rfl rfl rfl rfl rfl Nat.zero_lt_one ?_)
            refine ax_heap_any (formH t.length ⟨S ++ [(⟨nf, (k : Int), f.pos.getD i 0⟩ : RSeq)], f.pos, f.first ++ [(nf, f.seqs.length)]⟩ [some ⟨71, .box [.int .i64 kd, .int .i64 pl, .int .i64 nf, .ro (.ints .i64 nx) 0 nx.length, .ro (.strs od) 0 od.length, .str py]⟩]) (HSub.eqv (CEq.refl _) (HSub.eqv (CEq.refl _) (HSub.eqv (by show CEq (formB (S.length + 1) t.length) (formB (S ++ [(⟨nf, (k : Int), f.pos.getD i 0⟩ : RSeq)]).length t.length); rw [List.length_append]; exact CEq.refl _) (HSub.refl _)))) ?_
            refine ax_any_done (by kernel_rfl) ?_
            repeat (first | refine ax_q (q_move rfl) ?_ | refine ax_ops_nil ?_ | refine ax_post_code ?_ | refine ax_region rfl ?_ | refine ax_post_blk ?_ | refine ax_q (q_add rfl rfl (by omega)) ?_)
            exact ax_post_inv ⟨k + 1, by omega, by omega, ⟨rfl, rfl, rfl, rfl, rfl, rfl, rfl, rfl, rfl, rfl, rfl, rfl, rfl, trivial⟩, by rw [hS2', hS2]⟩
        · have hke : k = nx.length := by omega
          subst hke
          repeat (first | refine ax_q (q_move rfl) ?_ | refine ax_ops_nil ?_ | refine ax_post_code ?_ | refine ax_seq ?_ | refine ax_region rfl ?_ | refine ax_block ?_ | refine ax_exit ?_ | refine ax_exit_here ?_ | refine ax_exit_code ?_ | refine ax_exit_inv ?_ | refine ax_q (q_loadb_ptr rfl rfl rfl rfl rfl) ?_ | refine ax_q (q_len rfl rfl rfl) ?_ | refine ax_q (q_field_ptr rfl rfl rfl rfl rfl rfl) ?_)
          refine ax_heap_eq (formH t.length g [some ⟨71, .box [.int .i64 kd, .int .i64 pl, .int .i64 nf, .ro (.ints .i64 nx) 0 nx.length, .ro (.strs od) 0 od.length, .str py]⟩]) (by rw [hg]; rfl) ?_
          refine ax_loop (ι := Nat) (fun k => [(0, .ro (treeC t) 0 t.length), (1, .int .i64 p), (5, .ptr 2 0 0), (6, .mp 3), (7, .int .i64 (i : Nat)), (8, .ptr 4 0 0), (9, .bool true), (23, .ro (treeC t) 0 t.length), (24, .int .i64 (t.length : Nat)), (25, .int .i64 (i : Nat)), (85, .ro (.ints .i64 nx) 0 nx.length), (86, .int .i64 (nx.length : Nat)), (87, .int .i64 (k : Nat))]) (fun k => formH t.length ⟨g.seqs, setG v (nx.take k) 0 g.pos, g.first⟩ [some ⟨71, .box [.int .i64 kd, .int .i64 pl, .int .i64 nf, .ro (.ints .i64 nx) 0 nx.length, .ro (.strs od) 0 od.length, .str py]⟩])
            (fun k => k ≤ nx.length) (fun k => nx.length - k) 0 ⟨⟨rfl, rfl, rfl, rfl, rfl, rfl, rfl, rfl, rfl, rfl, rfl, rfl, rfl, trivial⟩, rfl, Nat.zero_le _⟩ ?_
          intro k hk
          repeat (first | refine ax_ops_nil ?_ | refine ax_post_code ?_ | refine ax_seq ?_ | refine ax_region rfl ?_ | refine ax_q (q_lss rfl rfl) ?_)
          refine ax_cond_dec rfl (fun h5 => ?_) (fun h5 => ?_)
          · have hk' : k < nx.length := by omega
            obtain ⟨b1, b2⟩ := hbh _ (get_in 0 hk')
            have hAl : (setG v (nx.take k) 0 g.pos).length = t.length := by rw [setG_len]; exact hgl
            have hAi : (setG v (nx.take k) 0 g.pos).getD i 0 = g.pos.getD i 0 := setG_other v 0 _ _ _ (fun c hc => by have := hbh c (List.mem_of_mem_take hc); omega)
            have hst : setG v (nx.take (k + 1)) 0 g.pos = (setG v (nx.take k) 0 g.pos).set (nx.getD k 0).toNat (v k) := by
              rw [take_snocI hk', setG_snoc, List.length_take, Nat.min_eq_left hk, Nat.zero_add]
            have hvk := hvv k
            generalize hA2 : setG v (nx.take (k + 1)) 0 g.pos = A2 at *
            generalize setG v (nx.take k) 0 g.pos = A at *
            obtain ⟨x, hx⟩ := Int.eq_ofNat_of_zero_le (show 0 ≤ nx.getD k 0 by omega)
            have hxn : (nx.getD k 0).toNat = x := by rw [hx, Int.toNat_natCast]
            rw [hx] at b1 b2
            rw [hxn] at hst
            have hxl : x < A.length := by omega
            have hil : i < A.length := by omega
            have hxl2 : x < (A.set x (A.getD i 0)).length := by rw [List.length_set]; exact hxl
            repeat (first | refine ax_q (q_move rfl) ?_ | refine ax_q (q_assign rfl) ?_ | refine ax_q (q_loadi_rp rfl rfl rfl) ?_ | refine ax_ops_nil ?_ | refine ax_post_code ?_ | refine ax_seq ?_ | refine ax_region rfl ?_ | refine ax_block ?_ | refine ax_skip ?_ | refine ax_q (q_index_ro' rfl rfl rfl rfl (by first | (simp only [Nat.zero_add, Int.toNat_natCast, Int.toNat_zero]; exact rfl) | exact rfl) (by omega)) ?_)
            refine ax_slot 14 (.int .i64 (x : Nat)) rfl (AEq.of_eq (by rw [hx])) ?_
            refine ax_regiond (by kernel_rfl) ?_
            refine ax_any_run (fuel := 1) [0, 1, 2, 3, 4, 5, 6, 7, 8, 9, 10, 11, 12] [(0, .ro (treeC t) 0 t.length), (1, .int .i64 p), (5, .ptr 2 0 0), (6, .mp 3), (7, .int .i64 (i : Nat)), (8, .ptr 4 0 0), (9, .bool true), (23, .ro (treeC t) 0 t.length), (24, .int .i64 (t.length : Nat)), (25, .int .i64 (i : Nat)), (85, .ro (.ints .i64 nx) 0 nx.length), (86, .int .i64 (nx.length : Nat)), (87, .int .i64 (k : Nat)), (13, .int .i64 (k : Nat)), (14, .int .i64 (x : Nat))] ⟨rfl, rfl, rfl, rfl, rfl, rfl, rfl, rfl, rfl, rfl, rfl, rfl, rfl, rfl, rfl, trivial⟩ (by kernel_rfl) (by decide) rfl rfl ?_
            refine px_q rfl rfl (q_move rfl) ?_
            refine px_q rfl rfl (q_nilcheck_ptr rfl) ?_
            refine px_q rfl rfl (q_field_ptr rfl rfl rfl rfl rfl rfl) ?_
            refine px_q rfl rfl (q_loadb_ptr rfl rfl rfl rfl rfl) ?_
            refine px_q rfl rfl (q_move rfl) ?_
            refine px_q rfl rfl (q_move rfl) ?_
            refine px_q rfl rfl (q_nilcheck_ptr rfl) ?_
            refine px_q rfl rfl (q_field_ptr rfl rfl rfl rfl rfl rfl) ?_
            refine px_q rfl rfl (q_loadb_ptr rfl rfl rfl rfl rfl) ?_
            refine px_q rfl rfl (q_move rfl) ?_
            refine px_q rfl rfl (q_index_sl' rfl rfl rfl rfl rfl (by first | (simp only [Nat.zero_add, Int.toNat_natCast, Int.toNat_zero]; exact rfl) | exact rfl) (by omega)) ?_
            refine px_q rfl rfl (q_loadi_ptr rfl rfl rfl rfl (by first | assumption | omega)) ?_
            refine px_q rfl rfl (q_index_sl' rfl rfl rfl rfl rfl (by first | (simp only [Nat.zero_add, Int.toNat_natCast, Int.toNat_zero]; exact rfl) | exact rfl) (by omega)) ?_
            refine px_done ?_
            refine ax_any_step (is := [13]) (by kernel_rfl) (by simp) rfl ⟨fun o ho => ?_, trivial⟩
            all_goals (cases ho)
            repeat (first | refine ax_ops_nil ?_ | refine ax_post_any ?_ | refine ax_store rfl rfl rfl rfl rfl rfl rfl (by first | assumption | (show _ < List.length _; first | assumption | omega)) ?_)
            refine ax_heap_any (formH t.length ⟨g.seqs, A.set x (A.getD i 0), g.first⟩ [some ⟨71, .box [.int .i64 kd, .int .i64 pl, .int .i64 nf, .ro (.ints .i64 nx) 0 nx.length, .ro (.strs od) 0 od.length, .str py]⟩]) (HSub.refl _) ?_
            refine ax_any_done (by kernel_rfl) ?_
            repeat (first | refine ax_q (q_move rfl) ?_ | refine ax_ops_nil ?_ | refine ax_post_code ?_ | refine ax_seq ?_ | refine ax_region rfl ?_ | refine ax_cond_true rfl ?_)
            refine ax_regiond (by kernel_rfl) ?_
            refine ax_any_run (fuel := 1) [0, 1, 2, 3, 4, 5, 6, 7, 8, 9, 10, 11] [(0, .ro (treeC t) 0 t.length), (1, .int .i64 p), (5, .ptr 2 0 0), (6, .mp 3), (7, .int .i64 (i : Nat)), (8, .ptr 4 0 0), (9, .bool true), (23, .ro (treeC t) 0 t.length), (24, .int .i64 (t.length : Nat)), (25, .int .i64 (i : Nat)), (85, .ro (.ints .i64 nx) 0 nx.length), (86, .int .i64 (nx.length : Nat)), (87, .int .i64 (k : Nat)), (13, .int .i64 (k : Nat)), (14, .int .i64 (x : Nat))] ⟨rfl, rfl, rfl, rfl, rfl, rfl, rfl, rfl, rfl, rfl, rfl, rfl, rfl, rfl, rfl, trivial⟩ (by kernel_rfl) (by decide) rfl rfl ?_
            refine px_q rfl rfl (q_move rfl) ?_
            refine px_q rfl rfl (q_nilcheck_ptr rfl) ?_
            refine px_q rfl rfl (q_field_ptr rfl rfl rfl rfl rfl rfl) ?_
            refine px_q rfl rfl (q_loadb_ptr rfl rfl rfl rfl rfl) ?_
            refine px_q rfl rfl (q_move rfl) ?_
            refine px_q rfl rfl (q_move rfl) ?_
            refine px_q rfl rfl (q_field_ptr rfl rfl rfl rfl rfl rfl) ?_
            refine px_q rfl rfl (q_loadb_ptr rfl rfl rfl rfl rfl) ?_
            refine px_q rfl rfl (q_lookup_hit rfl (.int rfl) rfl rfl rfl rfl (keysI g.first) jj i1 i2) ?_
            refine px_q rfl rfl (q_move rfl) ?_
            refine px_q rfl rfl (q_add rfl rfl (by omega)) ?_
            refine px_q rfl rfl (q_index_sl' rfl rfl rfl rfl rfl (by first | (simp only [Nat.zero_add, Int.toNat_natCast, Int.toNat_zero]; exact rfl) | exact rfl) (by omega)) ?_
            refine px_done ?_
            refine ax_any_step (is := [12]) (by kernel_rfl) (by simp) rfl ⟨fun o ho => ?_, trivial⟩
            all_goals (cases ho)
            repeat (first | refine ax_ops_nil ?_ | refine ax_post_any ?_ | refine ax_store rfl rfl rfl rfl rfl rfl rfl (by first | assumption | (show _ < List.length _; first | assumption | omega)) ?_)
            refine ax_any_done (by kernel_rfl) ?_
            repeat (first | refine ax_q (q_move rfl) ?_ | refine ax_ops_nil ?_ | refine ax_post_code ?_ | refine ax_region rfl ?_ | refine ax_post_blk ?_ | refine ax_q (q_add rfl rfl (by omega)) ?_)
            exact ax_post_inv ⟨k + 1, by omega, by omega, ⟨rfl, rfl, rfl, rfl, rfl, rfl, rfl, rfl, rfl, rfl, rfl, rfl, rfl, trivial⟩, by rw [hA2, hst, hvk]; exact congrArg (fun l => formH t.length ⟨g.seqs, l, g.first⟩ [some ⟨71, .box [.int .i64 kd, .int .i64 pl, .int .i64 nf, .ro (.ints .i64 nx) 0 nx.length, .ro (.strs od) 0 od.length, .str py]⟩]) (List.set_set ..)⟩
          · have hke : k = nx.length := by omega
            subst hke
            rw [List.take_length]
            repeat (first | refine ax_post_blk ?_ | refine ax_exit ?_ | refine ax_exit_here ?_ | refine ax_exit_code ?_ | refine ax_exit_inv ?_)
            refine ax_post_code ?_
            refine ax_cutP (formH t.length ⟨g.seqs, setG v nx 0 g.pos, g.first⟩ []) [some ⟨71, .box [.int .i64 kd, .int .i64 pl, .int .i64 nf, .ro (.ints .i64 nx) 0 nx.length, .ro (.strs od) 0 od.length, .str py]⟩] [(0, .ro (treeC t) 0 t.length), (1, .int .i64 p), (5, .ptr 2 0 0), (6, .mp 3), (23, .ro (treeC t) 0 t.length), (24, .int .i64 (t.length : Nat)), (25, .int .i64 (i : Nat))] rfl ⟨rfl, rfl, rfl, rfl, rfl, rfl, rfl, trivial⟩ (fun h hh => by rw [hfix] at hh; exact absurd hh id) (below_form _ _) rfl ?_
            repeat (first | refine ax_q (q_move rfl) ?_ | refine ax_ops_nil ?_ | refine ax_region rfl ?_ | refine ax_q (q_add rfl rfl (by omega)) ?_)
            exact ax_post_inv ⟨i + 1, by omega, by omega, ⟨rfl, rfl, rfl, rfl, rfl, rfl, rfl, trivial⟩, by rw [hnx]⟩
  · have hie : i = t.length := by omega
    subst hie
    repeat (first | refine ax_q (q_move rfl) ?_ | refine ax_q (q_assign rfl) ?_ | refine ax_ops_nil ?_ | refine ax_post_code ?_ | refine ax_seq ?_ | refine ax_region rfl ?_ | refine ax_exit ?_ | refine ax_exit_here ?_ | refine ax_exit_code ?_ | refine ax_exit_inv ?_ | refine ax_return ?_)
    exact ax_ret hR rfl ⟨rfl, rfl⟩
end Go.Proofs.YtgmleamhjnlknaaGreatDoor

/-
  Strategies: what is checked, and what it means. No program in sight.
-/
namespace Go.Ax.Rt
open Go.Ax.Bg Go.Ax.Idx

structure TChoice where
  info : Int
  odds : List Text
  deriving DecidableEq
def ch0 : TChoice := ⟨0, []⟩
abbrev Strg := List TChoice
def stratN (I Z : List Int) : Nat → Strg → Int
  | _, [] => 0
  | k, c :: r => if c.info ≠ I.getD k 0 ∨ ((c.odds.length : Nat) : Int) ≠ Z.getD k 0 then 3 else if oddsR c.odds ≠ 0 then oddsR c.odds else stratN I Z (k + 1) r
/-- recall.Strategy -/
def stratE (t : Tree) (p : Int) (s : Strg) : Int := if s.length ≠ (infosOf t p).length then 3 else stratN (infosOf t p) (sizesOf t p) 0 s
theorem stratN_step {I Z : List Int} {s : Strg} {k : Nat} (hk : k < s.length) : stratN I Z k (s.drop k) = if (s.getD k ch0).info ≠ I.getD k 0 ∨ (((s.getD k ch0).odds.length : Nat) : Int) ≠ Z.getD k 0 then 3 else if oddsR (s.getD k ch0).odds ≠ 0 then oddsR (s.getD k ch0).odds else stratN I Z (k + 1) (s.drop (k + 1)) := by
  rw [List.drop_eq_getElem_cons hk, ← get_el ch0 hk, stratN]
theorem stratN_zero {I Z : List Int} : ∀ {s : Strg} {k : Nat}, stratN I Z k s = 0 → ∀ j, j < s.length → (s.getD j ch0).info = I.getD (k + j) 0 ∧ (((s.getD j ch0).odds.length : Nat) : Int) = Z.getD (k + j) 0 ∧ oddsR (s.getD j ch0).odds = 0
  | [], k, h, j, hj => absurd hj (Nat.not_lt_zero _)
  | c :: r, k, h, j, hj => by
    rw [stratN] at h
    split at h
    · cases h
    rename_i h1
    simp only [not_or, Classical.not_not] at h1
    split at h
    · rename_i h2; exact absurd h h2
    rename_i h2
    cases j with
    | zero => exact ⟨h1.1, h1.2, Classical.not_not.1 h2⟩
    | succ j =>
      have := stratN_zero h j (by simpa using hj)
      rw [show k + (j + 1) = k + 1 + j by omega]
      exact this
structure OkS (t : Tree) (p : Int) (s : Strg) : Prop where
  infos : s.map TChoice.info = infosOf t p
  wid : ∀ j, j < s.length → (s.getD j ch0).odds.length = widthOf t p (s.getD j ch0).info
  odds : ∀ c ∈ s, oddsR c.odds = 0
theorem strat_zero {t : Tree} {p : Int} {s : Strg} (h : stratE t p s = 0) : OkS t p s := by
  unfold stratE at h
  split at h
  · cases h
  rename_i h1
  have h1 := Classical.not_not.1 h1
  have h2 := stratN_zero h
  have e1 : ∀ j, j < s.length → (s.getD j ch0).info = (infosOf t p).getD j 0 := fun j hj => by
    have := (h2 j hj).1; rwa [Nat.zero_add] at this
  refine ⟨?_, fun j hj => ?_, fun c hc => ?_⟩
  · apply List.ext_getElem (by rw [List.length_map]; exact h1)
    intro j hj1 hj2
    have hj : j < s.length := by simpa using hj1
    have := e1 j hj
    rw [get_el ch0 hj, get_el 0 hj2] at this
    rw [List.getElem_map]; exact this
  · have := (h2 j hj).2.1
    rw [Nat.zero_add] at this
    have hj2 : j < (infosOf t p).length := by omega
    unfold sizesOf at this
    rw [map_getD _ _ 0 _ _ hj2, ← e1 j hj] at this
    omega
  · obtain ⟨j, hj, rfl⟩ := List.getElem_of_mem hc
    have := (h2 j hj).2.2
    rwa [get_el ch0 hj] at this
theorem sumL_sum : ∀ (qs : List Rat) (acc : Rat), (sumL acc qs).2 = 0 → (sumL acc qs).1 = sumQ acc qs
  | [], acc, _ => rfl
  | q :: r, acc, h => by
    rw [sumL] at h ⊢
    rw [sumQ]
    split at h
    · rename_i hf
      rw [if_pos hf]
      exact sumL_sum r _ h
    · cases h
theorem odds_zero {l : List Text} (h : oddsR l = 0) : l.length ≤ 256 ∧ (∀ s ∈ l, ratE s = 0) ∧ sumQ 0 (l.map ratV) = 1 ∧ ∀ q ∈ l.map ratV, 0 ≤ q ∧ D 2000 q := by
  unfold oddsR at h
  split at h
  case isFalse h1 => exact absurd h h1
  rename_i h1
  split at h
  case isFalse => cases h
  rename_i h2
  unfold posE at h1
  split at h1
  · cases h1
  rename_i h3
  have h4 : l.any negB = false := by
    cases hb : l.any negB
    · rfl
    · exact absurd ⟨h1, hb⟩ h3
  unfold sumR at h1 h2
  split at h1
  · cases h1
  rename_i h5
  split at h1
  case isFalse h6 => exact absurd h1 h6
  rename_i h6
  rw [if_neg h5, if_pos h6] at h2
  have h7 := allE_mem h6
  refine ⟨by omega, h7, ?_, fun q hq => ?_⟩
  · have := sumL_sum _ _ h1
    rw [this] at h2
    unfold cmpQ at h2
    split at h2
    · cases h2
    · split at h2
      · rename_i e; exact e
      · cases h2
  · obtain ⟨s, hs, rfl⟩ := List.mem_map.1 hq
    have hn := (nonneg_of (h7 s hs)).1 (by rw [List.any_eq_false] at h4; simpa using h4 s hs)
    refine ⟨hn, ?_⟩
    have hf := (IsQ.self (h7 s hs)).fit
    unfold fitB at hf
    rw [Bool.and_eq_true, decide_eq_true_eq, decide_eq_true_eq] at hf
    exact dig_D hf.1 hf.2
/-- the probabilities by information sets -/
def oddsQ (s : Strg) (x : Int) : List Rat := ((s.find? (fun c => decide (c.info = x))).map (fun c => c.odds.map ratV)).getD []
theorem oddsQ_at {s : Strg} (hn : (s.map TChoice.info).Nodup) {c : TChoice} (hc : c ∈ s) : oddsQ s c.info = c.odds.map ratV := by
  unfold oddsQ
  induction s with
  | nil => simp at hc
  | cons a r ih =>
    rw [List.map_cons, List.nodup_cons] at hn
    rw [List.find?_cons]
    rcases List.mem_cons.1 hc with e | q
    · subst e; simp
    · have : ¬ a.info = c.info := fun e => hn.1 (List.mem_map.2 ⟨c, q, e.symm⟩)
      rw [decide_eq_false this]
      exact ih hn.2 q
theorem OkS.at' {t : Tree} {p : Int} {s : Strg} (h : OkS t p s) {x : Int} (hx : x ∈ infosOf t p) : ∃ c ∈ s, c.info = x ∧ oddsQ s x = c.odds.map ratV ∧ c.odds.length = widthOf t p x ∧ oddsR c.odds = 0 := by
  have hn : (s.map TChoice.info).Nodup := by rw [h.infos]; exact infos_nodup t p
  rw [← h.infos] at hx
  obtain ⟨c, hc, rfl⟩ := List.mem_map.1 hx
  obtain ⟨j, hj, e⟩ := List.getElem_of_mem hc
  have hw := h.wid j hj
  rw [get_el ch0 hj, e] at hw
  exact ⟨c, hc, rfl, oddsQ_at hn hc, hw, h.odds c hc⟩
theorem OkS.strat {t : Tree} {p : Int} {s : Strg} (h : OkS t p s) : Strat t p (oddsQ s) 2000 := by
  refine ⟨fun x hx => ?_, fun x hx => ?_, fun x hx => ?_, fun x hx => ?_⟩ <;> obtain ⟨c, c1, c2, c3, c4, c5⟩ := h.at' hx <;> obtain ⟨o1, o2, o3, o4⟩ := odds_zero c5 <;> rw [c3]
  · rw [List.length_map]; exact c4
  · exact o3
  · exact fun q hq => (o4 q hq).1
  · exact fun q hq => (o4 q hq).2
/-- recall.Plan -/
def planE (t : Tree) (p : Int) : Int := if playerE t p ≠ 0 then playerE t p else if isPerf t p = true then 0 else 10
def planR (t : Tree) (p : Int) (s : Strg) : List Text × Int := if planE t p ≠ 0 then ([], planE t p) else if stratE t p s ≠ 0 then ([], stratE t p s) else outAllF (planOf t p (oddsQ s))
def seqsR (t : Tree) (p : Int) : List RSeq × Int := if planE t p ≠ 0 then ([], planE t p) else (seqsOf t p, 0)
end Go.Ax.Rt

namespace Go.Proofs.YtgmleamhjnlknaaGreatDoor
open Go.Ax Go.Ax.Bg Go.Ax.Rt Go.RowKit Go.Ax.Idx Go.Ax.Cd
attribute [local irreducible] Ax Post QOp ACall PureOp
set_option maxRecDepth 100000
set_option maxHeartbeats 4000000

theorem player_valid {t : Tree} {p : Int} (h : playerE t p = 0) : Valid t := by
  unfold playerE at h
  split at h
  · rename_i h1; exact absurd h h1
  · rename_i h1; exact valid_of (Classical.not_not.1 h1)
theorem plan_valid {t : Tree} {p : Int} (h : planE t p = 0) : Valid t ∧ isPerf t p = true ∧ playerE t p = 0 := by
  unfold planE at h
  split at h
  · rename_i h1; exact absurd h h1
  rename_i h1
  have h2 := Classical.not_not.1 h1
  split at h
  · rename_i h3; exact ⟨player_valid h2, h3, h2⟩
  · cases h
theorem rcl_ok (t : Tree) (p : Int) (hT : ShortT t) : VCall Tryz.prog 114 [.ro (treeC t) 0 t.length, .int .i64 p] (.int .i64 (planE t p)) := by
  have cp := player_ok t p hT
  refine ACall.value0 (acall_of_ax (P := Tryz.prog) (fn := Tryz.f114) rfl rfl (by kernel_rfl) rfl (fun c hR hfix => ?_)) (fix := fun _ => False) (fun _ h => h) rfl rfl
  unfold planE at hR
  repeat (first | refine ax_q (q_move rfl) ?_ | refine ax_q (q_assign rfl) ?_ | refine ax_ops_nil ?_ | refine ax_post_code ?_ | refine ax_seq ?_ | refine ax_region rfl ?_)
  refine ax_callv rfl rfl rfl cp ?_
  repeat (first | refine ax_q (q_move rfl) ?_ | refine ax_q (q_assign rfl) ?_ | refine ax_ops_nil ?_ | refine ax_post_code ?_ | refine ax_seq ?_ | refine ax_region rfl ?_ | refine ax_q (q_neq rfl rfl) ?_)
  refine ax_cond_dec rfl (fun h1 => ?_) (fun h1 => ?_)
  · rw [if_pos h1] at hR
    repeat (first | refine ax_q (q_move rfl) ?_ | refine ax_q (q_assign rfl) ?_ | refine ax_ops_nil ?_ | refine ax_post_code ?_ | refine ax_seq ?_ | refine ax_region rfl ?_ | refine ax_return ?_ | refine ax_ret_code ?_)
    exact ax_ret hR rfl rfl
  rw [if_neg h1] at hR
  have ci := isPerf_ok t p hT (player_valid (Classical.not_not.1 h1))
  generalize isPerf t p = b at *
  repeat (first | refine ax_q (q_move rfl) ?_ | refine ax_post_code ?_ | refine ax_seq ?_ | refine ax_region rfl ?_ | refine ax_skip ?_)
  refine ax_callv rfl rfl rfl ci ?_
  cases b
  · rw [if_neg (by decide)] at hR
    repeat (first | refine ax_q (q_assign rfl) ?_ | refine ax_ops_nil ?_ | refine ax_post_code ?_ | refine ax_seq ?_ | refine ax_region rfl ?_ | refine ax_cond_true rfl ?_ | refine ax_return ?_ | refine ax_ret_code ?_ | refine ax_q (q_not rfl) ?_)
    exact ax_ret hR rfl rfl
  · rw [if_pos rfl] at hR
    repeat (first | refine ax_q (q_assign rfl) ?_ | refine ax_ops_nil ?_ | refine ax_post_code ?_ | refine ax_seq ?_ | refine ax_region rfl ?_ | refine ax_cond_false rfl ?_ | refine ax_skip ?_ | refine ax_return ?_ | refine ax_q (q_not rfl) ?_)
    exact ax_ret hR rfl rfl
def perfR (t : Tree) (p : Int) : Bool × Int := if playerE t p ≠ 0 then (false, playerE t p) else (isPerf t p, 0)
theorem perfect_ok (t : Tree) (p : Int) (hT : ShortT t) : VCall Tryz.prog 44 [.ro (treeC t) 0 t.length, .int .i64 p] (.tup [.bool (perfR t p).1, .int .i64 (perfR t p).2]) := by
  have cp := player_ok t p hT
  refine ACall.value0 (acall_of_ax (P := Tryz.prog) (fn := Tryz.f44) rfl rfl (by kernel_rfl) rfl (fun c hR hfix => ?_)) (fix := fun _ => False) (fun _ h => h) rfl rfl
  unfold perfR at hR
  repeat (first | refine ax_q (q_move rfl) ?_ | refine ax_q (q_assign rfl) ?_ | refine ax_ops_nil ?_ | refine ax_post_code ?_ | refine ax_seq ?_ | refine ax_region rfl ?_)
  refine ax_callv rfl rfl rfl cp ?_
  repeat (first | refine ax_q (q_move rfl) ?_ | refine ax_q (q_assign rfl) ?_ | refine ax_ops_nil ?_ | refine ax_post_code ?_ | refine ax_seq ?_ | refine ax_region rfl ?_ | refine ax_q (q_neq rfl rfl) ?_)
  refine ax_cond_dec rfl (fun h1 => ?_) (fun h1 => ?_)
  · rw [if_pos h1] at hR
    repeat (first | refine ax_q (q_move rfl) ?_ | refine ax_q (q_assign rfl) ?_ | refine ax_ops_nil ?_ | refine ax_post_code ?_ | refine ax_seq ?_ | refine ax_region rfl ?_ | refine ax_return ?_ | refine ax_ret_code ?_)
    exact ax_ret hR rfl rfl
  rw [if_neg h1] at hR
  have ci := isPerf_ok t p hT (player_valid (Classical.not_not.1 h1))
  repeat (first | refine ax_q (q_move rfl) ?_ | refine ax_post_code ?_ | refine ax_seq ?_ | refine ax_region rfl ?_ | refine ax_skip ?_)
  refine ax_callv rfl rfl rfl ci ?_
  repeat (first | refine ax_q (q_assign rfl) ?_ | refine ax_ops_nil ?_ | refine ax_post_code ?_ | refine ax_return ?_)
  exact ax_ret hR rfl rfl
theorem sequences_ok (t : Tree) (p : Int) (hT : ShortT t) : VCall Tryz.prog 46 [.ro (treeC t) 0 t.length, .int .i64 p] (.tup [.ro (seqsC (seqsR t p).1) 0 (seqsR t p).1.length, .int .i64 (seqsR t p).2]) := by
  have cc := rcl_ok t p hT
  refine ACall.value0 (acall_of_ax (P := Tryz.prog) (fn := Tryz.f46) rfl rfl (by kernel_rfl) rfl (fun c hR hfix => ?_)) (fix := fun _ => False) (fun _ h => h) rfl rfl
  unfold seqsR at hR
  repeat (first | refine ax_q (q_move rfl) ?_ | refine ax_q (q_assign rfl) ?_ | refine ax_ops_nil ?_ | refine ax_post_code ?_ | refine ax_seq ?_ | refine ax_region rfl ?_)
  refine ax_callv rfl rfl rfl cc ?_
  repeat (first | refine ax_q (q_move rfl) ?_ | refine ax_q (q_assign rfl) ?_ | refine ax_ops_nil ?_ | refine ax_post_code ?_ | refine ax_seq ?_ | refine ax_region rfl ?_ | refine ax_q (q_neq rfl rfl) ?_)
  refine ax_cond_dec rfl (fun h1 => ?_) (fun h1 => ?_)
  · rw [if_pos h1] at hR
    repeat (first | refine ax_q (q_move rfl) ?_ | refine ax_q (q_assign rfl) ?_ | refine ax_ops_nil ?_ | refine ax_post_code ?_ | refine ax_seq ?_ | refine ax_region rfl ?_)
    refine ax_slot 4 (.ro (seqsC []) 0 0) rfl AEq.nil ?_
    repeat (first | refine ax_return ?_ | refine ax_ret_code ?_)
    exact ax_ret hR rfl rfl
  rw [if_neg h1] at hR
  have co := of_ok t p hT (plan_valid (Classical.not_not.1 h1)).1
  repeat (first | refine ax_q (q_move rfl) ?_ | refine ax_post_code ?_ | refine ax_seq ?_ | refine ax_region rfl ?_ | refine ax_skip ?_)
  refine ax_callc rfl rfl rfl co (fun h hh => absurd hh (Nat.not_lt_zero _)) (fun h hh => absurd hh id) ?_
  rintro r' H' ⟨rfl, rfl⟩
  repeat (first | refine ax_q (q_assign rfl) ?_ | refine ax_ops_nil ?_ | refine ax_post_code ?_ | refine ax_q (q_loadb_ptr rfl rfl rfl rfl rfl) ?_ | refine ax_q (q_nilcheck_ptr rfl) ?_ | refine ax_q (q_field_ptr rfl rfl rfl rfl rfl rfl) ?_)
  refine ax_give_code 0 4 (formN t p t.length).seqs.length [(5, .int .i64 0)] rfl (refless_seqs _) rfl (by show (formN t p t.length).seqs.length ≤ (formN t p t.length).seqs.length; exact Nat.le_refl _) ⟨rfl, trivial⟩ ?_
  repeat (refine ax_return ?_)
  exact ax_ret hR rfl rfl
theorem at_ok (t : Tree) (p : Int) (hT : ShortT t) : VCall Tryz.prog 106 [.ro (treeC t) 0 t.length, .int .i64 p] (.tup [.ro (.ints .i64 (if planE t p ≠ 0 then [] else posOf t p)) 0 (if planE t p ≠ 0 then [] else posOf t p).length, .int .i64 (planE t p)]) := by
  have cc := rcl_ok t p hT
  refine ACall.value0 (acall_of_ax (P := Tryz.prog) (fn := Tryz.f106) rfl rfl (by kernel_rfl) rfl (fun c hR hfix => ?_)) (fix := fun _ => False) (fun _ h => h) rfl rfl
  repeat (first | refine ax_q (q_move rfl) ?_ | refine ax_q (q_assign rfl) ?_ | refine ax_ops_nil ?_ | refine ax_post_code ?_ | refine ax_seq ?_ | refine ax_region rfl ?_)
  refine ax_callv rfl rfl rfl cc ?_
  repeat (first | refine ax_q (q_move rfl) ?_ | refine ax_q (q_assign rfl) ?_ | refine ax_ops_nil ?_ | refine ax_post_code ?_ | refine ax_seq ?_ | refine ax_region rfl ?_ | refine ax_q (q_neq rfl rfl) ?_)
  refine ax_cond_dec rfl (fun h1 => ?_) (fun h1 => ?_)
  · rw [if_pos h1] at hR
    repeat (first | refine ax_q (q_move rfl) ?_ | refine ax_q (q_assign rfl) ?_ | refine ax_ops_nil ?_ | refine ax_post_code ?_ | refine ax_seq ?_ | refine ax_region rfl ?_)
    refine ax_slot 4 (.ro (.ints .i64 []) 0 0) rfl AEq.nil ?_
    repeat (first | refine ax_return ?_ | refine ax_ret_code ?_)
    exact ax_ret hR rfl rfl
  rw [if_neg h1, Classical.not_not.1 h1] at hR
  have co := of_ok t p hT (plan_valid (Classical.not_not.1 h1)).1
  repeat (first | refine ax_q (q_move rfl) ?_ | refine ax_post_code ?_ | refine ax_seq ?_ | refine ax_region rfl ?_ | refine ax_skip ?_)
  refine ax_callc rfl rfl rfl co (fun h hh => absurd hh (Nat.not_lt_zero _)) (fun h hh => absurd hh id) ?_
  rintro r' H' ⟨rfl, rfl⟩
  repeat (first | refine ax_q (q_assign rfl) ?_ | refine ax_ops_nil ?_ | refine ax_post_code ?_ | refine ax_q (q_loadb_ptr rfl rfl rfl rfl rfl) ?_ | refine ax_q (q_nilcheck_ptr rfl) ?_ | refine ax_q (q_field_ptr rfl rfl rfl rfl rfl rfl) ?_)
  refine ax_give_code 1 4 t.length [(5, .int .i64 0)] rfl refless_ints rfl (by show t.length ≤ (formN t p t.length).pos.length; rw [form_len]; exact Nat.le_refl _) ⟨rfl, trivial⟩ ?_
  refine ax_slot 4 (.ro (.ints .i64 (posOf t p)) 0 (posOf t p).length) rfl (AEq.of_eq (by rw [show (posOf t p).length = t.length from form_len t p t.length]; rfl)) ?_
  repeat (refine ax_return ?_)
  exact ax_ret hR rfl rfl
def infosR (t : Tree) (p : Int) : (List Int × List Int) × Int := if playerE t p ≠ 0 then (([], []), playerE t p) else ((infosOf t p, sizesOf t p), 0)
theorem infos_ok (t : Tree) (p : Int) (hT : ShortT t) : VCall Tryz.prog 47 [.ro (treeC t) 0 t.length, .int .i64 p] (.tup [.ro (.ints .i64 (infosR t p).1.1) 0 (infosR t p).1.1.length, .ro (.ints .i64 (infosR t p).1.2) 0 (infosR t p).1.2.length, .int .i64 (infosR t p).2]) := by
  have cp := player_ok t p hT
  have cs := sets_ok t p hT.len
  refine ACall.value0 (acall_of_ax (P := Tryz.prog) (fn := Tryz.f47) rfl rfl (by kernel_rfl) rfl (fun c hR hfix => ?_)) (fix := fun _ => False) (fun _ h => h) rfl rfl
  unfold infosR at hR
  repeat (first | refine ax_q (q_move rfl) ?_ | refine ax_q (q_assign rfl) ?_ | refine ax_ops_nil ?_ | refine ax_post_code ?_ | refine ax_seq ?_ | refine ax_region rfl ?_)
  refine ax_callv rfl rfl rfl cp ?_
  repeat (first | refine ax_q (q_move rfl) ?_ | refine ax_q (q_assign rfl) ?_ | refine ax_ops_nil ?_ | refine ax_post_code ?_ | refine ax_seq ?_ | refine ax_region rfl ?_ | refine ax_q (q_neq rfl rfl) ?_)
  refine ax_cond_dec rfl (fun h1 => ?_) (fun h1 => ?_)
  · rw [if_pos h1] at hR
    repeat (first | refine ax_q (q_move rfl) ?_ | refine ax_q (q_assign rfl) ?_ | refine ax_ops_nil ?_ | refine ax_post_code ?_ | refine ax_seq ?_ | refine ax_region rfl ?_)
    refine ax_slot 4 (.ro (.ints .i64 []) 0 0) rfl AEq.nil ?_
    refine ax_slot 5 (.ro (.ints .i64 []) 0 0) rfl AEq.nil ?_
    repeat (first | refine ax_return ?_ | refine ax_ret_code ?_)
    exact ax_ret hR rfl rfl
  rw [if_neg h1] at hR
  repeat (first | refine ax_q (q_move rfl) ?_ | refine ax_post_code ?_ | refine ax_seq ?_ | refine ax_region rfl ?_ | refine ax_skip ?_)
  refine ax_callv rfl rfl rfl cs ?_
  repeat (first | refine ax_q (q_move rfl) ?_ | refine ax_q (q_assign rfl) ?_ | refine ax_ops_nil ?_ | refine ax_post_code ?_ | refine ax_seq ?_ | refine ax_region rfl ?_ | refine ax_return ?_ | refine ax_q (q_extract rfl rfl) ?_)
  exact ax_ret hR rfl rfl
end Go.Proofs.YtgmleamhjnlknaaGreatDoor

namespace Go.Proofs.YtgmleamhjnlknaaGreatDoor
open Go.Ax Go.Ax.Bg Go.Ax.Rt Go.RowKit Go.Ax.Idx Go.Ax.Cd
set_option maxRecDepth 100000
set_option maxHeartbeats 4000000

def cellsC (c : TChoice) : List AV := [.int .i64 c.info, .ro (.strs c.odds) 0 c.odds.length]
abbrev strgC (s : Strg) : Cells := rowE ch0 2 cellsC s
structure ShortC (c : TChoice) : Prop where
  odds : c.odds.length ≤ 9223372036854775807
  each : ∀ s ∈ c.odds, s.length ≤ 9223372036854775807
theorem rdNode {H : Type} {enc : TypeId × Value → H} {W : World} : Rd enc Tryz.prog W 71 6 cellsN ShortN :=
  (Rd.struct Tryz.underlying71 (by kernel_rfl) (RdF.cons rfl rfl (Rd.int Tryz.underlying3) (RdF.cons rfl rfl (Rd.int Tryz.underlying3) (RdF.cons rfl rfl (Rd.int Tryz.underlying3) (RdF.cons rfl rfl (Rd.ints Tryz.underlying69 (by kernel_rfl) Tryz.underlying3) (RdF.cons rfl rfl (Rd.strs Tryz.underlying35 (by kernel_rfl) Tryz.underlying40) (RdF.cons rfl rfl (Rd.str Tryz.underlying40) RdF.nil))))))).map
    (fun a => (⟨a.1, a.2.1, a.2.2.1, a.2.2.2.1, a.2.2.2.2.1, a.2.2.2.2.2.1⟩ : TNode)) (fun a h => ⟨h.2.2.2.1.1, h.2.2.2.2.1.1, h.2.2.2.2.1.2, h.2.2.2.2.2.1⟩) (fun a => rfl) (fun a i hi => AEq.rfl')
end Go.Proofs.YtgmleamhjnlknaaGreatDoor

namespace Go.Proofs.YtgmleamhjnlknaaGreatDoor
open Go.Ax Go.Ax.Bg Go.Ax.Rt Go.RowKit Go.Ax.Idx Go.Ax.Cd
attribute [local irreducible] Ax Post QOp ACall PureOp
set_option maxRecDepth 100000
set_option maxHeartbeats 4000000

structure ShortS (s : Strg) : Prop where
  len : s.length ≤ 9223372036854775807
  each : ∀ c ∈ s, ShortC c
theorem strategy_ok (t : Tree) (p : Int) (s : Strg) (hlen : t.length ≤ 9223372036854775807) (hs : ShortS s) : VCall Tryz.prog 110 [.ro (treeC t) 0 t.length, .int .i64 p, .ro (strgC s) 0 s.length] (.int .i64 (stratE t p s)) := by
  have cs := sets_ok t p hlen
  have hsl := hs.len
  have hzl : (sizesOf t p).length = (infosOf t p).length := by unfold sizesOf; simp
  refine ACall.value0 (acall_of_ax (P := Tryz.prog) (fn := Tryz.f110) rfl rfl (by kernel_rfl) rfl (fun c hR hfix => ?_)) (fix := fun _ => False) (fun _ h => h) rfl rfl
  unfold stratE at hR
  generalize infosOf t p = I at *
  generalize sizesOf t p = Z at *
  repeat (first | refine ax_q (q_move rfl) ?_ | refine ax_q (q_assign rfl) ?_ | refine ax_ops_nil ?_ | refine ax_post_code ?_ | refine ax_seq ?_ | refine ax_region rfl ?_)
  refine ax_callv rfl rfl rfl cs ?_
  repeat (first | refine ax_q (q_move rfl) ?_ | refine ax_q (q_assign rfl) ?_ | refine ax_ops_nil ?_ | refine ax_post_code ?_ | refine ax_seq ?_ | refine ax_region rfl ?_ | refine ax_q (q_neq rfl rfl) ?_ | refine ax_q (q_extract rfl rfl) ?_ | refine ax_q (q_len rfl rfl rfl) ?_)
  refine ax_cond_dec rfl (fun h1 => ?_) (fun h1 => ?_)
  · rw [if_pos (by omega)] at hR
    repeat (first | refine ax_q (q_assign rfl) ?_ | refine ax_ops_nil ?_ | refine ax_post_code ?_ | refine ax_seq ?_ | refine ax_region rfl ?_ | refine ax_return ?_ | refine ax_ret_code ?_)
    exact ax_ret hR rfl rfl
  rw [if_neg (by omega)] at hR
  have hl : s.length = I.length := by omega
  repeat (first | refine ax_q (q_move rfl) ?_ | refine ax_ops_nil ?_ | refine ax_post_code ?_ | refine ax_seq ?_ | refine ax_region rfl ?_ | refine ax_block ?_ | refine ax_skip ?_ | refine ax_q (q_len rfl rfl rfl) ?_)
  refine ax_loop (ι := Nat) (fun i => [(0, .ro (treeC t) 0 t.length), (7, .ro (.ints .i64 I) 0 I.length), (8, .ro (.ints .i64 Z) 0 Z.length), (23, .ro (strgC s) 0 s.length), (24, .int .i64 (s.length : Nat)), (25, .int .i64 (i : Nat))]) (fun _ => [])
    (fun i => i ≤ s.length ∧ stratN I Z 0 s = stratN I Z i (s.drop i)) (fun i => s.length - i) 0 ⟨⟨rfl, rfl, rfl, rfl, rfl, rfl, trivial⟩, rfl, Nat.zero_le _, by rw [List.drop_zero]⟩ ?_
  rintro i ⟨hi, hE⟩
  repeat (first | refine ax_ops_nil ?_ | refine ax_post_code ?_ | refine ax_seq ?_ | refine ax_region rfl ?_ | refine ax_q (q_lss rfl rfl) ?_)
  refine ax_cond_dec rfl (fun h => ?_) (fun h => ?_)
  · have hi' : i < s.length := by omega
    have hc := hs.each _ (getD_mem ch0 hi')
    rw [stratN_step hi'] at hE
    have co := odds_ok (s.getD i ch0).odds hc.odds hc.each
    have hol := hc.odds
    repeat (first | refine ax_q (q_move rfl) ?_ | refine ax_q (q_assign rfl) ?_ | refine ax_post_code ?_ | refine ax_seq ?_ | refine ax_region rfl ?_ | refine ax_block ?_ | refine ax_skip ?_ | refine ax_q (q_index_ro' rfl rfl rfl rfl (by first | (simp only [Nat.zero_add, Int.toNat_natCast, Int.toNat_zero]; exact rfl) | exact rfl) (by omega)) ?_ | refine ax_q (q_loadagg_rp rfl rfl rfl rfl rfl rfl) ?_ | refine ax_alloc rfl rfl rfl ?_)
    refine ax_slot_ops 29 (.agg (cellsC (s.getD i ch0))) rfl (AEq.of_eq rfl) ?_
    generalize s.getD i ch0 = x at *
    obtain ⟨nf, od⟩ := x
    simp only at *
    refine ax_storeagg (c' := .box [.int .i64 nf, .ro (.strs od) 0 od.length]) rfl rfl rfl rfl rfl Nat.zero_lt_one rfl rfl (fun i' j' hi' hj' => ?_) ?_
    · rw [if_pos (Nat.lt_one_iff.1 hi')]; rfl
    have hiI : i < I.length := by omega
    have hiZ : i < Z.length := by omega
    repeat (first | refine ax_ops_nil ?_ | refine ax_post_code ?_ | refine ax_seq ?_)
    refine ax_regiond (by kernel_rfl) ?_
    by_cases g1 : nf = I.getD i 0
    case neg =>
      rw [if_pos (.inl g1)] at hE
      rw [hE] at hR
      refine ax_any_run (fuel := 0) [0, 1, 2, 3, 4, 5, 6, 7, 8, 9, 10, 11, 12, 13, 14, 15, 16] [(0, .ro (treeC t) 0 t.length), (7, .ro (.ints .i64 I) 0 I.length), (8, .ro (.ints .i64 Z) 0 Z.length), (23, .ro (strgC s) 0 s.length), (24, .int .i64 (s.length : Nat)), (25, .int .i64 (i : Nat)), (9, .int .i64 (i : Nat)), (10, .ptr 0 0 0)] ⟨rfl, rfl, rfl, rfl, rfl, rfl, rfl, rfl, trivial⟩ (by kernel_rfl) (by decide) rfl rfl ?_
      refine px_q rfl rfl (q_field_ptr rfl rfl rfl rfl rfl rfl) ?_
      refine px_q rfl rfl (q_loadb_ptr rfl rfl rfl rfl rfl) ?_
      refine px_q rfl rfl (q_move rfl) ?_
      refine px_q rfl rfl (q_move rfl) ?_
      refine px_q rfl rfl (q_index_ro' rfl rfl rfl rfl (by first | (simp only [Nat.zero_add, Int.toNat_natCast, Int.toNat_zero]; exact rfl) | exact rfl) (by omega)) ?_
      refine px_q rfl rfl (q_loadi_rp rfl rfl rfl) ?_
      refine px_q rfl rfl (q_neq rfl rfl) ?_
      rw [decide_eq_true g1]
      refine px_q rfl rfl (q_move rfl) ?_
      refine px_gno rfl rfl rfl rfl rfl ?_
      refine px_gno rfl rfl rfl rfl rfl ?_
      refine px_gno rfl rfl rfl rfl rfl ?_
      refine px_gno rfl rfl rfl rfl rfl ?_
      refine px_gno rfl rfl rfl rfl rfl ?_
      refine px_gno rfl rfl rfl rfl rfl ?_
      refine px_gno rfl rfl rfl rfl rfl ?_
      refine px_gno rfl rfl rfl rfl rfl ?_
      refine px_q rfl rfl (q_pick rfl rfl) ?_
      refine px_done ?_
      refine ax_any_done (by kernel_rfl) ?_
      repeat (first | refine ax_q (q_assign rfl) ?_ | refine ax_ops_nil ?_ | refine ax_post_code ?_ | refine ax_seq ?_ | refine ax_region rfl ?_ | refine ax_cond_true rfl ?_ | refine ax_return ?_ | refine ax_ret_code ?_ | refine ax_ret_blk ?_ | refine ax_ret_inv ?_)
      exact ax_ret hR rfl rfl
    refine ax_any_run (fuel := 0) [0, 1, 2, 3, 4, 5, 6, 7, 8, 9, 10, 11, 12, 13, 14, 15, 16] [(0, .ro (treeC t) 0 t.length), (7, .ro (.ints .i64 I) 0 I.length), (8, .ro (.ints .i64 Z) 0 Z.length), (23, .ro (strgC s) 0 s.length), (24, .int .i64 (s.length : Nat)), (25, .int .i64 (i : Nat)), (9, .int .i64 (i : Nat)), (10, .ptr 0 0 0)] ⟨rfl, rfl, rfl, rfl, rfl, rfl, rfl, rfl, trivial⟩ (by kernel_rfl) (by decide) rfl rfl ?_
    refine px_q rfl rfl (q_field_ptr rfl rfl rfl rfl rfl rfl) ?_
    refine px_q rfl rfl (q_loadb_ptr rfl rfl rfl rfl rfl) ?_
    refine px_q rfl rfl (q_move rfl) ?_
    refine px_q rfl rfl (q_move rfl) ?_
    refine px_q rfl rfl (q_index_ro' rfl rfl rfl rfl (by first | (simp only [Nat.zero_add, Int.toNat_natCast, Int.toNat_zero]; exact rfl) | exact rfl) (by omega)) ?_
    refine px_q rfl rfl (q_loadi_rp rfl rfl rfl) ?_
    refine px_q rfl rfl (q_neq rfl rfl) ?_
    rw [decide_eq_false (fun q => q g1)]
    refine px_q rfl rfl (q_move rfl) ?_
    refine px_gq rfl rfl rfl rfl (q_field_ptr rfl rfl rfl rfl rfl rfl) ?_
    refine px_gq rfl rfl rfl rfl (q_loadb_ptr rfl rfl rfl rfl rfl) ?_
    refine px_gq rfl rfl rfl rfl (q_len rfl rfl rfl) ?_
    refine px_gq rfl rfl rfl rfl (q_move rfl) ?_
    refine px_gq rfl rfl rfl rfl (q_move rfl) ?_
    refine px_gq rfl rfl rfl rfl (q_index_ro' rfl rfl rfl rfl (by first | (simp only [Nat.zero_add, Int.toNat_natCast, Int.toNat_zero]; exact rfl) | exact rfl) (by omega)) ?_
    refine px_gq rfl rfl rfl rfl (q_loadi_rp rfl rfl rfl) ?_
    refine px_gq rfl rfl rfl rfl (q_neq rfl rfl) ?_
    refine px_q rfl rfl (q_pick rfl rfl) ?_
    refine px_done ?_
    refine ax_any_done (by kernel_rfl) ?_
    repeat (refine ax_post_code ?_)
    refine ax_cond_dec rfl (fun g2 => ?_) (fun g2 => ?_)
    · rw [if_pos (.inr g2)] at hE
      rw [hE] at hR
      repeat (first | refine ax_q (q_assign rfl) ?_ | refine ax_ops_nil ?_ | refine ax_post_code ?_ | refine ax_seq ?_ | refine ax_region rfl ?_ | refine ax_return ?_ | refine ax_ret_code ?_ | refine ax_ret_blk ?_ | refine ax_ret_inv ?_)
      exact ax_ret hR rfl rfl
    rw [if_neg (by
      rintro (q | q)
      · exact q g1
      · exact g2 q)] at hE
    repeat (first | refine ax_post_code ?_ | refine ax_seq ?_ | refine ax_region rfl ?_ | refine ax_skip ?_ | refine ax_q (q_loadb_ptr rfl rfl rfl rfl rfl) ?_ | refine ax_q (q_field_ptr rfl rfl rfl rfl rfl rfl) ?_)
    refine ax_callv rfl rfl rfl co ?_
    repeat (first | refine ax_q (q_move rfl) ?_ | refine ax_q (q_assign rfl) ?_ | refine ax_ops_nil ?_ | refine ax_post_code ?_ | refine ax_seq ?_ | refine ax_region rfl ?_ | refine ax_q (q_neq rfl rfl) ?_)
    refine ax_cond_dec rfl (fun g3 => ?_) (fun g3 => ?_)
    · rw [if_pos g3] at hE
      rw [hE] at hR
      repeat (first | refine ax_q (q_move rfl) ?_ | refine ax_q (q_assign rfl) ?_ | refine ax_ops_nil ?_ | refine ax_post_code ?_ | refine ax_seq ?_ | refine ax_region rfl ?_ | refine ax_return ?_ | refine ax_ret_code ?_ | refine ax_ret_blk ?_ | refine ax_ret_inv ?_)
      exact ax_ret hR rfl rfl
    rw [if_neg g3] at hE
    repeat (first | refine ax_post_blk ?_ | refine ax_skip ?_)
    refine ax_post_code ?_
    refine ax_cutP [] [some ⟨176, .box [.int .i64 nf, .ro (.strs od) 0 od.length]⟩] [(0, .ro (treeC t) 0 t.length), (7, .ro (.ints .i64 I) 0 I.length), (8, .ro (.ints .i64 Z) 0 Z.length), (23, .ro (strgC s) 0 s.length), (24, .int .i64 (s.length : Nat)), (25, .int .i64 (i : Nat))] rfl ⟨rfl, rfl, rfl, rfl, rfl, rfl, trivial⟩ (fun h hh => by rw [hfix] at hh; exact absurd hh id) (fun h o ho => by simp at ho) rfl ?_
    repeat (first | refine ax_q (q_move rfl) ?_ | refine ax_ops_nil ?_ | refine ax_region rfl ?_ | refine ax_q (q_add rfl rfl (by omega)) ?_)
    exact ax_post_inv ⟨i + 1, ⟨by omega, hE⟩, by omega, ⟨rfl, rfl, rfl, rfl, rfl, rfl, trivial⟩, rfl⟩
  · have hie : i = s.length := by omega
    subst hie
    rw [List.drop_length] at hE
    rw [hE] at hR
    repeat (first | refine ax_q (q_assign rfl) ?_ | refine ax_ops_nil ?_ | refine ax_post_code ?_ | refine ax_seq ?_ | refine ax_region rfl ?_ | refine ax_exit ?_ | refine ax_exit_here ?_ | refine ax_exit_code ?_ | refine ax_exit_inv ?_ | refine ax_return ?_)
    exact ax_ret hR rfl rfl
end Go.Proofs.YtgmleamhjnlknaaGreatDoor

/-
  As ax_any_run: the operations left may hang on the ones that ran through others of them.
-/
namespace Go.Ax
variable [Pins]
open Go.RowKit

/-- Does operation j wait, at last, for operation i? -/
def needs (all : Array Oper) (idx : List Nat) : Nat → Nat → Nat → Bool
  | 0, _, _ => false
  | n + 1, j, i => match all[j]? with
    | some o => o.after.toList.any (fun e => Region.binds .any e && Nat.beq e.on i) || o.after.toList.any (fun e => Region.binds .any e && (idx.contains e.on && needs all idx n e.on i))
    | none => false
theorem getD_done {cur : Array Bool} {i : Nat} (h : cur.getD i false = true) : cur.getD i true = true := by
  have _pin := (inferInstance : Pins)
  unfold Array.getD at h ⊢
  split at h
  · rename_i q
    rw [dif_pos q]; exact h
  · cases h
theorem needs_done {all : Array Oper} {idx : List Nat} {cur : Array Bool} (hcl : ∀ m' ∈ idx, cur.getD m' true = true → ∀ o, all[m']? = some o → ∀ e ∈ o.after, Region.binds .any e = true → cur.getD e.on false = true) :
    ∀ (n j i : Nat), needs all idx n j i = true → (∀ o, all[j]? = some o → ∀ e ∈ o.after, Region.binds .any e = true → cur.getD e.on false = true) → cur.getD i true = true
  | 0, _, _, h, _ => by cases h
  | n + 1, j, i, h, hd => by
    have _pin := (inferInstance : Pins)
    rw [needs] at h
    split at h
    · rename_i o ho
      rw [Bool.or_eq_true] at h
      rcases h with h | h
      · obtain ⟨e, he1, he2⟩ := List.any_eq_true.1 h
        rw [Bool.and_eq_true] at he2
        have h3 := hd o ho e (Array.mem_toList_iff.1 he1) he2.1
        rw [Nat.eq_of_beq_eq_true he2.2] at h3
        exact getD_done h3
      · obtain ⟨e, he1, he2⟩ := List.any_eq_true.1 h
        simp only [Bool.and_eq_true] at he2
        have h3 := getD_done (hd o ho e (Array.mem_toList_iff.1 he1) he2.1)
        have hm : e.on ∈ idx := by simpa using he2.2.1
        exact needs_done hcl n e.on i he2.2.2 (hcl e.on hm h3)
    · cases h
theorem set_done {cur : Array Bool} {i j : Nat} (h : cur.getD j false = true) : (cur.setIfInBounds i true).getD j false = true := by
  have _pin := (inferInstance : Pins)
  simp only [Array.getD_eq_getD_getElem?, Array.getElem?_setIfInBounds] at h ⊢
  split
  · split
    · rfl
    · rename_i h1 h2
      subst h1
      rw [Array.getElem?_eq_none (by omega)] at h
      cases h
  · exact h
theorem clos_step {all : Array Oper} {idx : List Nat} {cur : Array Bool} {i : Nat} (_hi : i ∈ idx) (hcl : ∀ m' ∈ idx, cur.getD m' true = true → ∀ o, all[m']? = some o → ∀ e ∈ o.after, Region.binds .any e = true → cur.getD e.on false = true)
    (hd : ∀ o, all[i]? = some o → ∀ e ∈ o.after, Region.binds .any e = true → cur.getD e.on false = true) :
    ∀ m' ∈ idx, (cur.setIfInBounds i true).getD m' true = true → ∀ o, all[m']? = some o → ∀ e ∈ o.after, Region.binds .any e = true → (cur.setIfInBounds i true).getD e.on false = true := by
  have _pin := (inferInstance : Pins)
  intro m' hm' hu o ho e he hb
  by_cases h : m' = i
  · subst h
    exact set_done (hd o ho e he hb)
  · refine set_done (hcl m' hm' ?_ o ho e he hb)
    have h' : ¬ i = m' := fun q => h q.symm
    simpa [Array.getD_eq_getD_getElem?, Array.getElem?_setIfInBounds, h'] using hu
/-- May these operations run in any order, ahead of all others? -/
def okRunT (all : Array Oper) (listed : Array Bool) (idx : List Nat) (k0 : List Nat) : Bool :=
  (idx.all fun i => !listed.getD i true && (match all[i]? with
    | some o => (match o.dst with | some d => !k0.contains d | none => false) && o.after.toList.all (fun e => !Region.binds .any e || (Nat.blt e.on i && (idx.contains e.on || listed.getD e.on false)))
    | none => false)) &&
  ((List.range all.size).all fun j => idx.contains j || listed.getD j true || idx.all (fun i => needs all idx (idx.length + 1) j i)) &&
  (idx.all fun i => idx.all fun j => Nat.beq i j || !(match all[i]?, all[j]? with | some o, some o' => o.dst == o'.dst | _, _ => false))
section
variable {P : Program} {fn : Func} {c : Ctx} {fr : Fr} {H : AHeap} {k : List It}
theorem ax_any_runT {all : Array Oper} {fuel : Nat} {listed listed' : Array Bool} (idx : List Nat) (K0 : Fr) (hK : knows fr K0) (hok : okRunT all listed idx (K0.map (·.1)) = true) (hnd : idx.Nodup) (hd : dstsOK fn.ntmps all.toList = true) (hl : setAll listed idx = listed')
    (h : PRun P fn c H all K0 idx [] (fun st => Ax P fn c (.any all fuel listed' k) (st.map (·.2) ++ K0) H)) : Ax P fn c (.any all (fuel + idx.length) listed k) fr H := by
  obtain ⟨st, hG, hidx, hst⟩ := prun_steps h (fun s hs => by simp at hs)
  rw [List.map_nil, List.append_nil] at hidx
  clear h
  unfold okRunT at hok
  simp only [Bool.and_eq_true] at hok
  obtain ⟨⟨ok1, ok2⟩, ok3⟩ := hok
  rw [List.all_eq_true] at ok1 ok2 ok3
  have hmem : ∀ i, i ∈ idx ↔ ∃ s ∈ st, s.1 = i := fun i => by
    have : i ∈ idx.reverse ↔ ∃ s ∈ st, s.1 = i := by rw [← hidx]; simp
    rw [← this, List.mem_reverse]
  have hlen : st.length = idx.length := by
    have := congrArg List.length hidx
    simpa using this
  have hnd' : (st.map (·.1)).Nodup := by rw [hidx]; exact (List.reverse_perm idx).nodup_iff.2 hnd
  have hlt : ∀ i ∈ idx, i < listed.size := fun i hi => by
    have := ok1 i hi
    simp only [Bool.and_eq_true, Bool.not_eq_true'] at this
    rcases Nat.lt_or_ge i listed.size with q | q
    · exact q
    · have h1 := this.1
      simp only [Array.getD, show ¬ i < listed.size by omega, dite_false] at h1
      cases h1
  -- the induction
  have key : ∀ (m : Nat) (cur : Array Bool) (fr : Fr), cur.size = listed.size → (∀ j, j ∉ idx → cur[j]? = listed[j]?) → unl cur st = m → (∀ s ∈ st, cur.getD s.1 true = true → look s.2.1 fr = some s.2.2) → knows fr K0 → (∀ m' ∈ idx, cur.getD m' true = true → ∀ o, all[m']? = some o → ∀ e ∈ o.after, Region.binds .any e = true → cur.getD e.on false = true) → Ax P fn c (.any all (fuel + m) cur k) fr H := by
    intro m
    induction m with
    | zero =>
      intro cur fr hcs hco hcm hck hk0 hcl
      have hall : ∀ s ∈ st, cur.getD s.1 true = true := fun s hs => by
        cases hq : cur.getD s.1 true with
        | true => rfl
        | false =>
          exfalso
          have h0 : st.filter (fun s => !cur.getD s.1 true) = [] := List.length_eq_zero_iff.1 hcm
          have : s ∈ st.filter (fun s => !cur.getD s.1 true) := List.mem_filter.2 ⟨hs, by rw [hq]; rfl⟩
          rw [h0] at this; simp at this
      have hcur : cur = listed' := by
        rw [← hl]
        apply Array.ext_getElem?
        intro j
        rcases Nat.lt_or_ge j listed.size with q | q
        · rw [setAll_get idx listed j q]
          by_cases hj : j ∈ idx
          · rw [if_pos hj]
            obtain ⟨s, hs1, hs2⟩ := (hmem j).1 hj
            have := hall s hs1
            rw [hs2] at this
            simp only [Array.getD, show j < cur.size by omega, dite_true] at this
            rw [Array.getElem?_eq_getElem (by omega)]
            exact congrArg some this
          · rw [if_neg hj]; exact hco j hj
        · rw [Array.getElem?_eq_none (by omega), Array.getElem?_eq_none (by rw [setAll_size]; omega)]
      subst hcur
      intro w a σ S hr
      refine hG w a σ S (hr.weaken (knows_of fun p hp => ?_))
      rcases List.mem_append.1 hp with q | q
      · obtain ⟨s, q1, q2⟩ := List.mem_map.1 q
        rw [← q2]; exact hck s q1 (hall s q1)
      · exact of_knows hk0 p q
    | succ m ih =>
      intro cur fr hcs hco hcm hck hk0 hcl
      -- some step is left
      obtain ⟨s0, hs0, hs0u⟩ : ∃ s ∈ st, cur.getD s.1 true = false := by
        rcases hq : st.filter (fun s => !cur.getD s.1 true) with _ | ⟨s, r⟩
        · unfold unl at hcm; rw [hq] at hcm; simp at hcm
        · have : s ∈ st.filter (fun s => !cur.getD s.1 true) := by rw [hq]; simp
          obtain ⟨h1, h2⟩ := List.mem_filter.1 this
          exact ⟨s, h1, by simpa using h2⟩
      have hsub : ∀ i ∈ Region.ready .any all cur, i ∈ idx ∧ cur.getD i true = false := by
        intro i hi
        obtain ⟨h1, o, ho, hdeps⟩ := mem_ready.1 hi
        refine ⟨?_, h1⟩
        apply Classical.byContradiction
        intro hni
        have hjs : i < all.size := (Array.getElem?_eq_some_iff.1 ho).1
        have := ok2 i (List.mem_range.2 hjs)
        simp only [Bool.or_eq_true, ho] at this
        rcases this with (q | q) | q
        · exact hni (by simpa using q)
        · have hco' := hco i hni
          have h2 : listed.getD i true = cur.getD i true := by
            simp only [Array.getD_eq_getD_getElem?, hco']
          rw [h2, h1] at q; cases q
        · rw [List.all_eq_true] at q
          have h3 := needs_done hcl _ i s0.1 (q s0.1 ((hmem s0.1).2 ⟨s0, hs0, rfl⟩)) (fun o' ho' e he hb => by
            rw [ho] at ho'
            obtain rfl := Option.some.inj ho'
            exact hdeps e he hb)
          rw [h3] at hs0u; cases hs0u
      have hne : Region.ready .any all cur ≠ [] := by
        intro h0
        -- the least one that is left
        have hex : ∃ i, i ∈ idx ∧ cur.getD i true = false := ⟨s0.1, (hmem s0.1).2 ⟨s0, hs0, rfl⟩, hs0u⟩
        have least : ∀ n i, i ≤ n → i ∈ idx → cur.getD i true = false → False := by
          intro n
          induction n with
          | zero =>
            intro i hi him hiu
            have h1 := ok1 i him
            simp only [Bool.and_eq_true] at h1
            cases hoo : all[i]? with
            | none => rw [hoo] at h1; exact absurd h1.2 (by simp)
            | some o =>
              rw [hoo] at h1
              simp only [Bool.and_eq_true] at h1
              have h2 := List.all_eq_true.1 h1.2.2
              have : i ∈ Region.ready .any all cur := mem_ready.2 ⟨hiu, o, hoo, fun e he hb => by
                have := h2 e (Array.mem_toList_iff.2 he)
                rw [hb] at this
                simp only [Bool.not_true, Bool.false_or, Bool.and_eq_true] at this
                have := Nat.le_of_ble_eq_true this.1
                omega⟩
              rw [h0] at this; simp at this
          | succ n ihn =>
            intro i hi him hiu
            have h1 := ok1 i him
            simp only [Bool.and_eq_true] at h1
            cases hoo : all[i]? with
            | none => rw [hoo] at h1; exact absurd h1.2 (by simp)
            | some o =>
              rw [hoo] at h1
              simp only [Bool.and_eq_true] at h1
              have h2 := List.all_eq_true.1 h1.2.2
              have : i ∈ Region.ready .any all cur := mem_ready.2 ⟨hiu, o, hoo, fun e he hb => by
                have h3 := h2 e (Array.mem_toList_iff.2 he)
                rw [hb] at h3
                simp only [Bool.not_true, Bool.false_or, Bool.and_eq_true, Bool.or_eq_true] at h3
                have hlt' : e.on < i := Nat.le_of_ble_eq_true h3.1
                by_cases hei : e.on ∈ idx
                · cases hq : cur.getD e.on true with
                  | false => exact (ihn e.on (by omega) hei hq).elim
                  | true =>
                    have hsz := hlt e.on hei
                    simp only [Array.getD, show e.on < cur.size by omega, dite_true] at hq ⊢
                    exact hq
                · rcases h3.2 with q | q
                  · exact absurd (by simpa using q) hei
                  · have h2 : cur.getD e.on false = listed.getD e.on false := by simp only [Array.getD_eq_getD_getElem?, hco e.on hei]
                    rw [h2]; exact q⟩
              rw [h0] at this; simp at this
        obtain ⟨i, hi1, hi2⟩ := hex
        exact least i i (Nat.le_refl _) hi1 hi2
      refine ax_any_step rfl hne hd (allR_of (fun i hi o ho => ?_))
      obtain ⟨him, hiu⟩ := hsub i hi
      obtain ⟨s, hs1, hs2⟩ := (hmem i).1 him
      obtain ⟨o', K, g1, g2, g3, g4⟩ := hst s hs1
      rw [hs2, ho] at g1
      obtain rfl := Option.some.inj g1
      obtain ⟨_, o2, ho2, hdeps⟩ := mem_ready.1 hi
      rw [ho] at ho2
      obtain rfl := Option.some.inj ho2
      refine g3 _ fr (knows_of fun p hp => ?_) (ax_ops_nil (ax_post_any ?_))
      · rcases g4 p hp with q | ⟨s', q1, ⟨e, q2, q3, q4⟩, q5⟩
        · exact of_knows hk0 p q
        · have h1 := hdeps e q2 q3
          rw [q4] at h1
          rw [← q5]
          refine hck s' q1 ?_
          have hsz := hlt s'.1 ((hmem s'.1).2 ⟨s', q1, rfl⟩)
          simp only [Array.getD, show s'.1 < cur.size by omega, dite_true] at h1 ⊢
          exact h1
      · have hisz := hlt i him
        refine ih (cur.setIfInBounds i true) _ (by simpa using hcs) (fun j hj => ?_) ?_ (fun s' hs' hu => ?_) ?_ (clos_step him hcl (fun o' ho' e he hb => by rw [ho] at ho'; obtain rfl := Option.some.inj ho'; exact hdeps e he hb))
        · rw [Array.getElem?_setIfInBounds_ne (show i ≠ j from fun e => hj (e ▸ him))]; exact hco j hj
        · -- one less
          have hf : st.filter (fun s' => !(cur.setIfInBounds i true).getD s'.1 true) = (st.filter (fun s' => !cur.getD s'.1 true)).filter (fun s' => decide (s'.1 ≠ i)) := by
            rw [List.filter_filter]
            congr 1
            funext s'
            by_cases hq : s'.1 = i
            · rw [hq]; simp [Array.getD, show i < cur.size by omega]
            · have hq' : ¬ i = s'.1 := fun e => hq e.symm
              simp [Array.getD_eq_getD_getElem?, Array.getElem?_setIfInBounds, hq, hq']
          unfold unl at hcm ⊢
          rw [hf]
          have hmemf : s ∈ st.filter (fun s' => !cur.getD s'.1 true) := List.mem_filter.2 ⟨hs1, by rw [hs2, hiu]; rfl⟩
          have hndf : ((st.filter (fun s' => !cur.getD s'.1 true)).map (·.1)).Nodup := List.Nodup.sublist (List.Sublist.map _ List.filter_sublist) hnd'
          revert hcm hmemf hndf
          generalize st.filter (fun s' => !cur.getD s'.1 true) = L
          intro hcm hmemf hndf
          have gen : ∀ (L : Steps) (n : Nat), L.length = n + 1 → s ∈ L → (L.map (·.1)).Nodup → (L.filter (fun s' => decide (s'.1 ≠ i))).length = n := by
            intro L
            induction L with
            | nil => intro n h; simp at h
            | cons x r ihL =>
              intro n hn hm hnd
              simp only [List.map_cons, List.nodup_cons] at hnd
              rcases List.mem_cons.1 hm with rfl | hm
              · have hno : ∀ y ∈ r, y.1 ≠ i := fun y hy e => hnd.1 (List.mem_map.2 ⟨y, hy, by rw [e, hs2]⟩)
                have : (r.filter (fun s' => decide (s'.1 ≠ i))) = r := List.filter_eq_self.2 (fun y hy => by simpa using hno y hy)
                rw [List.filter_cons_of_neg (by simp [hs2]), this]
                simpa using hn
              · have hx : x.1 ≠ i := fun e => hnd.1 (List.mem_map.2 ⟨s, hm, by rw [hs2, e]⟩)
                have hr0 : 0 < r.length := List.length_pos_iff.2 (by rintro rfl; simp at hm)
                obtain ⟨n', rfl⟩ : ∃ n', n = n' + 1 := ⟨n - 1, by simp at hn; omega⟩
                rw [List.filter_cons_of_pos (by simpa using hx), List.length_cons, ihL n' (by simpa using hn) hm hnd.2]
          exact gen L m hcm hmemf hndf
        · by_cases hq : s'.1 = i
          · have : s' = s := by
              have h1 : s ∈ st := hs1
              have hinj : ∀ (L : Steps), (L.map (·.1)).Nodup → ∀ x ∈ L, ∀ y ∈ L, x.1 = y.1 → x = y := by
                intro L
                induction L with
                | nil => intro _ x hx; simp at hx
                | cons z r ihL =>
                  intro hnd x hx y hy hxy
                  simp only [List.map_cons, List.nodup_cons] at hnd
                  rcases List.mem_cons.1 hx with hx | hx <;> rcases List.mem_cons.1 hy with hy | hy
                  · rw [hx, hy]
                  · exact absurd (List.mem_map.2 ⟨y, hy, by rw [← hxy, hx]⟩) hnd.1
                  · exact absurd (List.mem_map.2 ⟨x, hx, by rw [hxy, hy]⟩) hnd.1
                  · exact ihL hnd.2 x hx y hy hxy
              exact hinj st hnd' s' hs' s hs1 (by rw [hq, hs2])
            rw [this]
            exact look_it _ _ _
          · have h1 : cur.getD s'.1 true = true := by
              have hq' : ¬ i = s'.1 := fun e => hq e.symm
              simpa [Array.getD_eq_getD_getElem?, Array.getElem?_setIfInBounds, hq'] using hu
            have h2 := hck s' hs' h1
            -- another slot
            have hne2 : s'.2.1 ≠ s.2.1 := by
              intro e
              obtain ⟨o3, _, f1, f2, _, _⟩ := hst s' hs'
              have h3 := List.all_eq_true.1 (ok3 s'.1 ((hmem s'.1).2 ⟨s', hs', rfl⟩)) i him
              rw [f1, ho] at h3
              simp only [Bool.or_eq_true, Bool.not_eq_true', f2, g2] at h3
              rcases h3 with h3 | h3
              · exact hq (Nat.eq_of_beq_eq_true h3)
              · rw [e] at h3; simp at h3
            show (bif Nat.beq s'.2.1 s.2.1 then some s.2.2 else look s'.2.1 fr) = _
            rw [beq_ne hne2]; exact h2
        · refine knows_of fun p hp => ?_
          have h1 := ok1 i him
          simp only [Bool.and_eq_true] at h1
          rw [ho] at h1
          simp only [g2, Bool.and_eq_true, Bool.not_eq_true'] at h1
          have hne3 : p.1 ≠ s.2.1 := by
            intro e
            have : (K0.map (·.1)).contains s.2.1 = true := by
              rw [List.contains_iff_mem]
              exact List.mem_map.2 ⟨p, hp, e⟩
            rw [h1.2.1] at this; cases this
          show (bif Nat.beq p.1 s.2.1 then some s.2.2 else look p.1 fr) = _
          rw [beq_ne hne3]; exact of_knows hk0 p hp
  have hm0 : unl listed st = idx.length := by
    unfold unl
    rw [List.filter_eq_self.2 (fun s hs => ?_), hlen]
    have := ok1 s.1 ((hmem s.1).2 ⟨s, hs, rfl⟩)
    simp only [Bool.and_eq_true] at this
    exact this.1
  have := key idx.length listed fr rfl (fun _ _ => rfl) hm0 (fun s hs hu => by
    have h1 := ok1 s.1 ((hmem s.1).2 ⟨s, hs, rfl⟩)
    simp only [Bool.and_eq_true, Bool.not_eq_true'] at h1
    rw [h1.1] at hu; cases hu) hK (fun m' hm' hu => by
    have h1 := ok1 m' hm'
    simp only [Bool.and_eq_true, Bool.not_eq_true'] at h1
    rw [h1.1] at hu; cases hu)
  exact this
/-- A constant of which nothing is said (a map that is nil). -/
theorem q_assign_any {ind : Bool} {d : Option Nat} {ty : TypeId} {pos : String} {after : Array Edge} {g : Option (Nat × Bool)} {x : Operand} : QOp ind P fn c fr H ⟨d, .assign x, ty, pos, after, g⟩ .any :=
  fun _ a _ _ _ => ⟨a.eval x, .any _ _, fun _ _ => rfl⟩
end
end Go.Ax

namespace Go.Proofs.YtgmleamhjnlknaaGreatDoor
open Go.Ax Go.Ax.Bg Go.Ax.Rt Go.RowKit Go.Ax.Idx Go.Ax.Cd
attribute [local irreducible] Ax Post QOp ACall PureOp
set_option maxRecDepth 100000
set_option maxHeartbeats 4000000

def keyC (c : TChoice) : AV := .int .i64 c.info
def valC (c : TChoice) : AV := .ro (qsC (c.odds.map ratV)) 0 (c.odds.map ratV).length
abbrev oddC (s : Strg) : Cells := .mp (s.map keyC) (s.map valC)
theorem keysC (s : Strg) : ∀ x ∈ s.map keyC, keyOK (.int .i64) x = true := by
  intro x hx
  obtain ⟨e, _, rfl⟩ := List.mem_map.1 hx
  rfl
theorem below_odd (s : Strg) (n : Nat) : belowP n (oddC s) := by
  exact ⟨belows_map (fun _ => rfl) s, belows_map (fun _ => rfl) s⟩
theorem refless_odd (s : Strg) : refless (oddC s) := ⟨norefs_map (fun _ => rfl) s, norefs_map (fun _ => rfl) s⟩
theorem odds_ok' (s : Strg) (hs : ShortS s) (hn : (s.map TChoice.info).Nodup) (hv : ∀ c ∈ s, c.odds.length ≤ 256 ∧ ∀ r ∈ c.odds, ratE r = 0) : VCall Tryz.prog 117 [.ro (strgC s) 0 s.length] (.rom (s.map keyC) (s.map valC)) := by
  have hsl := hs.len
  refine ACall.value (K := fun r H => r = .mp 0 ∧ H = [some ⟨171, oddC s⟩]) (acall_of_ax (P := Tryz.prog) (fn := Tryz.f117) rfl rfl (by kernel_rfl) rfl (fun c hR hfix => ?_)) (fix := fun _ => False) (fun _ h => h) rfl ?_
  · repeat (first | refine ax_seq ?_ | refine ax_region rfl ?_)
    refine ax_q q_assign_any ?_
    repeat (first | refine ax_ops_nil ?_ | refine ax_post_code ?_ | refine ax_seq ?_ | refine ax_region rfl ?_)
    refine ax_makemap ?_
    repeat (first | refine ax_q (q_move rfl) ?_ | refine ax_q (q_assign rfl) ?_ | refine ax_ops_nil ?_ | refine ax_post_code ?_ | refine ax_seq ?_ | refine ax_region rfl ?_ | refine ax_block ?_ | refine ax_q (q_len rfl rfl rfl) ?_)
    refine ax_loop (ι := Nat) (fun i => [(3, .mp 0), (7, .ro (strgC s) 0 s.length), (8, .int .i64 (s.length : Nat)), (9, .int .i64 (i : Nat))]) (fun i => [some ⟨171, oddC (s.take i)⟩])
      (fun i => i ≤ s.length) (fun i => s.length - i) 0 ⟨⟨rfl, rfl, rfl, rfl, trivial⟩, rfl, Nat.zero_le _⟩ ?_
    intro i hi
    repeat (first | refine ax_ops_nil ?_ | refine ax_post_code ?_ | refine ax_seq ?_ | refine ax_region rfl ?_ | refine ax_q (q_lss rfl rfl) ?_)
    refine ax_cond_dec rfl (fun h => ?_) (fun h => ?_)
    · have hi' : i < s.length := by omega
      have hm := getD_mem ch0 hi'
      have hc := hs.each _ hm
      obtain ⟨v1, v2⟩ := hv _ hm
      have cin := in_ok' (s.getD i ch0).odds (by omega) (fun r hr => ⟨hc.each r hr, v2 r hr⟩)
      have hol := hc.odds
      have htk : s.take (i + 1) = s.take i ++ [s.getD i ch0] := by rw [List.take_succ_eq_append_getElem hi', get_el ch0 hi']
      have hnew : AV.int .i64 (s.getD i ch0).info ∉ (s.take i).map keyC := by
        intro hmem
        obtain ⟨c, hc1, hc2⟩ := List.mem_map.1 hmem
        injection hc2 with e1 e2
        obtain ⟨j, hj, rfl⟩ := List.getElem_of_mem hc1
        rw [List.length_take] at hj
        rw [List.getElem_take] at e2
        have hp := List.pairwise_iff_getElem.1 hn j i (by simpa using (show j < s.length by omega)) (by simpa using hi') (by omega)
        rw [List.getElem_map, List.getElem_map] at hp
        rw [get_el ch0 hi'] at e2
        exact hp e2
      repeat (first | refine ax_post_code ?_ | refine ax_seq ?_ | refine ax_region rfl ?_ | refine ax_block ?_ | refine ax_skip ?_ | refine ax_q (q_index_ro' rfl rfl rfl rfl (by first | (simp only [Nat.zero_add, Int.toNat_natCast, Int.toNat_zero]; exact rfl) | exact rfl) (by omega)) ?_ | refine ax_q (q_loadagg_rp rfl rfl rfl rfl rfl rfl) ?_ | refine ax_alloc rfl rfl rfl ?_)
      refine ax_slot_ops 12 (.agg (cellsC (s.getD i ch0))) rfl (AEq.of_eq rfl) ?_
      generalize s.getD i ch0 = x at *
      obtain ⟨nf, od⟩ := x
      simp only at *
      refine ax_storeagg (c' := .box [.int .i64 nf, .ro (.strs od) 0 od.length]) rfl rfl rfl rfl rfl Nat.zero_lt_one rfl rfl (fun i' j' hi' hj' => ?_) ?_
      · rw [if_pos (Nat.lt_one_iff.1 hi')]; rfl
      repeat (first | refine ax_ops_nil ?_ | refine ax_post_code ?_)
      refine ax_regiond (by kernel_rfl) ?_
      refine ax_any_run (fuel := 1) [0, 1, 2, 3, 4, 5] [(3, .mp 0), (5, .ptr 1 0 0), (7, .ro (strgC s) 0 s.length), (8, .int .i64 (s.length : Nat)), (9, .int .i64 (i : Nat))] ⟨rfl, rfl, rfl, rfl, rfl, trivial⟩ (by kernel_rfl) (by decide) rfl rfl ?_
      refine px_q rfl rfl (q_move rfl) ?_
      refine px_q rfl rfl (q_field_ptr rfl rfl rfl rfl rfl rfl) ?_
      refine px_q rfl rfl (q_loadb_ptr rfl rfl rfl rfl rfl) ?_
      refine px_q rfl rfl (q_field_ptr rfl rfl rfl rfl rfl rfl) ?_
      refine px_q rfl rfl (q_loadb_ptr rfl rfl rfl rfl rfl) ?_
      refine px_v rfl rfl rfl rfl rfl cin ?_
      refine px_done ?_
      refine ax_any_step (is := [6]) (by kernel_rfl) (by simp) rfl ⟨fun o ho => ?_, trivial⟩
      all_goals (cases ho)
      refine ax_mapset_miss rfl (.int rfl) rfl rfl rfl rfl rfl (keysC _) hnew ?_
      repeat (first | refine ax_ops_nil ?_ | refine ax_post_any ?_)
      refine ax_any_done (by kernel_rfl) ?_
      repeat (refine ax_post_blk ?_)
      refine ax_post_code ?_
      refine ax_heap_eq [some ⟨171, oddC (s.take (i + 1))⟩, some ⟨176, .box [.int .i64 nf, .ro (.strs od) 0 od.length]⟩] (by rw [htk]; unfold oddC; rw [List.map_append, List.map_append]; rfl) ?_
      refine ax_cutP [some ⟨171, oddC (s.take (i + 1))⟩] [some ⟨176, .box [.int .i64 nf, .ro (.strs od) 0 od.length]⟩] [(3, .mp 0), (7, .ro (strgC s) 0 s.length), (8, .int .i64 (s.length : Nat)), (9, .int .i64 (i : Nat))] rfl ⟨rfl, rfl, rfl, rfl, trivial⟩ (fun h hh => by rw [hfix] at hh; exact absurd hh id) (below1 (below_odd _ _)) rfl ?_
      repeat (first | refine ax_q (q_move rfl) ?_ | refine ax_ops_nil ?_ | refine ax_region rfl ?_ | refine ax_q (q_add rfl rfl (by omega)) ?_)
      exact ax_post_inv ⟨i + 1, by omega, by omega, ⟨rfl, rfl, rfl, rfl, trivial⟩, rfl⟩
    · have hie : i = s.length := by omega
      subst hie
      rw [List.take_length]
      repeat (first | refine ax_q (q_move rfl) ?_ | refine ax_q (q_assign rfl) ?_ | refine ax_ops_nil ?_ | refine ax_post_code ?_ | refine ax_seq ?_ | refine ax_region rfl ?_ | refine ax_exit ?_ | refine ax_exit_here ?_ | refine ax_exit_code ?_ | refine ax_exit_inv ?_ | refine ax_return ?_)
      exact ax_ret hR rfl ⟨rfl, rfl⟩
  · rintro r H ⟨rfl, rfl⟩
    exact ⟨rfl, trivial, fun h o ho => refl1 (refless_odd s) h o ho⟩
end Go.Proofs.YtgmleamhjnlknaaGreatDoor

namespace Go.Proofs.YtgmleamhjnlknaaGreatDoor
open Go.Ax Go.Ax.Bg Go.Ax.Rt Go.RowKit Go.Ax.Idx Go.Ax.Cd
attribute [local irreducible] Ax Post QOp ACall PureOp
set_option maxRecDepth 100000
set_option maxHeartbeats 4000000

theorem choice_at {s : Strg} {c : TChoice} (hc : c ∈ s) : ∃ j : Nat, (s.map keyC)[j]? = some (.int .i64 c.info) ∧ (s.map valC)[j]? = some (.ro (qsC (c.odds.map ratV)) 0 (c.odds.map ratV).length) := by
  obtain ⟨j, hj⟩ := List.getElem?_of_mem hc
  exact ⟨j, by rw [List.getElem?_map, hj]; rfl, by rw [List.getElem?_map, hj]; rfl⟩
theorem below_qs (l : List Rat) (n : Nat) : belowP n (qsC l) := by
  intro i j _ hj
  have hj : j < 3 := hj
  match j, hj with
  | 0, _ => rfl
  | 1, _ => rfl
  | 2, _ => rfl
theorem plan_ok (t : Tree) (p : Int) (s : Strg) (hT : ShortT t) (hs : ShortS s) : VCall Tryz.prog 48 [.ro (treeC t) 0 t.length, .int .i64 p, .ro (strgC s) 0 s.length] (vecP (planR t p s)) := by
  have cc := rcl_ok t p hT
  have cst := strategy_ok t p s hT.len hs
  refine ACall.value0 (acall_of_ax (P := Tryz.prog) (fn := Tryz.f48) rfl rfl (by kernel_rfl) rfl (fun c hR hfix => ?_)) (fix := fun _ => False) (fun _ h => h) rfl rfl
  unfold planR at hR
  repeat (first | refine ax_q (q_move rfl) ?_ | refine ax_q (q_assign rfl) ?_ | refine ax_ops_nil ?_ | refine ax_post_code ?_ | refine ax_seq ?_ | refine ax_region rfl ?_)
  refine ax_callv rfl rfl rfl cc ?_
  repeat (first | refine ax_q (q_move rfl) ?_ | refine ax_q (q_assign rfl) ?_ | refine ax_ops_nil ?_ | refine ax_post_code ?_ | refine ax_seq ?_ | refine ax_region rfl ?_ | refine ax_q (q_neq rfl rfl) ?_)
  refine ax_cond_dec rfl (fun h1 => ?_) (fun h1 => ?_)
  · rw [if_pos h1] at hR
    repeat (first | refine ax_q (q_move rfl) ?_ | refine ax_q (q_assign rfl) ?_ | refine ax_ops_nil ?_ | refine ax_post_code ?_ | refine ax_seq ?_ | refine ax_region rfl ?_)
    refine ax_slot 6 (.ro (.strs []) 0 0) rfl AEq.nil ?_
    repeat (first | refine ax_return ?_ | refine ax_ret_code ?_)
    exact ax_ret hR rfl rfl
  rw [if_neg h1] at hR
  obtain ⟨hv, hpf, _⟩ := plan_valid (Classical.not_not.1 h1)
  repeat (first | refine ax_q (q_move rfl) ?_ | refine ax_post_code ?_ | refine ax_seq ?_ | refine ax_region rfl ?_ | refine ax_skip ?_)
  refine ax_callv rfl rfl rfl cst ?_
  repeat (first | refine ax_q (q_move rfl) ?_ | refine ax_q (q_assign rfl) ?_ | refine ax_ops_nil ?_ | refine ax_post_code ?_ | refine ax_seq ?_ | refine ax_region rfl ?_ | refine ax_q (q_neq rfl rfl) ?_)
  refine ax_cond_dec rfl (fun h2 => ?_) (fun h2 => ?_)
  · rw [if_pos h2] at hR
    repeat (first | refine ax_q (q_move rfl) ?_ | refine ax_q (q_assign rfl) ?_ | refine ax_ops_nil ?_ | refine ax_post_code ?_ | refine ax_seq ?_ | refine ax_region rfl ?_)
    refine ax_slot 6 (.ro (.strs []) 0 0) rfl AEq.nil ?_
    repeat (first | refine ax_return ?_ | refine ax_ret_code ?_)
    exact ax_ret hR rfl rfl
  rw [if_neg h2] at hR
  have hO := strat_zero (Classical.not_not.1 h2)
  have hSt := hO.strat
  have hn : (s.map TChoice.info).Nodup := by rw [hO.infos]; exact infos_nodup t p
  have co := odds_ok' s hs hn (fun c hc => ⟨(odds_zero (hO.odds c hc)).1, (odds_zero (hO.odds c hc)).2.1⟩)
  have cof := of_ok t p hT hv
  have hfew := seqs_few hv p
  have hpD := plan_D hv hSt
  have hpl : (planOf t p (oddsQ s)).length = (seqsOf t p).length := planN_len _ _ _
  repeat (first | refine ax_q (q_move rfl) ?_ | refine ax_post_code ?_ | refine ax_seq ?_ | refine ax_region rfl ?_ | refine ax_skip ?_)
  refine ax_callv rfl rfl rfl co ?_
  repeat (first | refine ax_q (q_move rfl) ?_ | refine ax_q (q_assign rfl) ?_ | refine ax_ops_nil ?_ | refine ax_post_code ?_ | refine ax_seq ?_ | refine ax_region rfl ?_)
  refine ax_callc rfl rfl rfl cof (fun h hh => absurd hh (Nat.not_lt_zero _)) (fun h hh => absurd hh id) ?_
  rintro r' H' ⟨rfl, rfl⟩
  repeat (first | refine ax_q (q_move rfl) ?_ | refine ax_ops_nil ?_ | refine ax_post_code ?_ | refine ax_q (q_loadb_ptr rfl rfl rfl rfl rfl) ?_ | refine ax_q (q_len rfl rfl rfl) ?_ | refine ax_q (q_nilcheck_ptr rfl) ?_ | refine ax_q (q_field_ptr rfl rfl rfl rfl rfl rfl) ?_)
  refine ax_give_code 0 34 (seqsOf t p).length [(10, .rom (s.map keyC) (s.map valC)), (11, .nil), (35, .int .i64 ((seqsOf t p).length : Nat)), (36, .int .i64 0)] rfl (refless_seqs _) rfl (by show (formN t p t.length).seqs.length ≤ (formN t p t.length).seqs.length; exact Nat.le_refl _) ⟨rfl, rfl, rfl, rfl, trivial⟩ ?_
  refine ax_cutP [] _ [(10, .rom (s.map keyC) (s.map valC)), (11, .nil), (34, .ro (seqsC (seqsOf t p)) 0 (seqsOf t p).length), (35, .int .i64 ((seqsOf t p).length : Nat)), (36, .int .i64 0)] rfl ⟨rfl, rfl, rfl, rfl, rfl, trivial⟩ (fun h hh => by rw [hfix] at hh; exact absurd hh id) (fun h o ho => by simp at ho) rfl ?_
  refine ax_nilobj 11 ⟨108, qsC (planN (seqsOf t p) (oddsQ s) 0)⟩ rfl rfl ?_
  repeat (refine ax_block ?_)
  refine ax_loop (ι := Nat) (fun k => [(10, .rom (s.map keyC) (s.map valC)), (11, .sl 0 0 k), (34, .ro (seqsC (seqsOf t p)) 0 (seqsOf t p).length), (35, .int .i64 ((seqsOf t p).length : Nat)), (36, .int .i64 (k : Nat))]) (fun k => [some ⟨108, qsC (planN (seqsOf t p) (oddsQ s) k)⟩])
    (fun k => k ≤ (seqsOf t p).length) (fun k => (seqsOf t p).length - k) 0 ⟨⟨rfl, rfl, rfl, rfl, rfl, trivial⟩, rfl, Nat.zero_le _⟩ ?_
  intro k hk
  repeat (first | refine ax_ops_nil ?_ | refine ax_post_code ?_ | refine ax_seq ?_ | refine ax_region rfl ?_ | refine ax_q (q_lss rfl rfl) ?_)
  refine ax_cond_dec rfl (fun h => ?_) (fun h => ?_)
  · have hk' : k < (seqsOf t p).length := by omega
    have hpn : planN (seqsOf t p) (oddsQ s) (k + 1) = planN (seqsOf t p) (oddsQ s) k ++ [planStep (oddsQ s) ((seqsOf t p).getD k seq0) (planN (seqsOf t p) (oddsQ s) k)] := rfl
    have hml : (planN (seqsOf t p) (oddsQ s) k).length = k := planN_len _ _ _
    have hstay : ∀ b, b < k → (planN (seqsOf t p) (oddsQ s) k).getD b 0 = (planOf t p (oddsQ s)).getD b 0 := fun b hb => planN_stay _ _ hb (by omega)
    have hat := fun (h1 : 1 ≤ k) => seq_at hv h1 hk'
    have h00 := (numbers hv p).2.1
    generalize hP2 : planN (seqsOf t p) (oddsQ s) (k + 1) = P2 at *
    generalize planN (seqsOf t p) (oddsQ s) k = P at *
    repeat (first | refine ax_post_code ?_ | refine ax_seq ?_ | refine ax_region rfl ?_ | refine ax_block ?_ | refine ax_skip ?_ | refine ax_q (q_index_ro' rfl rfl rfl rfl (by first | (simp only [Nat.zero_add, Int.toNat_natCast, Int.toNat_zero]; exact rfl) | exact rfl) (by omega)) ?_ | refine ax_q (q_loadagg_rp rfl rfl rfl rfl rfl rfl) ?_ | refine ax_alloc rfl rfl rfl ?_)
    refine ax_slot_ops 39 (.agg (cellsS ((seqsOf t p).getD k seq0))) rfl (AEq.of_eq rfl) ?_
    by_cases hk0 : k = 0
    · subst hk0
      rw [h00] at hpn
      have hpn : P2 = P ++ [1] := hpn
      refine ax_slot_ops 39 (.agg (cellsS seq0)) rfl (AEq.of_eq (by rw [h00])) ?_
      refine ax_storeagg (c' := .box [.int .i64 (-1), .int .i64 (-1), .int .i64 (-1)]) rfl rfl rfl rfl rfl Nat.zero_lt_one rfl rfl (fun i' j' hi' hj' => ?_) ?_
      · rw [if_pos (Nat.lt_one_iff.1 hi')]; rfl
      repeat (first | refine ax_q (q_move rfl) ?_ | refine ax_ops_nil ?_ | refine ax_post_code ?_ | refine ax_seq ?_ | refine ax_region rfl ?_ | refine ax_cond_true rfl ?_ | refine ax_q (q_loadb_ptr rfl rfl rfl rfl rfl) ?_ | refine ax_q (q_lss rfl rfl) ?_ | refine ax_q (q_field_ptr rfl rfl rfl rfl rfl rfl) ?_)
      refine ax_callv rfl rfl rfl of_one ?_
      unfold qA
      repeat (refine ax_buildSliceRo rfl rfl rfl rfl rfl rfl rfl rfl rfl rfl rfl ?_)
      refine ax_append rfl rfl rfl rfl rfl rfl rfl rfl rfl hml rfl rfl (by show 0 + 1 ≤ 1; omega) rfl (by show (0 + 1) * 56 ≤ _ ∧ _; omega) ?_ (by rw [hfix]; exact fun h => h) ?_
      · intro i' j hi hj
        exact rowE_noref 0 3 cellsQ cellsQ_noref P 1 _ (rowQ1 _) 0 i' j hi hj
      refine ax_heap_ops [some ⟨108, qsC P2⟩, some ⟨80, .box [.int .i64 (-1), .int .i64 (-1), .int .i64 (-1)]⟩] ?_ ?_
      · rw [hpn]
        exact HSub.eqv (rowE_snoc 0 3 cellsQ P 1 _ (rowQ1 _)) (HSub.eqv (CEq.refl _) HSub.nil)
      repeat (first | refine ax_q (q_assign rfl) ?_ | refine ax_ops_nil ?_ | refine ax_post_blk ?_)
      refine ax_post_code ?_
      refine ax_cutP [some ⟨108, qsC P2⟩] [some ⟨80, .box [.int .i64 (-1), .int .i64 (-1), .int .i64 (-1)]⟩] [(10, .rom (s.map keyC) (s.map valC)), (11, .sl 0 0 1), (34, .ro (seqsC (seqsOf t p)) 0 (seqsOf t p).length), (35, .int .i64 ((seqsOf t p).length : Nat)), (36, .int .i64 (0 : Nat))] rfl ⟨rfl, rfl, rfl, rfl, rfl, trivial⟩ (fun h hh => by rw [hfix] at hh; exact absurd hh id) (below1 (below_qs _ _)) rfl ?_
      repeat (first | refine ax_q (q_move rfl) ?_ | refine ax_ops_nil ?_ | refine ax_region rfl ?_ | refine ax_q (q_add rfl rfl (by omega)) ?_)
      exact ax_post_inv ⟨1, by omega, by omega, ⟨rfl, rfl, rfl, rfl, rfl, trivial⟩, by rw [hP2]⟩
    · obtain ⟨x, b, x0, x1, x2, x3, x4, x5, x6, x7⟩ := hat (by omega)
      have hs1 := x7 (k - x.2) (by omega)
      rw [show x.2 + (k - x.2) = k by omega] at hs1
      rw [hs1] at hpn
      obtain ⟨ch, c1, c2, c3, c4, c5⟩ := hO.at' x1
      obtain ⟨jj, i1, i2⟩ := choice_at c1
      rw [c2] at i1
      have hbk : b < P.length := by omega
      have hcl : k - x.2 < (ch.odds.map ratV).length := by rw [List.length_map]; omega
      have hpn : P2 = P ++ [P.getD b 0 * (ch.odds.map ratV).getD (k - x.2) 0] := by
        rw [hpn]
        unfold planStep
        simp only
        rw [if_neg (by omega), Int.toNat_natCast, Int.toNat_natCast, c3]
      have cmul := qmul_ok (P.getD b 0) ((ch.odds.map ratV).getD (k - x.2) 0) (by
        rw [hstay b (by omega)]
        refine sz_D ((hpD b (by omega)).mono ?_)
        have : 2000 * b ≤ 2000 * 61 := Nat.mul_le_mul_left _ (by omega)
        omega) (sz_D (((odds_zero c5).2.2.2 _ (get_in 0 hcl)).2.mono (by omega)))
      generalize hS : ch.odds.map ratV = O at *
      refine ax_slot_ops 39 (.agg (cellsS ⟨x.1, ((k - x.2 : Nat) : Int), (b : Int)⟩)) rfl (AEq.of_eq (by rw [hs1])) ?_
      refine ax_storeagg (c' := .box [.int .i64 x.1, .int .i64 (k - x.2 : Nat), .int .i64 (b : Nat)]) rfl rfl rfl rfl rfl Nat.zero_lt_one rfl rfl (fun i' j' hi' hj' => ?_) ?_
      · rw [if_pos (Nat.lt_one_iff.1 hi')]; rfl
      repeat (first | refine ax_ops_nil ?_ | refine ax_post_code ?_ | refine ax_seq ?_ | refine ax_region rfl ?_ | refine ax_cond_false rfl ?_ | refine ax_q (q_loadb_ptr rfl rfl rfl rfl rfl) ?_ | refine ax_q (q_lss rfl rfl) ?_ | refine ax_q (q_field_ptr rfl rfl rfl rfl rfl rfl) ?_)
      refine ax_heap_eq [some ⟨108, qsC P⟩, some ⟨80, .box [.int .i64 x.1, .int .i64 (k - x.2 : Nat), .int .i64 (b : Nat)]⟩] rfl ?_
      refine ax_slot 13 (.ptr 1 0 0) rfl (AEq.of_eq rfl) ?_
      refine ax_regiond (by kernel_rfl) ?_
      refine ax_any_q 0 rfl (by kernel_rfl) (by kernel_rfl) (by kernel_rfl) rfl (q_move rfl) rfl ?_
      refine ax_any_runT (fuel := 3) [1, 2, 3, 4, 5, 6, 7, 8, 9, 10, 11, 12, 13, 14] [(10, .rom (s.map keyC) (s.map valC)), (11, .sl 0 0 k), (13, .ptr 1 0 0), (34, .ro (seqsC (seqsOf t p)) 0 (seqsOf t p).length), (35, .int .i64 ((seqsOf t p).length : Nat)), (36, .int .i64 (k : Nat)), (47, .sl 0 0 k)] ⟨rfl, rfl, rfl, rfl, rfl, rfl, rfl, trivial⟩ (by kernel_rfl) (by decide) rfl rfl ?_
      refine px_q rfl rfl (q_move rfl) ?_
      refine px_q rfl rfl (q_field_ptr rfl rfl rfl rfl rfl rfl) ?_
      refine px_q rfl rfl (q_loadb_ptr rfl rfl rfl rfl rfl) ?_
      refine px_q rfl rfl (q_index_sl' rfl rfl rfl rfl rfl (by first | (simp only [Nat.zero_add, Int.toNat_natCast, Int.toNat_zero]; exact rfl) | exact rfl) (by omega)) ?_
      refine px_q rfl rfl (q_loadpart_ptr rfl rfl rfl rfl rfl rfl rfl (by first | exact Nat.zero_lt_one | assumption | omega)) ?_
      refine px_q rfl rfl (q_move rfl) ?_
      refine px_q rfl rfl (q_field_ptr rfl rfl rfl rfl rfl rfl) ?_
      refine px_q rfl rfl (q_loadb_ptr rfl rfl rfl rfl rfl) ?_
      refine px_q rfl rfl (q_lookup_hit rfl (.int rfl) rfl rfl rfl rfl (keysC s) jj i1 i2) ?_
      refine px_q rfl rfl (q_field_ptr rfl rfl rfl rfl rfl rfl) ?_
      refine px_q rfl rfl (q_loadb_ptr rfl rfl rfl rfl rfl) ?_
      refine px_q rfl rfl (q_index_ro' rfl rfl rfl rfl (by first | (simp only [Nat.zero_add, Int.toNat_natCast, Int.toNat_zero]; exact rfl) | exact rfl) (by omega)) ?_
      refine px_q rfl rfl (q_loadagg_rp rfl rfl rfl rfl rfl rfl) ?_
      refine px_v rfl rfl rfl rfl rfl cmul ?_
      refine px_done ?_
      unfold qA
      refine ax_any_step (is := [15]) (by kernel_rfl) (by simp) rfl ⟨fun o ho => ?_, trivial⟩
      all_goals (cases ho)
      repeat (first | refine ax_ops_nil ?_ | refine ax_post_any ?_ | refine ax_buildSliceRo rfl rfl rfl rfl rfl rfl rfl rfl rfl rfl rfl ?_)
      refine ax_any_step (is := [16]) (by kernel_rfl) (by simp) rfl ⟨fun o ho => ?_, trivial⟩
      all_goals (cases ho)
      refine ax_append rfl rfl rfl rfl rfl rfl rfl rfl rfl hml rfl rfl (by show 0 + 1 ≤ 1; omega) rfl (by show (k + 1) * 56 ≤ _ ∧ _; omega) ?_ (by rw [hfix]; exact fun h => h) ?_
      · intro i' j hi hj
        exact rowE_noref 0 3 cellsQ cellsQ_noref P _ _ (rowQ1 _) 0 i' j hi hj
      refine ax_heap_ops [some ⟨108, qsC P2⟩, some ⟨80, .box [.int .i64 x.1, .int .i64 (k - x.2 : Nat), .int .i64 (b : Nat)]⟩] ?_ ?_
      · rw [hpn]
        exact HSub.eqv (rowE_snoc 0 3 cellsQ P _ _ (rowQ1 _)) (HSub.eqv (CEq.refl _) HSub.nil)
      repeat (first | refine ax_ops_nil ?_ | refine ax_post_any ?_)
      refine ax_any_q 17 rfl (by kernel_rfl) (by kernel_rfl) (by kernel_rfl) rfl (q_assign rfl) rfl ?_
      refine ax_any_done (by kernel_rfl) ?_
      repeat (refine ax_post_blk ?_)
      refine ax_post_code ?_
      refine ax_cutP [some ⟨108, qsC P2⟩] [some ⟨80, .box [.int .i64 x.1, .int .i64 (k - x.2 : Nat), .int .i64 (b : Nat)]⟩] [(10, .rom (s.map keyC) (s.map valC)), (11, .sl 0 0 (k + 1)), (34, .ro (seqsC (seqsOf t p)) 0 (seqsOf t p).length), (35, .int .i64 ((seqsOf t p).length : Nat)), (36, .int .i64 (k : Nat))] rfl ⟨rfl, rfl, rfl, rfl, rfl, trivial⟩ (fun h hh => by rw [hfix] at hh; exact absurd hh id) (below1 (below_qs _ _)) rfl ?_
      repeat (first | refine ax_q (q_move rfl) ?_ | refine ax_ops_nil ?_ | refine ax_region rfl ?_ | refine ax_q (q_add rfl rfl (by omega)) ?_)
      exact ax_post_inv ⟨k + 1, by omega, by omega, ⟨rfl, rfl, rfl, rfl, rfl, trivial⟩, by rw [hP2]⟩
  · have hke : k = (seqsOf t p).length := by omega
    subst hke
    obtain ⟨r, hfin, hrq⟩ := outAll_ok (planOf t p (oddsQ s)) (by omega) (fun q hq => by
      obtain ⟨i, hi, rfl⟩ := List.getElem_of_mem hq
      have h5 := hpD i (by omega)
      rw [get_el 0 hi] at h5
      refine sz_D (h5.mono ?_)
      have : 2000 * i ≤ 2000 * 61 := Nat.mul_le_mul_left _ (by omega)
      omega)
    have hpo : planN (seqsOf t p) (oddsQ s) (seqsOf t p).length = planOf t p (oddsQ s) := rfl
    rw [hpo]
    generalize planOf t p (oddsQ s) = R at *
    repeat (first | refine ax_post_code ?_ | refine ax_seq ?_ | refine ax_exit ?_ | refine ax_exit_here ?_ | refine ax_exit_code ?_ | refine ax_exit_inv ?_)
    refine ax_give_code 0 11 (seqsOf t p).length [] rfl (refless_qs _) rfl (by show _ ≤ R.length; omega) trivial ?_
    refine ax_slot 11 (.ro (qsC R) 0 R.length) rfl (AEq.of_eq (by rw [hpl])) ?_
    repeat (first | refine ax_q (q_move rfl) ?_ | refine ax_region rfl ?_)
    refine ax_callv rfl rfl rfl hfin ?_
    repeat (first | refine ax_q (q_assign rfl) ?_ | refine ax_ops_nil ?_ | refine ax_post_code ?_ | refine ax_q (q_extract rfl rfl) ?_)
    refine ax_slot 6 (.ro (.strs (outAllF R).1) 0 (outAllF R).1.length) rfl hrq ?_
    repeat (refine ax_return ?_)
    exact ax_ret hR rfl rfl
end Go.Proofs.YtgmleamhjnlknaaGreatDoor

/-
  The ground values of matrixFact. No program in sight.
-/
namespace Go.Ax.Rt
open Go.Ax.Bg Go.Ax.Dt
set_option maxRecDepth 100000

def allV : List Text → List Rat → Bool
  | [], [] => true
  | s :: r, q :: t => decide (IsQ s q) && allV r t
  | _, _ => false
theorem allV_out : ∀ {s : List Text} {l : List Rat}, allV s l = true → l.map textQ = s ∧ l.all fitB = true
  | [], [], _ => ⟨rfl, rfl⟩
  | [], _ :: _, h => by cases h
  | _ :: _, [], h => by cases h
  | a :: r, q :: t, h => by
    simp only [allV, Bool.and_eq_true, decide_eq_true_eq] at h
    obtain ⟨h1, h2⟩ := allV_out h.2
    refine ⟨by rw [List.map_cons, h.1.text, h1], ?_⟩
    rw [List.all_cons, h.1.fit, h2]; rfl
theorem allV_f {s : List Text} {l : List Rat} (h : allV s l = true) : outAllF l = (s, 0) := by
  unfold outAllF
  rw [if_pos (allV_out h).2, (allV_out h).1]
def allM : List (List Text) → List (List Rat) → Bool
  | [], [] => true
  | s :: r, q :: t => allV s q && allM r t
  | _, _ => false
def fourT : List (List Text) := [[[49], [50]], [[51], [52]]]
def signT : List (List Text) := [[[49], [49]], [[49], [45, 49]]]
theorem outM_short {q : List (List Rat)} : ∀ r ∈ (outM q).1, ∀ s ∈ r, s.length ≤ 9223372036854775807 := by
  intro r hr s hs
  unfold outM at hr
  split at hr
  · rename_i h
    obtain ⟨x, hx, rfl⟩ := List.mem_map.1 hr
    obtain ⟨y, hy, rfl⟩ := List.mem_map.1 hs
    have h2 := List.all_eq_true.1 (List.all_eq_true.1 h x hx) y hy
    unfold fitB at h2
    rw [Bool.and_eq_true, decide_eq_true_eq, decide_eq_true_eq] at h2
    unfold textQ
    rw [List.length_append, List.length_append]
    have h1 : (if y.num < 0 then [45] else [] : List UInt8).length ≤ 1 := by split <;> simp
    have h3 : (if y.den = 1 then [] else 47 :: Lib.decDigits y.den : List UInt8).length ≤ 2001 := by
      split
      · simp
      · rw [List.length_cons]; omega
    omega
  · simp at hr
abbrev MaxL : Nat := 9223372036854775807
structure ShortM (m : List (List Text)) : Prop where
  len : m.length ≤ MaxL
  row : ∀ r ∈ m, r.length ≤ MaxL ∧ ∀ s ∈ r, s.length ≤ MaxL
structure ShortV (v : List Text) : Prop where
  len : v.length ≤ MaxL
  each : ∀ s ∈ v, s.length ≤ MaxL
theorem ShortM.wid {m : List (List Text)} (h : ShortM m) : widM m ≤ MaxL := by
  unfold widM
  cases m with
  | nil => exact Nat.zero_le _
  | cons x _ => exact (h.row x (by simp)).1
theorem ShortM.nil : ShortM [] := ⟨Nat.zero_le _, fun r hr => by simp at hr⟩
theorem ShortV.nil : ShortV [] := ⟨Nat.zero_le _, fun r hr => by simp at hr⟩
theorem ShortM.out {q : List (List Rat)} (h1 : q.length ≤ MaxL) (h2 : ∀ r ∈ q, r.length ≤ MaxL) : ShortM (outM q).1 := by
  have h3 := @outM_short q
  refine ⟨?_, fun r hr => ⟨?_, h3 r hr⟩⟩
  · unfold outM
    split
    · simpa using h1
    · exact Nat.zero_le _
  · unfold outM at hr
    split at hr
    · obtain ⟨x, hx, rfl⟩ := List.mem_map.1 hr
      rw [List.length_map]; exact h2 x hx
    · simp at hr
theorem ShortM.mul {a b : List (List Text)} (ha : ShortM a) (hb : ShortM b) : ShortM (mulR a b).1 := by
  unfold mulR
  split
  · exact ShortM.nil
  split
  · exact ShortM.nil
  split
  · refine ShortM.out (by simpa [mulQ, inM] using ha.len) (fun r hr => ?_)
    obtain ⟨x, hx, rfl⟩ := List.mem_map.1 hr
    rw [List.length_map, colsQ_len]; exact hb.wid
  · exact ShortM.nil
theorem ShortM.trans {a : List (List Text)} (ha : ShortM a) : ShortM (transR a).1 := by
  unfold transR
  split
  · exact ShortM.nil
  · refine ⟨by simpa [transT] using ha.wid, fun r hr => ?_⟩
    obtain ⟨k, hk, rfl⟩ := List.mem_map.1 hr
    refine ⟨by simpa using ha.len, fun s hs => ?_⟩
    obtain ⟨x, hx, rfl⟩ := List.mem_map.1 hs
    rcases Nat.lt_or_ge k x.length with q | q
    · exact (ha.row x hx).2 _ (by rw [get_el [] q]; exact List.getElem_mem q)
    · have : x.getD k [] = [] := by simp [List.getD, q]
      rw [this]; exact Nat.zero_le _
theorem ShortV.out {l : List Rat} (h : l.length ≤ MaxL) : ShortV (outAllF l).1 := by
  have h3 := outM_short (q := [l])
  refine ⟨?_, fun s hs => ?_⟩
  · unfold outAllF
    split
    · simpa using h
    · exact Nat.zero_le _
  · unfold outAllF at hs
    split at hs
    · rename_i h1
      have e : (outM [l]).1 = [l.map textQ] := by
        unfold outM
        rw [if_pos (by simpa using h1)]
        rfl
      rw [e] at h3
      exact h3 _ (by simp) s hs
    · simp at hs
theorem ShortM.apply {a : List (List Text)} (ha : ShortM a) (v : List Text) : ShortV (applyR a v).1 := by
  unfold applyR
  split
  · exact ShortV.nil
  split
  · exact ShortV.nil
  split
  · exact ShortV.nil
  · exact ShortV.out (by simpa [applyQ, inM] using ha.len)
end Go.Ax.Rt

/-
  The ground values of recallFact. No program in sight.
-/
namespace Go.Ax.Rt
open Go.Ax.Bg Go.Ax.Idx
set_option maxRecDepth 100000

def guessG : Tree := [⟨2, 0, 0, [1, 2], [], []⟩, ⟨2, 1, 3, [3, 4], [], []⟩, ⟨2, 1, 3, [5, 6], [], []⟩, ⟨0, 0, 0, [], [], [45, 49]⟩, ⟨0, 0, 0, [], [], [49]⟩, ⟨0, 0, 0, [], [], [49]⟩, ⟨0, 0, 0, [], [], [45, 49]⟩]
def halfG (n : Int) : Strg := [⟨n, [[49, 47, 50], [49, 47, 50]]⟩]
theorem g_check (p : Int) (h : p = 0 ∨ p = 1) : playerE guessG p = 0 := by
  rcases h with rfl | rfl <;> decide +kernel
theorem g_perf0 : isPerf guessG 0 = true := by decide +kernel
theorem g_plan1 : planE guessG 1 = 0 := by decide +kernel
theorem g_seqs : seqsR guessG 1 = ([seq0, ⟨3, 0, 0⟩, ⟨3, 1, 0⟩], 0) := by decide +kernel
theorem g_pos : posOf guessG 1 = [0, 0, 0, 1, 2, 1, 2] := by decide +kernel
theorem g_strat0 : stratE guessG 1 [] = 3 := by decide +kernel
theorem g_planR : planR guessG 1 (halfG 3) = ([[49], [49, 47, 50], [49, 47, 50]], 0) := by
  unfold planR
  rw [if_neg (by decide +kernel), if_neg (by decide +kernel)]
  exact allV_f (by decide +kernel)
end Go.Ax.Rt

namespace Go.Proofs.YtgmleamhjnlknaaGreatDoor
open Go.Ax Go.Ax.Bg Go.Ax.Rt Go.RowKit Go.Ax.Idx Go.Ax.Cd
attribute [local irreducible] Ax Post QOp ACall PureOp
set_option maxRecDepth 100000
set_option maxHeartbeats 4000000

theorem equalS (a b : List RSeq) (hlen : a.length ≤ 9223372036854775807) (hlb : b.length ≤ 9223372036854775807) : VCall Tryz.prog 108 [.ro (seqsC a) 0 a.length, .ro (seqsC b) 0 b.length] (.bool (decide (a = b))) := by
  refine ACall.value0 (acall_of_ax (P := Tryz.prog) (fn := Tryz.f108) rfl rfl (by kernel_rfl) rfl (fun c hR hfix => ?_)) (fix := fun _ => False) (fun _ h => h) rfl rfl
  repeat (first | refine ax_q (q_move rfl) ?_ | refine ax_q (q_assign rfl) ?_ | refine ax_ops_nil ?_ | refine ax_post_code ?_ | refine ax_seq ?_ | refine ax_region rfl ?_ | refine ax_q (q_neq rfl rfl) ?_ | refine ax_q (q_len rfl rfl rfl) ?_)
  refine ax_cond_dec rfl (fun h => ?_) (fun h => ?_)
  · repeat (first | refine ax_q (q_assign rfl) ?_ | refine ax_ops_nil ?_ | refine ax_post_code ?_ | refine ax_seq ?_ | refine ax_region rfl ?_ | refine ax_return ?_ | refine ax_ret_code ?_)
    refine ax_ret hR rfl ?_
    have : ¬ a = b := by rintro rfl; exact h rfl
    simp [tupOf, this]
  have hab : a.length = b.length := by omega
  repeat (first | refine ax_q (q_move rfl) ?_ | refine ax_ops_nil ?_ | refine ax_post_code ?_ | refine ax_seq ?_ | refine ax_region rfl ?_ | refine ax_block ?_ | refine ax_skip ?_ | refine ax_q (q_len rfl rfl rfl) ?_)
  refine ax_loop (ι := Nat) (fun k => [(0, .ro (seqsC a) 0 a.length), (1, .ro (seqsC b) 0 b.length), (12, .int .i64 (a.length : Nat)), (13, .int .i64 (k : Nat))]) (fun _ => [])
    (fun k => k ≤ a.length ∧ a.take k = b.take k) (fun k => a.length - k) 0 ⟨⟨rfl, rfl, rfl, rfl, trivial⟩, rfl, Nat.zero_le _, rfl⟩ ?_
  intro k ⟨hk, heq⟩
  repeat (first | refine ax_ops_nil ?_ | refine ax_post_code ?_ | refine ax_seq ?_ | refine ax_region rfl ?_ | refine ax_q (q_lss rfl rfl) ?_)
  refine ax_cond_dec rfl (fun h2 => ?_) (fun h2 => ?_)
  · have hk' : k < a.length := by omega
    have hkb : k < b.length := by omega
    have ha := take_succ_getD a seq0 k hk'
    have hb := take_succ_getD b seq0 k hkb
    repeat (first | refine ax_q (q_move rfl) ?_ | refine ax_q (q_assign rfl) ?_ | refine ax_ops_nil ?_ | refine ax_post_code ?_ | refine ax_seq ?_ | refine ax_region rfl ?_ | refine ax_block ?_ | refine ax_skip ?_)
    refine ax_regiond (by kernel_rfl) ?_
    refine ax_any_run (fuel := 0) [0, 1, 2, 3, 4, 5, 6, 7, 8] [(0, .ro (seqsC a) 0 a.length), (1, .ro (seqsC b) 0 b.length), (5, .int .i64 (k : Nat)), (12, .int .i64 (a.length : Nat)), (13, .int .i64 (k : Nat))] ⟨rfl, rfl, rfl, rfl, rfl, trivial⟩ (by kernel_rfl) (by decide) rfl rfl ?_
    refine px_q rfl rfl (q_move rfl) ?_
    refine px_q rfl rfl (q_move rfl) ?_
    refine px_q rfl rfl (q_index_ro' rfl rfl rfl rfl (by first | (simp only [Nat.zero_add, Int.toNat_natCast, Int.toNat_zero]; exact rfl) | exact rfl) (by omega)) ?_
    refine px_q rfl rfl (q_loadagg_rp rfl rfl rfl rfl rfl rfl) ?_
    refine px_q rfl rfl (q_move rfl) ?_
    refine px_q rfl rfl (q_move rfl) ?_
    refine px_q rfl rfl (q_index_ro' rfl rfl rfl rfl (by first | (simp only [Nat.zero_add, Int.toNat_natCast, Int.toNat_zero]; exact rfl) | exact rfl) (by omega)) ?_
    refine px_q rfl rfl (q_loadagg_rp rfl rfl rfl rfl rfl rfl) ?_
    refine px_q rfl rfl (q_structneq (L := cellsS (a.getD k seq0)) (M := cellsS (b.getD k seq0)) (b := decide ((a.getD k seq0).info = (b.getD k seq0).info) && (decide ((a.getD k seq0).choice = (b.getD k seq0).choice) && (decide ((a.getD k seq0).before = (b.getD k seq0).before) && true))) rfl rfl rfl rfl (by kernel_rfl) (by kernel_rfl) rfl) ?_
    refine px_done ?_
    refine ax_any_done (by kernel_rfl) ?_
    repeat (refine ax_post_code ?_)
    by_cases h3 : a.getD k seq0 = b.getD k seq0
    · rw [h3, decide_eq_true rfl, decide_eq_true rfl, decide_eq_true rfl]
      repeat (first | refine ax_q (q_move rfl) ?_ | refine ax_ops_nil ?_ | refine ax_post_code ?_ | refine ax_region rfl ?_ | refine ax_cond_false rfl ?_ | refine ax_post_blk ?_ | refine ax_skip ?_ | refine ax_q (q_add rfl rfl (by omega)) ?_)
      exact ax_post_inv ⟨k + 1, ⟨by omega, by rw [ha, hb, heq, h3]⟩, by omega, ⟨rfl, rfl, rfl, rfl, trivial⟩, rfl⟩
    · have h4 : (decide ((a.getD k seq0).info = (b.getD k seq0).info) && (decide ((a.getD k seq0).choice = (b.getD k seq0).choice) && (decide ((a.getD k seq0).before = (b.getD k seq0).before) && true))) = false := by
        rw [Bool.and_true, ← Bool.not_eq_true, Bool.and_eq_true, Bool.and_eq_true, decide_eq_true_eq, decide_eq_true_eq, decide_eq_true_eq]
        rintro ⟨e1, e2, e3⟩
        apply h3
        generalize a.getD k seq0 = x at *
        generalize b.getD k seq0 = y at *
        obtain ⟨x1, x2, x3⟩ := x
        obtain ⟨y1, y2, y3⟩ := y
        simp only at e1 e2 e3
        rw [e1, e2, e3]
      rw [h4]
      repeat (first | refine ax_q (q_assign rfl) ?_ | refine ax_ops_nil ?_ | refine ax_post_code ?_ | refine ax_seq ?_ | refine ax_region rfl ?_ | refine ax_cond_true rfl ?_ | refine ax_return ?_ | refine ax_ret_code ?_ | refine ax_ret_blk ?_ | refine ax_ret_inv ?_)
      refine ax_ret hR rfl ?_
      have : ¬ a = b := by rintro rfl; exact h3 rfl
      simp [tupOf, this]
  · have hk' : k = a.length := by omega
    subst hk'
    rw [List.take_length, hab, List.take_length] at heq
    repeat (first | refine ax_q (q_assign rfl) ?_ | refine ax_ops_nil ?_ | refine ax_post_code ?_ | refine ax_seq ?_ | refine ax_region rfl ?_ | refine ax_exit ?_ | refine ax_exit_here ?_ | refine ax_exit_code ?_ | refine ax_exit_inv ?_ | refine ax_return ?_)
    refine ax_ret hR rfl ?_
    simp [tupOf, heq]
theorem seven {d : Nat} (h : d < 7) : d = 0 ∨ d = 1 ∨ d = 2 ∨ d = 3 ∨ d = 4 ∨ d = 5 ∨ d = 6 := by omega
theorem guess_ok : VCall Tryz.prog 105 [] (.ro (treeC guessG) 0 7) := by
  refine ACall.value0 (acall_of_ax (P := Tryz.prog) (fn := Tryz.f105) rfl rfl (by kernel_rfl) rfl (fun c hR hfix => ?_)) (fix := fun _ => False) (fun _ h => h) rfl rfl
  repeat (first | refine ax_q (q_assign rfl) ?_ | refine ax_ops_nil ?_ | refine ax_post_code ?_ | refine ax_seq ?_ | refine ax_region rfl ?_ | refine ax_q (q_build rfl rfl rfl rfl rfl rfl) ?_ | refine ax_buildSliceRo rfl rfl rfl rfl rfl rfl rfl rfl rfl rfl rfl ?_)
  refine ax_slot 0 (.ro (treeC guessG) 0 7) rfl (AEq.ro_in rfl (fun d j hd hj => ?_)) ?_
  · have hj : j < 6 := hj
    have hj3 : j = 0 ∨ j = 1 ∨ j = 2 ∨ j = 3 ∨ j = 4 ∨ j = 5 := by omega
    rcases seven hd with rfl | rfl | rfl | rfl | rfl | rfl | rfl <;> rcases hj3 with rfl | rfl | rfl | rfl | rfl | rfl <;> first | exact AEq.rfl' | exact AEq.nil
  repeat (refine ax_return ?_)
  exact ax_ret hR rfl rfl
theorem half_ok (n : Int) : VCall Tryz.prog 107 [.int .i64 n] (.ro (strgC (halfG n)) 0 1) := by
  refine ACall.value0 (acall_of_ax (P := Tryz.prog) (fn := Tryz.f107) rfl rfl (by kernel_rfl) rfl (fun c hR hfix => ?_)) (fix := fun _ => False) (fun _ h => h) rfl rfl
  repeat (first | refine ax_q (q_move rfl) ?_ | refine ax_q (q_assign rfl) ?_ | refine ax_ops_nil ?_ | refine ax_post_code ?_ | refine ax_seq ?_ | refine ax_region rfl ?_ | refine ax_q (q_build rfl rfl rfl rfl rfl rfl) ?_ | refine ax_buildSliceRo rfl rfl rfl rfl rfl rfl rfl rfl rfl rfl rfl ?_)
  refine ax_slot 2 (.ro (strgC (halfG n)) 0 1) rfl (AEq.ro_in rfl (fun d j hd hj => ?_)) ?_
  · have hj : j < 2 := hj
    have hj3 : j = 0 ∨ j = 1 := by omega
    obtain rfl : d = 0 := by omega
    rcases hj3 with rfl | rfl <;> exact AEq.rfl'
  repeat (refine ax_return ?_)
  exact ax_ret hR rfl rfl
end Go.Proofs.YtgmleamhjnlknaaGreatDoor

namespace Go.Proofs.YtgmleamhjnlknaaGreatDoor
open Go.Ax Go.Ax.Bg Go.Ax.Rt Go.RowKit Go.Ax.Idx Go.Ax.Cd
attribute [local irreducible] Ax Post QOp ACall PureOp
set_option maxRecDepth 100000
set_option maxHeartbeats 4000000

theorem gShort : ShortT guessG := ⟨by decide, fun n hn => by
  simp only [guessG, List.mem_cons, List.not_mem_nil, or_false] at hn
  rcases hn with rfl | rfl | rfl | rfl | rfl | rfl | rfl <;> exact ⟨by decide, by decide, by decide, by decide⟩⟩
theorem hShort : ShortS (halfG 3) := ⟨by decide, fun c hc => by
  rw [List.mem_singleton.1 hc]; exact ⟨by decide, by decide⟩⟩
theorem fine4 : VCall Tryz.prog 29 [.ro (.ints .i64 [0, 0, 0, 0]) 0 4] (.bool true) := fineI [0, 0, 0, 0] (by decide)
theorem recallFact : VCall Tryz.prog 43 [] (.bool true) := by
  have c1 := perfect_ok guessG 0 gShort
  rw [show perfR guessG 0 = (true, 0) by unfold perfR; rw [if_neg (by rw [g_check 0 (.inl rfl)]; exact fun h => h rfl), g_perf0]] at c1
  have c2 := sequences_ok guessG 1 gShort
  rw [g_seqs] at c2
  have c3 := at_ok guessG 1 gShort
  rw [g_plan1, if_neg (by decide), g_pos] at c3
  have c4 := plan_ok guessG 1 (halfG 3) gShort hShort
  rw [g_planR] at c4
  have c5 := strategy_ok guessG 1 [] (by decide) ⟨by decide, fun c hc => by simp at hc⟩
  rw [g_strat0] at c5
  have c5' : VCall Tryz.prog 110 [.ro (treeC guessG) 0 7, .int .i64 1, .nil] (.int .i64 3) := fun H => ACall.args (c5 H) ⟨AEq.rfl', AEq.rfl', AEq.nil, trivial⟩
  have v1 := equalS [seq0, ⟨3, 0, 0⟩, ⟨3, 1, 0⟩] [seq0, ⟨3, 0, 0⟩, ⟨3, 1, 0⟩] (by decide) (by decide)
  have v2 := equalI [0, 0, 0, 1, 2, 1, 2] [0, 0, 0, 1, 2, 1, 2] (by decide) (by decide)
  have v3 := equalV [[49], [49, 47, 50], [49, 47, 50]] [[49], [49, 47, 50], [49, 47, 50]] (by decide) (by decide)
  rw [decide_eq_true rfl] at v1 v2 v3
  refine ACall.value0 (acall_of_ax (P := Tryz.prog) (fn := Tryz.f43) rfl rfl (by kernel_rfl) rfl (fun c hR hfix => ?_)) (fix := fun _ => False) (fun _ h => h) rfl rfl
  repeat (first | refine ax_q (q_assign rfl) ?_ | refine ax_ops_nil ?_ | refine ax_post_code ?_ | refine ax_seq ?_ | refine ax_region rfl ?_)
  refine ax_callv rfl rfl rfl guess_ok ?_
  skip
  refine ax_callv rfl rfl rfl c1 ?_
  repeat (first | refine ax_q (q_move rfl) ?_ | refine ax_q (q_assign rfl) ?_ | refine ax_ops_nil ?_ | refine ax_post_code ?_ | refine ax_seq ?_ | refine ax_region rfl ?_ | refine ax_q (q_extract rfl rfl) ?_)
  refine ax_callv rfl rfl rfl guess_ok ?_
  skip
  refine ax_callv rfl rfl rfl c2 ?_
  repeat (first | refine ax_q (q_move rfl) ?_ | refine ax_q (q_assign rfl) ?_ | refine ax_ops_nil ?_ | refine ax_post_code ?_ | refine ax_seq ?_ | refine ax_region rfl ?_ | refine ax_q (q_extract rfl rfl) ?_)
  refine ax_callv rfl rfl rfl guess_ok ?_
  skip
  refine ax_callv rfl rfl rfl c3 ?_
  repeat (first | refine ax_q (q_move rfl) ?_ | refine ax_q (q_assign rfl) ?_ | refine ax_ops_nil ?_ | refine ax_post_code ?_ | refine ax_seq ?_ | refine ax_region rfl ?_ | refine ax_q (q_extract rfl rfl) ?_)
  refine ax_callv rfl rfl rfl guess_ok ?_
  skip
  refine ax_callv rfl rfl rfl (half_ok 3) ?_
  skip
  refine ax_callv rfl rfl rfl c4 ?_
  unfold vecP
  repeat (first | refine ax_q (q_move rfl) ?_ | refine ax_q (q_assign rfl) ?_ | refine ax_ops_nil ?_ | refine ax_post_code ?_ | refine ax_seq ?_ | refine ax_region rfl ?_ | refine ax_q (q_extract rfl rfl) ?_ | refine ax_buildSliceRo rfl rfl rfl rfl rfl rfl rfl rfl rfl rfl rfl ?_)
  refine ax_callv rfl rfl rfl fine4 ?_
  repeat (first | refine ax_q (q_move rfl) ?_ | refine ax_guard rfl rfl ?_ | refine ax_q (q_pick rfl rfl) ?_ | refine ax_q (q_build rfl rfl rfl rfl rfl rfl) ?_ | refine ax_buildSliceRo rfl rfl rfl rfl rfl rfl rfl rfl rfl rfl rfl ?_)
  refine ax_slot_ops 44 (.ro (seqsC [seq0, ⟨3, 0, 0⟩, ⟨3, 1, 0⟩]) 0 3) rfl (AEq.ro rfl (fun d j hd hj => ?_)) ?_
  · have hd2 : d = 0 ∨ d = 1 ∨ d = 2 := by omega
    have hj3 : j = 0 ∨ j = 1 ∨ j = 2 := by have hj : j < 3 := hj; omega
    rcases hd2 with rfl | rfl | rfl <;> rcases hj3 with rfl | rfl | rfl <;> rfl
  refine ax_callv rfl rfl rfl v1 ?_
  repeat (first | refine ax_q (q_move rfl) ?_ | refine ax_guard rfl rfl ?_ | refine ax_q (q_pick rfl rfl) ?_ | refine ax_buildSliceRo rfl rfl rfl rfl rfl rfl rfl rfl rfl rfl rfl ?_)
  refine ax_callv rfl rfl rfl v2 ?_
  repeat (first | refine ax_q (q_move rfl) ?_ | refine ax_guard rfl rfl ?_ | refine ax_q (q_pick rfl rfl) ?_ | refine ax_buildSliceRo rfl rfl rfl rfl rfl rfl rfl rfl rfl rfl rfl ?_)
  refine ax_callv rfl rfl rfl v3 ?_
  repeat (first | refine ax_q (q_move rfl) ?_ | refine ax_guard rfl rfl ?_ | refine ax_q (q_pick rfl rfl) ?_)
  refine ax_callv rfl rfl rfl guess_ok ?_
  repeat (refine ax_guard rfl rfl ?_)
  refine ax_callv rfl rfl rfl c5' ?_
  repeat (first | refine ax_q (q_assign rfl) ?_ | refine ax_ops_nil ?_ | refine ax_post_code ?_ | refine ax_guard rfl rfl ?_ | refine ax_return ?_ | refine ax_q (q_eql rfl rfl) ?_ | refine ax_q (q_pick rfl rfl) ?_)
  exact ax_ret hR rfl rfl
end Go.Proofs.YtgmleamhjnlknaaGreatDoor

namespace Go.Proofs.YtgmleamhjnlknaaGreatDoor
open Go.Ax Go.Ax.Bg Go.Ax.Rt Go.RowKit Go.Ax.Idx Go.Ax.Cd
attribute [local irreducible] Ax Post QOp ACall PureOp
set_option maxRecDepth 100000
set_option maxHeartbeats 4000000

def metL (t : Tree) (p : Int) (i : Nat) : List Int := ((t.take i).filter (own p)).map TNode.info
end Go.Proofs.YtgmleamhjnlknaaGreatDoor

namespace Go.Proofs.YtgmleamhjnlknaaGreatDoor
open Go.Ax Go.Ax.Bg Go.Ax.Rt Go.RowKit Go.Ax.Idx Go.Ax.Cd
attribute [local irreducible] Ax Post QOp ACall PureOp
set_option maxRecDepth 100000
set_option maxHeartbeats 4000000

theorem sumW (l : List Int) (f : Int → Nat) : ∀ k, k ≤ l.length → (((l.map (fun i => ((f i : Nat) : Int))).take k).foldl (fun a b => a + b) 1 : Int) = 1 + (((l.take k).map f).sum : Nat)
  | 0, _ => by simp
  | k + 1, h => by
    have hk : k < l.length := by omega
    have ih := sumW l f k (by omega)
    rw [List.take_succ_eq_append_getElem (by simpa using hk), List.foldl_append, ih, List.take_succ_eq_append_getElem hk, List.map_append, List.sum_append]
    simp
    omega
theorem sum_take_le (l : List Int) (f : Int → Nat) (k : Nat) : ((l.take k).map f).sum ≤ (l.map f).sum := by
  have : l.map f = (l.take k).map f ++ (l.drop k).map f := by rw [← List.map_append, List.take_append_drop]
  rw [this, List.sum_append]
  omega
theorem RecallNumbers_law (t : Tree) (p : Int) (hT : t.length ≤ 9223372036854775807 ∧ ∀ n ∈ t, ShortN n) : VCall Tryz.prog 10 [.ro (treeC t) 0 t.length, .int .i64 p] (.bool true) := by
  have hS : ShortT t := ⟨hT.1, hT.2⟩
  have hlen := hT.1
  have c1 := sequences_ok t p hS
  have c2 := infos_ok t p hS
  refine ACall.value0 (acall_of_ax (P := Tryz.prog) (fn := Tryz.f10) rfl rfl (by kernel_rfl) rfl (fun c hR hfix => ?_)) (fix := fun _ => False) (fun _ h => h) rfl rfl
  repeat (first | refine ax_q (q_assign rfl) ?_ | refine ax_ops_nil ?_ | refine ax_post_code ?_ | refine ax_seq ?_ | refine ax_region rfl ?_)
  refine ax_callv rfl rfl rfl recallFact ?_
  by_cases hp : planE t p = 0
  case neg =>
    rw [show seqsR t p = ([], planE t p) by unfold seqsR; rw [if_pos hp]] at c1
    generalize planE t p = e at *
    repeat (first | refine ax_q (q_move rfl) ?_ | refine ax_ops_nil ?_ | refine ax_post_code ?_ | refine ax_seq ?_ | refine ax_region rfl ?_ | refine ax_cond_false rfl ?_ | refine ax_skip ?_ | refine ax_q (q_not rfl) ?_)
    refine ax_callv rfl rfl rfl c1 ?_
    repeat (first | refine ax_q (q_move rfl) ?_ | refine ax_q (q_assign rfl) ?_ | refine ax_ops_nil ?_ | refine ax_post_code ?_ | refine ax_seq ?_ | refine ax_region rfl ?_ | refine ax_q (q_extract rfl rfl) ?_)
    refine ax_callv rfl rfl rfl c2 ?_
    repeat (first | refine ax_q (q_move rfl) ?_ | refine ax_q (q_assign rfl) ?_ | refine ax_ops_nil ?_ | refine ax_post_code ?_ | refine ax_seq ?_ | refine ax_region rfl ?_ | refine ax_q (q_neq rfl rfl) ?_ | refine ax_q (q_extract rfl rfl) ?_)
    refine ax_gsplit rfl rfl (fun h => ?_) (fun h => absurd hp h)
    repeat (first | refine ax_q (q_move rfl) ?_ | refine ax_q (q_assign rfl) ?_ | refine ax_ops_nil ?_ | refine ax_post_code ?_ | refine ax_seq ?_ | refine ax_region rfl ?_ | refine ax_skip_not rfl rfl rfl ?_ | refine ax_cond_true rfl ?_ | refine ax_return ?_ | refine ax_ret_code ?_ | refine ax_q (q_eql rfl rfl) ?_ | refine ax_q (q_pick rfl rfl) ?_ | refine ax_q (q_len rfl rfl rfl) ?_)
    exact ax_ret hR rfl rfl
  obtain ⟨hv, hpf, hpl⟩ := plan_valid hp
  obtain ⟨n1, n2, n3, n4⟩ := numbers hv p
  have hfew := seqs_few hv p
  rw [show seqsR t p = (seqsOf t p, 0) by unfold seqsR; rw [if_neg (fun q => q hp)]] at c1
  rw [show infosR t p = ((infosOf t p, sizesOf t p), 0) by unfold infosR; rw [if_neg (fun q => q hpl)]] at c2
  simp only at c1 c2
  have hsw := sumW (infosOf t p) (widthOf t p)
  have hst := sum_take_le (infosOf t p) (widthOf t p)
  have hZl : (sizesOf t p).length = (infosOf t p).length := by unfold sizesOf; simp
  have hZ : (infosOf t p).map (fun i => ((widthOf t p i : Nat) : Int)) = sizesOf t p := rfl
  have hIl : (infosOf t p).length ≤ 10 := infosK_len t p 10
  rw [hZ] at hsw
  have hcon : ∀ x, VCall Tryz.prog 45 [.ro (.ints .i64 (infosOf t p)) 0 (infosOf t p).length, .int .i64 x] (.bool ((infosOf t p).any (eqp x))) := fun x => containsV (infosOf t p) x (by omega)
  have hch : ∀ k, k + 1 < (seqsOf t p).length → ((seqsOf t p).getD (k + 1) seq0).choice ≤ 100 := fun k hk => by
    obtain ⟨x, b, x0, x1, x2, x3, x4, x5, x6, x7⟩ := seq_at hv (p := p) (k := k + 1) (by omega) hk
    have hs := x7 (k + 1 - x.2) (by omega)
    rw [show x.2 + (k + 1 - x.2) = k + 1 by omega] at hs
    rw [hs]
    show ((k + 1 - x.2 : Nat) : Int) ≤ 100
    omega
  generalize seqsOf t p = l at *
  generalize sizesOf t p = Z at *
  generalize infosOf t p = I at *
  repeat (first | refine ax_q (q_move rfl) ?_ | refine ax_ops_nil ?_ | refine ax_post_code ?_ | refine ax_seq ?_ | refine ax_region rfl ?_ | refine ax_cond_false rfl ?_ | refine ax_skip ?_ | refine ax_q (q_not rfl) ?_)
  refine ax_callv rfl rfl rfl c1 ?_
  repeat (first | refine ax_q (q_move rfl) ?_ | refine ax_q (q_assign rfl) ?_ | refine ax_ops_nil ?_ | refine ax_post_code ?_ | refine ax_seq ?_ | refine ax_region rfl ?_ | refine ax_q (q_extract rfl rfl) ?_)
  refine ax_callv rfl rfl rfl c2 ?_
  repeat (first | refine ax_q (q_move rfl) ?_ | refine ax_q (q_assign rfl) ?_ | refine ax_ops_nil ?_ | refine ax_post_code ?_ | refine ax_seq ?_ | refine ax_region rfl ?_ | refine ax_guard rfl rfl ?_ | refine ax_q (q_eql rfl rfl) ?_ | refine ax_q (q_neq rfl rfl) ?_ | refine ax_q (q_pick rfl rfl) ?_ | refine ax_q (q_extract rfl rfl) ?_ | refine ax_q (q_len rfl rfl rfl) ?_)
  refine ax_cond_dec rfl (fun h => absurd h (by omega)) (fun h => ?_)
  repeat (first | refine ax_q (q_move rfl) ?_ | refine ax_q (q_assign rfl) ?_ | refine ax_ops_nil ?_ | refine ax_post_code ?_ | refine ax_seq ?_ | refine ax_region rfl ?_ | refine ax_block ?_ | refine ax_skip ?_ | refine ax_q (q_len rfl rfl rfl) ?_)
  refine ax_loop (ι := Nat) (fun k => [(5, .ro (seqsC l) 0 l.length), (7, .ro (.ints .i64 I) 0 I.length), (10, .int .i64 ((Z.take k).foldl (fun a b => a + b) 1)), (44, .ro (.ints .i64 Z) 0 Z.length), (45, .int .i64 (Z.length : Nat)), (46, .int .i64 (k : Nat))]) (fun _ => [])
    (fun k => k ≤ Z.length) (fun k => Z.length - k) 0 ⟨⟨rfl, rfl, rfl, rfl, rfl, rfl, trivial⟩, rfl, Nat.zero_le _⟩ ?_
  intro k hk
  repeat (first | refine ax_ops_nil ?_ | refine ax_post_code ?_ | refine ax_seq ?_ | refine ax_region rfl ?_ | refine ax_q (q_lss rfl rfl) ?_)
  refine ax_cond_dec rfl (fun h2 => ?_) (fun h2 => ?_)
  · have hk' : k < Z.length := by omega
    have hs : (Z.take (k + 1)).foldl (fun a b => a + b) 1 = (Z.take k).foldl (fun a b => a + b) 1 + Z.getD k 0 := by rw [take_snocI hk', List.foldl_append]; rfl
    have e1 := hsw k (by omega)
    have e2 := hsw (k + 1) (by omega)
    have e3 := hst k
    have e4 := hst (k + 1)
    generalize hm2 : (Z.take (k + 1)).foldl (fun a b => a + b) (1 : Int) = m2 at *
    generalize (Z.take k).foldl (fun a b => a + b) (1 : Int) = m1 at *
    repeat (first | refine ax_q (q_move rfl) ?_ | refine ax_q (q_assign rfl) ?_ | refine ax_q (q_loadi_rp rfl rfl rfl) ?_ | refine ax_ops_nil ?_ | refine ax_post_code ?_ | refine ax_seq ?_ | refine ax_region rfl ?_ | refine ax_post_blk ?_ | refine ax_block ?_ | refine ax_skip ?_ | refine ax_q (q_add rfl rfl (by omega)) ?_ | refine ax_q (q_index_ro' rfl rfl rfl rfl (by first | (simp only [Nat.zero_add, Int.toNat_natCast, Int.toNat_zero]; exact rfl) | exact rfl) (by omega)) ?_)
    exact ax_post_inv ⟨k + 1, by omega, by omega, ⟨rfl, rfl, by rw [hm2, hs]; rfl, rfl, rfl, rfl, trivial⟩, rfl⟩
  have hke : k = Z.length := by omega
  subst hke
  have hmany : (Z.take Z.length).foldl (fun a b => a + b) (1 : Int) = (l.length : Nat) := by
    rw [hsw Z.length (by omega), hZl, List.take_length, n1]; omega
  rw [hmany]
  repeat (first | refine ax_q (q_move rfl) ?_ | refine ax_post_code ?_ | refine ax_seq ?_ | refine ax_region rfl ?_ | refine ax_exit ?_ | refine ax_exit_here ?_ | refine ax_exit_code ?_ | refine ax_exit_inv ?_ | refine ax_q (q_neq rfl rfl) ?_ | refine ax_q (q_len rfl rfl rfl) ?_)
  refine ax_gsplit rfl rfl (fun h3 => absurd rfl h3) (fun h3 => ?_)
  repeat (first | refine ax_q (q_move rfl) ?_ | refine ax_ops_nil ?_ | refine ax_post_code ?_ | refine ax_guard rfl rfl ?_ | refine ax_q (q_pick rfl rfl) ?_ | refine ax_q (q_index_ro' rfl rfl rfl rfl (by first | (simp only [Nat.zero_add, Int.toNat_natCast, Int.toNat_zero]; exact rfl) | exact rfl) (by omega)) ?_ | refine ax_q (q_build rfl rfl rfl rfl rfl rfl) ?_ | refine ax_q (q_loadagg_rp rfl rfl rfl rfl rfl rfl) ?_ | refine ax_q (q_structneq rfl rfl rfl (by kernel_rfl) (by kernel_rfl) (by kernel_rfl) rfl) ?_)
  refine ax_slot 64 (.bool false) rfl (AEq.of_eq (by rw [n2]; rfl)) ?_
  have hl1 : (((l.length : Nat) : Int) - 1).toNat = l.length - 1 := by omega
  repeat (first | refine ax_q (q_move rfl) ?_ | refine ax_ops_nil ?_ | refine ax_post_code ?_ | refine ax_seq ?_ | refine ax_region rfl ?_ | refine ax_cond_false rfl ?_ | refine ax_skip ?_ | refine ax_q (q_len rfl rfl rfl) ?_ | refine ax_q (q_slice_ro rfl rfl rfl rfl rfl rfl rfl (by omega)) ?_)
  refine ax_slot 66 (.ro (seqsC l) 1 (l.length - 1)) rfl (AEq.of_eq (by
    show AV.ro (seqsC l) 1 (((l.length : Nat) : Int) - 1).toNat = _
    rw [hl1])) ?_
  refine ax_slot 67 (.int .i64 (l.length - 1 : Nat)) rfl (AEq.of_eq (by
    show AV.int .i64 (((((l.length : Nat) : Int) - 1).toNat : Nat) : Int) = _
    rw [hl1])) ?_
  repeat (refine ax_block ?_)
  refine ax_loop (ι := Nat) (fun k => [(5, .ro (seqsC l) 0 l.length), (7, .ro (.ints .i64 I) 0 I.length), (66, .ro (seqsC l) 1 (l.length - 1)), (67, .int .i64 (l.length - 1 : Nat)), (68, .int .i64 (k : Nat))]) (fun _ => [])
    (fun k => k ≤ l.length - 1) (fun k => l.length - 1 - k) 0 ⟨⟨rfl, rfl, rfl, rfl, rfl, trivial⟩, rfl, Nat.zero_le _⟩ ?_
  intro k hk
  repeat (first | refine ax_ops_nil ?_ | refine ax_post_code ?_ | refine ax_seq ?_ | refine ax_region rfl ?_ | refine ax_q (q_lss rfl rfl) ?_)
  refine ax_cond_dec rfl (fun h2 => ?_) (fun h2 => ?_)
  · have hk' : k + 1 < l.length := by omega
    obtain ⟨m1, m2, m3, m4⟩ := n4 k hk'
    have hc1 := hch k hk'
    have hk1 : 1 + k < l.length := by omega
    have hkl : k < l.length := by omega
    have hcon1 := hcon (l.getD (k + 1) seq0).info
    rw [show I.any (eqp (l.getD (k + 1) seq0).info) = true from List.any_eq_true.2 ⟨_, m1, by simp [eqp]⟩] at hcon1
    repeat (first | refine ax_q (q_move rfl) ?_ | refine ax_q (q_assign rfl) ?_ | refine ax_post_code ?_ | refine ax_seq ?_ | refine ax_region rfl ?_ | refine ax_block ?_ | refine ax_skip ?_ | refine ax_q (q_index_ro' rfl rfl rfl rfl (by first | (simp only [Nat.zero_add, Int.toNat_natCast, Int.toNat_zero]; exact rfl) | exact rfl) (by omega)) ?_ | refine ax_q (q_loadagg_rp rfl rfl rfl rfl rfl rfl) ?_ | refine ax_alloc rfl rfl rfl ?_)
    refine ax_slot_ops 72 (.agg (cellsS (l.getD (1 + k) seq0))) rfl (AEq.of_eq rfl) ?_
    refine ax_slot_ops 72 (.agg (cellsS (l.getD (k + 1) seq0))) rfl (AEq.of_eq (by rw [Nat.add_comm])) ?_
    generalize l.getD (k + 1) seq0 = q at *
    obtain ⟨nf, ch, bf⟩ := q
    simp only at *
    refine ax_storeagg (c' := .box [.int .i64 nf, .int .i64 ch, .int .i64 bf]) rfl rfl rfl rfl rfl Nat.zero_lt_one rfl rfl (fun i' j' hi' hj' => ?_) ?_
    · rw [if_pos (Nat.lt_one_iff.1 hi')]; rfl
    repeat (first | refine ax_ops_nil ?_ | refine ax_post_code ?_ | refine ax_seq ?_)
    refine ax_regiond (by kernel_rfl) ?_
    by_cases hc : 0 < ch
    · have m5 := m4 hc
      refine ax_any_run (fuel := 0) [0, 1, 2, 3, 4, 5, 6, 7, 8, 9, 10, 11, 12, 13, 14, 15, 16, 17, 18, 19, 20, 21, 22, 23, 24, 25, 26, 27, 28, 29, 30, 31, 32, 33, 34, 35] [(5, .ro (seqsC l) 0 l.length), (7, .ro (.ints .i64 I) 0 I.length), (66, .ro (seqsC l) 1 (l.length - 1)), (67, .int .i64 (l.length - 1 : Nat)), (68, .int .i64 (k : Nat)), (13, .int .i64 (k : Nat)), (14, .ptr 0 0 0)] ⟨rfl, rfl, rfl, rfl, rfl, rfl, rfl, trivial⟩ (by kernel_rfl) (by decide) rfl rfl ?_
      refine px_q rfl rfl (q_move rfl) ?_
      refine px_q rfl rfl (q_field_ptr rfl rfl rfl rfl rfl rfl) ?_
      refine px_q rfl rfl (q_loadb_ptr rfl rfl rfl rfl rfl) ?_
      refine px_v rfl rfl rfl rfl rfl hcon1 ?_
      refine px_q rfl rfl (q_not rfl) ?_
      refine px_q rfl rfl (q_move rfl) ?_
      refine px_gq rfl rfl rfl rfl (q_field_ptr rfl rfl rfl rfl rfl rfl) ?_
      refine px_gq rfl rfl rfl rfl (q_loadb_ptr rfl rfl rfl rfl rfl) ?_
      refine px_gq rfl rfl rfl rfl (q_lss rfl rfl) ?_
      rw [decide_eq_false (show ¬ bf < 0 by omega)]
      refine px_q rfl rfl (q_pick rfl rfl) ?_
      refine px_q rfl rfl (q_move rfl) ?_
      refine px_gq rfl rfl rfl rfl (q_field_ptr rfl rfl rfl rfl rfl rfl) ?_
      refine px_gq rfl rfl rfl rfl (q_loadb_ptr rfl rfl rfl rfl rfl) ?_
      refine px_gq rfl rfl rfl rfl (q_move rfl) ?_
      refine px_gq rfl rfl rfl rfl (q_gtr rfl rfl) ?_
      rw [decide_eq_false (show ¬ (k : Int) < bf by omega)]
      refine px_q rfl rfl (q_pick rfl rfl) ?_
      refine px_q rfl rfl (q_move rfl) ?_
      refine px_gq rfl rfl rfl rfl (q_field_ptr rfl rfl rfl rfl rfl rfl) ?_
      refine px_gq rfl rfl rfl rfl (q_loadb_ptr rfl rfl rfl rfl rfl) ?_
      refine px_gq rfl rfl rfl rfl (q_gtr rfl rfl) ?_
      rw [decide_eq_true hc]
      refine px_gq rfl rfl rfl rfl (q_move rfl) ?_
      refine px_gq rfl rfl rfl rfl (q_move rfl) ?_
      refine px_gq rfl rfl rfl rfl (q_move rfl) ?_
      refine px_gq rfl rfl rfl rfl (q_index_ro' rfl rfl rfl rfl (by first | (simp only [Nat.zero_add, Int.toNat_natCast, Int.toNat_zero]; exact rfl) | exact rfl) (by omega)) ?_
      refine px_gq rfl rfl rfl rfl (q_loadagg_rp rfl rfl rfl rfl rfl rfl) ?_
      refine px_gq rfl rfl rfl rfl (q_field_ptr rfl rfl rfl rfl rfl rfl) ?_
      refine px_gq rfl rfl rfl rfl (q_loadb_ptr rfl rfl rfl rfl rfl) ?_
      refine px_gq rfl rfl rfl rfl (q_field_ptr rfl rfl rfl rfl rfl rfl) ?_
      refine px_gq rfl rfl rfl rfl (q_loadb_ptr rfl rfl rfl rfl rfl) ?_
      refine px_gq rfl rfl rfl rfl (q_sub rfl rfl (by omega)) ?_
      refine px_gq rfl rfl rfl rfl (q_field_ptr rfl rfl rfl rfl rfl rfl) ?_
      refine px_gq rfl rfl rfl rfl (q_loadb_ptr rfl rfl rfl rfl rfl) ?_
      refine px_gq rfl rfl rfl rfl (q_build rfl rfl rfl rfl rfl rfl) ?_
      refine px_gq rfl rfl rfl rfl (q_structneq (L := cellsS (l.getD k seq0)) (M := cellsS ⟨nf, ch - 1, bf⟩) (b := decide ((l.getD k seq0).info = nf) && (decide ((l.getD k seq0).choice = ch - 1) && (decide ((l.getD k seq0).before = bf) && true))) rfl rfl rfl rfl (by kernel_rfl) (by kernel_rfl) rfl) ?_
      rw [m5, decide_eq_true rfl, decide_eq_true rfl, decide_eq_true rfl]
      refine px_gq rfl rfl rfl rfl (q_pick rfl rfl) ?_
      refine px_q rfl rfl (q_pick rfl rfl) ?_
      refine px_done ?_
      refine ax_any_done (by kernel_rfl) ?_
      skip
      refine ax_post_code ?_
      repeat (first | refine ax_cond_false rfl ?_ | refine ax_post_blk ?_ | refine ax_skip ?_)
      refine ax_post_code ?_
      refine ax_cutP [] [some ⟨80, .box [.int .i64 nf, .int .i64 ch, .int .i64 bf]⟩] [(5, .ro (seqsC l) 0 l.length), (7, .ro (.ints .i64 I) 0 I.length), (66, .ro (seqsC l) 1 (l.length - 1)), (67, .int .i64 (l.length - 1 : Nat)), (68, .int .i64 (k : Nat))] rfl ⟨rfl, rfl, rfl, rfl, rfl, trivial⟩ (fun h hh => by rw [hfix] at hh; exact absurd hh id) (fun h o ho => by simp at ho) rfl ?_
      repeat (first | refine ax_q (q_move rfl) ?_ | refine ax_ops_nil ?_ | refine ax_region rfl ?_ | refine ax_q (q_add rfl rfl (by omega)) ?_)
      exact ax_post_inv ⟨k + 1, by omega, by omega, ⟨rfl, rfl, rfl, rfl, rfl, trivial⟩, rfl⟩
    · refine ax_any_run (fuel := 0) [0, 1, 2, 3, 4, 5, 6, 7, 8, 9, 10, 11, 12, 13, 14, 15, 16, 17, 18, 19, 20, 21, 22, 23, 24, 25, 26, 27, 28, 29, 30, 31, 32, 33, 34, 35] [(5, .ro (seqsC l) 0 l.length), (7, .ro (.ints .i64 I) 0 I.length), (66, .ro (seqsC l) 1 (l.length - 1)), (67, .int .i64 (l.length - 1 : Nat)), (68, .int .i64 (k : Nat)), (13, .int .i64 (k : Nat)), (14, .ptr 0 0 0)] ⟨rfl, rfl, rfl, rfl, rfl, rfl, rfl, trivial⟩ (by kernel_rfl) (by decide) rfl rfl ?_
      refine px_q rfl rfl (q_move rfl) ?_
      refine px_q rfl rfl (q_field_ptr rfl rfl rfl rfl rfl rfl) ?_
      refine px_q rfl rfl (q_loadb_ptr rfl rfl rfl rfl rfl) ?_
      refine px_v rfl rfl rfl rfl rfl hcon1 ?_
      refine px_q rfl rfl (q_not rfl) ?_
      refine px_q rfl rfl (q_move rfl) ?_
      refine px_gq rfl rfl rfl rfl (q_field_ptr rfl rfl rfl rfl rfl rfl) ?_
      refine px_gq rfl rfl rfl rfl (q_loadb_ptr rfl rfl rfl rfl rfl) ?_
      refine px_gq rfl rfl rfl rfl (q_lss rfl rfl) ?_
      rw [decide_eq_false (show ¬ bf < 0 by omega)]
      refine px_q rfl rfl (q_pick rfl rfl) ?_
      refine px_q rfl rfl (q_move rfl) ?_
      refine px_gq rfl rfl rfl rfl (q_field_ptr rfl rfl rfl rfl rfl rfl) ?_
      refine px_gq rfl rfl rfl rfl (q_loadb_ptr rfl rfl rfl rfl rfl) ?_
      refine px_gq rfl rfl rfl rfl (q_move rfl) ?_
      refine px_gq rfl rfl rfl rfl (q_gtr rfl rfl) ?_
      rw [decide_eq_false (show ¬ (k : Int) < bf by omega)]
      refine px_q rfl rfl (q_pick rfl rfl) ?_
      refine px_q rfl rfl (q_move rfl) ?_
      refine px_gq rfl rfl rfl rfl (q_field_ptr rfl rfl rfl rfl rfl rfl) ?_
      refine px_gq rfl rfl rfl rfl (q_loadb_ptr rfl rfl rfl rfl rfl) ?_
      refine px_gq rfl rfl rfl rfl (q_gtr rfl rfl) ?_
      rw [decide_eq_false hc]
      refine px_gq rfl rfl rfl rfl (q_move rfl) ?_
      refine px_gno rfl rfl rfl rfl rfl ?_
      refine px_gno rfl rfl rfl rfl rfl ?_
      refine px_gno rfl rfl rfl rfl rfl ?_
      refine px_gno rfl rfl rfl rfl rfl ?_
      refine px_gno rfl rfl rfl rfl rfl ?_
      refine px_gno rfl rfl rfl rfl rfl ?_
      refine px_gno rfl rfl rfl rfl rfl ?_
      refine px_gno rfl rfl rfl rfl rfl ?_
      refine px_gno rfl rfl rfl rfl rfl ?_
      refine px_gno rfl rfl rfl rfl rfl ?_
      refine px_gno rfl rfl rfl rfl rfl ?_
      refine px_gno rfl rfl rfl rfl rfl ?_
      refine px_gno rfl rfl rfl rfl rfl ?_
      refine px_gq rfl rfl rfl rfl (q_pick rfl rfl) ?_
      refine px_q rfl rfl (q_pick rfl rfl) ?_
      refine px_done ?_
      refine ax_any_done (by kernel_rfl) ?_
      skip
      refine ax_post_code ?_
      repeat (first | refine ax_cond_false rfl ?_ | refine ax_post_blk ?_ | refine ax_skip ?_)
      refine ax_post_code ?_
      refine ax_cutP [] [some ⟨80, .box [.int .i64 nf, .int .i64 ch, .int .i64 bf]⟩] [(5, .ro (seqsC l) 0 l.length), (7, .ro (.ints .i64 I) 0 I.length), (66, .ro (seqsC l) 1 (l.length - 1)), (67, .int .i64 (l.length - 1 : Nat)), (68, .int .i64 (k : Nat))] rfl ⟨rfl, rfl, rfl, rfl, rfl, trivial⟩ (fun h hh => by rw [hfix] at hh; exact absurd hh id) (fun h o ho => by simp at ho) rfl ?_
      repeat (first | refine ax_q (q_move rfl) ?_ | refine ax_ops_nil ?_ | refine ax_region rfl ?_ | refine ax_q (q_add rfl rfl (by omega)) ?_)
      exact ax_post_inv ⟨k + 1, by omega, by omega, ⟨rfl, rfl, rfl, rfl, rfl, trivial⟩, rfl⟩
  · repeat (first | refine ax_q (q_assign rfl) ?_ | refine ax_ops_nil ?_ | refine ax_post_code ?_ | refine ax_seq ?_ | refine ax_region rfl ?_ | refine ax_exit ?_ | refine ax_exit_here ?_ | refine ax_exit_code ?_ | refine ax_exit_inv ?_ | refine ax_return ?_)
    exact ax_ret hR rfl rfl
end Go.Proofs.YtgmleamhjnlknaaGreatDoor

namespace Go.Proofs.YtgmleamhjnlknaaGreatDoor
open Go.ChangeShapes Go.WideShapes

theorem ownIt : ownKnob Tryz.prog.godebug = none := by kernel_rfl
theorem laidIt : laidOutB Tryz.prog = true := by kernel_rfl
theorem rowedIt : mapsRowed Tryz.prog = true := by kernel_rfl
theorem fullIt : ((List.range Tryz.prog.types.size).all fun t => match Tryz.prog.underlying t with | some (.slice e) => decide (0 < Tryz.prog.cellsOf e) | _ => true) = true := by kernel_rfl
theorem stopsIt : (Tryz.prog.stops == []) = true := by kernel_rfl
theorem knobsIt : (Tryz.prog.stopKnobs == []) = true := by kernel_rfl
theorem heardIt : Tryz.prog.stopsHeard = true := by kernel_rfl
theorem enterIt : Tryz.prog.mayEnter = true := by kernel_rfl
theorem liftIt : (Rows.regretContinuesRow.lifted == Tryz.prog.liftsFinal) = true := by kernel_rfl
theorem makeIt : (Tryz.prog.make == some Rows.regretContinuesRow.make) = true := by kernel_rfl
theorem plainIt : (Rows.regretContinuesRow.plainKeys == Tryz.prog.plainKeys) = true := by kernel_rfl
theorem harnessIt : Tryz.prog.mainIs = some (true, ("01fbb469cf8b0980b89ab124d6c951f307d4b37b82991b3a2bba3582623a25d4" : String).toList) := by kernel_rfl
theorem looksIt : true = Tryz.prog.looks [] := by kernel_rfl
end Go.Proofs.YtgmleamhjnlknaaGreatDoor

