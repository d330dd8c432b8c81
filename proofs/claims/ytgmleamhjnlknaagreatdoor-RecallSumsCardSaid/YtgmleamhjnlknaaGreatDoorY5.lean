import Derived.Laws.Bits64
import Derived.Test.YtgmleamhjnlknaaGreatDoorRows
import Derived.Test.YtgmleamhjnlknaaGreatDoorTie
import Derived.Test.YtgmleamhjnlknaaGreatDoorCards
import Derived.LaidMore
import Derived.Lay
import Derived.SevenTiedAt
import Derived.Stop.Joined
import Derived.Stop.ErrReads
import Derived.MakeChecks
import Derived.Test.YtgmleamhjnlknaaGreatDoorY4
set_option linter.unusedVariables false
set_option linter.unusedSimpArgs false
namespace Go.Proofs.YtgmleamhjnlknaaGreatDoor
open Go.Ax Go.Ax.Bg Go.Ax.Rt Go.RowKit Go.Ax.Idx Go.Ax.Cd
attribute [local irreducible] Ax zAV QOp zV zAJ
set_option maxRecDepth 100000
set_option maxHeartbeats 4000000
end Go.Proofs.YtgmleamhjnlknaaGreatDoor
namespace Go.Proofs.YtgmleamhjnlknaaGreatDoor
open Go.Ax Go.Ax.Bg Go.Ax.Rt Go.RowKit Go.Ax.Idx Go.Ax.Cd
attribute [local irreducible] Ax zAV QOp zV zAJ
set_option maxRecDepth 100000
set_option maxHeartbeats 4000000
def zFo (x : Int × Int) : List AV := [.int .i64 x.1, .int .i64 x.2]
abbrev zBC (l : zBt) : Cells := zCN (0, 0) 2 zFo l
end Go.Proofs.YtgmleamhjnlknaaGreatDoor
namespace Go.Proofs.YtgmleamhjnlknaaGreatDoor
open Go.Ax Go.Ax.Bg Go.Ax.Rt Go.RowKit Go.Ax.Idx Go.Ax.Cd
attribute [local irreducible] Ax zAV QOp zV zAJ
set_option maxRecDepth 100000
set_option maxHeartbeats 4000000
end Go.Proofs.YtgmleamhjnlknaaGreatDoor
namespace Go.Proofs.YtgmleamhjnlknaaGreatDoor
open Go.Ax Go.Ax.Bg Go.Ax.Rt Go.RowKit Go.Ax.Idx Go.Ax.Cd
attribute [local irreducible] Ax zAV QOp zV zAJ
set_option maxRecDepth 100000
set_option maxHeartbeats 4000000
end Go.Proofs.YtgmleamhjnlknaaGreatDoor
namespace Go.Proofs.YtgmleamhjnlknaaGreatDoor
open Go.Ax Go.Ax.Bg Go.Ax.Rt Go.RowKit Go.Ax.Idx Go.Ax.Cd
attribute [local irreducible] Ax zAV QOp zV zAJ
set_option maxRecDepth 100000
set_option maxHeartbeats 4000000
end Go.Proofs.YtgmleamhjnlknaaGreatDoor
namespace Go.Proofs.YtgmleamhjnlknaaGreatDoor
open Go.Ax Go.Ax.Bg Go.Ax.Rt Go.RowKit Go.Ax.Idx Go.Ax.Cd
attribute [local irreducible] Ax zAV QOp zV zAJ
set_option maxRecDepth 100000
set_option maxHeartbeats 4000000
end Go.Proofs.YtgmleamhjnlknaaGreatDoor
namespace Go.Ax
variable [Pins]
open Go.RowKit
section
variable {ind : Bool} {P : Program} {fn : Func} {c : Ctx} {fr : Fr} {H : zg} {k : List It}
variable {d : Option Nat} {ty : TypeId} {pos : String} {after : Array Edge} {g : Option (Nat × Bool)}
/-- Own objects of one kind, one behind the other. -/
def manyH {α : Type} (t : TypeId) (f : α → Cells) (l : List α) : zg := l.map (fun a => some ⟨t, f a⟩)
end
end Go.Ax
namespace Go.Ax
variable [Pins]
open Go.RowKit
mutual
/-- The objects stand behind N others. -/
def AV.shift (N : Nat) : AV → AV
 | .sl h i n => .sl (h + N) i n
 | .ptr h i j => .ptr (h + N) i j
 | .fn f l => .fn f (AV.shifts N l)
 | .agg l => .agg (AV.shifts N l)
 | .tup l => .tup (AV.shifts N l)
 | .mp h => .mp (h + N)
 | v => v
def AV.shifts (N : Nat) : List AV → List AV
 | [] => []
 | v :: r => v.shift N :: AV.shifts N r
end
theorem zAo (N : Nat) (l : List AV) : (AV.shifts N l).length = l.length := by
 have _pin := (inferInstance : Pins)
 induction l with
 | nil => rfl
 | cons v r ih => simp [AV.shifts, ih]
theorem zCJ (N : Nat) (l : List AV) (i : Nat) (hi : i < l.length) : (AV.shifts N l).getD i .any = (l.getD i .any).shift N := by
 have _pin := (inferInstance : Pins)
 induction l generalizing i with
 | nil => simp at hi
 | cons v r ih => cases i with
   | zero => rfl
   | succ i => simpa [AV.shifts] using ih i (by simpa using hi)
theorem VR.shift {w : World} {S : Nat → Prop} {σ : Nat → Option Blk} {x : AV} {v : Value} {N : Nat} (hv : VR w S σ x v) : ∀ σ' : Nat → Option Blk, (∀ h B, σ h = some B → σ' (h + N) = some B) → VR w S σ' (x.shift N) v := by
 induction hv with
 | int => intros; constructor
 | bool => intros; constructor
 | str => intros; constructor
 | nil => intros; constructor
 | ro0 => intros; constructor
 | ro σ c i len b o cap val hSb hlen hc hv h1 ih => intro σ' _; exact .ro _ _ _ _ _ _ _ val hSb hlen hc hv h1
 | sl σ h' i len b s C cap hσ hlen hcap => intro σ' hs; exact .sl _ _ _ _ _ _ _ _ (hs _ _ hσ) hlen hcap
 | sl0 σ h' hσ => intro σ' hs; exact .sl0 _ _ (hs _ _ hσ)
 | rp σ c i j b o val hSb hc hv h1 ih => intro σ' _; exact .rp _ _ _ _ _ _ val hSb hc hv h1
 | ptr σ h' i j b s C hσ => intro σ' hs; exact .ptr _ _ _ _ _ _ _ (hs _ _ hσ)
 | nilp => intros; constructor
 | fn σ f cap vs hl hv ih => intro σ' hs; exact .fn _ _ _ _ (by rw [zAo]; exact hl) (fun i hi => by rw [zAo] at hi; rw [zCJ N cap i hi]; exact ih i hi σ' hs)
 | nilfn => intros; constructor
 | iface => intros; constructor
 | nilif => intros; constructor
 | agg σ l vs hl hv h1 ih => intro σ' hs; exact .agg _ _ _ (by rw [zAo]; exact hl) (fun i hi => by rw [zAo] at hi; rw [zCJ N l i hi]; exact ih i hi σ' hs) (fun i hi => h1 i (by rwa [zAo] at hi))
 | tup σ l vs hl hv ih => intro σ' hs; exact .tup _ _ _ (by rw [zAo]; exact hl) (fun i hi => by rw [zAo] at hi; rw [zCJ N l i hi]; exact ih i hi σ' hs)
 | mp σ h' b hσ => intro σ' hs; exact .mp _ _ _ (hs _ _ hσ)
 | rom σ ks vs b es clock e hSb hb hn hl hd he hk hv => intro σ' hs; exact .rom _ _ _ b es clock e hSb hb hn hl hd he hk hv
 | any => intros; constructor
def Cells.shift (N : Nat) : Cells → Cells
 | .ints k l => .ints k l
 | .strs l => .strs l
 | .box l => .box (AV.shifts N l)
 | .mp ks vs => .mp (AV.shifts N ks) (AV.shifts N vs)
 | .fn n s f => .fn n s (fun i j => (f i j).shift N)
theorem Cells.shift_len (N : Nat) (c : Cells) : (c.shift N).len = c.len := by have _pin := (inferInstance : Pins); cases c <;> rfl
theorem Cells.shift_sz (N : Nat) (c : Cells) : (c.shift N).sz = c.sz := by
 cases c <;> first | rfl | exact zAo _ _
theorem Cells.shift_at (N : Nat) (c : Cells) (i j : Nat) (hj : j < c.sz) : (c.shift N).at i j = (c.at i j).shift N := by
 cases c with
 | box l => exact zCJ N l j hj
 | _ => rfl
def zHq (N : Nat) : Option AObj → Option AObj
 | some o => some ⟨o.ty, o.c.shift N⟩
 | none => none
def zDT (N : Nat) : zg → zg
 | [] => []
 | o :: r => zHq N o :: zDT N r
theorem zH7 (N : Nat) (H : zg) (i : Nat) : (zDT N H)[i]? = (H[i]?).map (zHq N) := by
 have _pin := (inferInstance : Pins)
 induction H generalizing i with
 | nil => simp [zDT]
 | cons o r ih => cases i with
   | zero => simp [zDT]
   | succ i => simpa [zDT] using ih i
theorem zIH (N : Nat) (H : zg) : (zDT N H).length = H.length := by
 have _pin := (inferInstance : Pins)
 induction H with
 | nil => rfl
 | cons o r ih => simp [zDT, ih]
theorem Lays.shift {w : World} {S : Nat → Prop} {σ σ' : Nat → Option Blk} {t : TypeId} {c : Cells} {b : Nat} {cur : Array Value} {C : Nat} {N : Nat} (hs : ∀ h B, σ h = some B → σ' (h + N) = some B)
   (hL : Lays w S σ ⟨t, c⟩ b cur C) : Lays w S σ' ⟨t, c.shift N⟩ b cur C := by
 have _pin := (inferInstance : Pins)
 cases hL with
 | row mk h hm hC => exact .row mk h hm hC
 | map ks vs es clock hc hC h hn hl hd he =>
   simp only at hc
   subst hc
   exact .map _ _ es clock rfl hC h (by rw [zAo]; exact hn) (by rw [zAo, zAo]; exact hl) hd (fun i hi => by
     rw [zAo] at hi
     obtain ⟨e, e1, e2, e3⟩ := he i hi
     exact ⟨e, e1, by rw [zCJ _ _ _ hi]; exact e2.shift σ' hs, by rw [zCJ _ _ _ (by omega)]; exact e3.shift σ' hs⟩)
def zDB (N : Nat) (σ σ0 : Nat → Option Blk) (h : Nat) : Option Blk := if h < N then σ h else σ0 (h - N)
theorem zFs {N : Nat} {σ σ0 : Nat → Option Blk} : ∀ h B, σ0 h = some B → zDB N σ σ0 (h + N) = some B := by
 have _pin := (inferInstance : Pins)
 intro h B hB
 unfold zDB
 rw [if_neg (by omega), Nat.add_sub_cancel]; exact hB
theorem HR.join {w : World} {S : Nat → Prop} {σ σ0 : Nat → Option Blk} {H H0 : zg} (h : HR w S σ H) (h0 : HR w S σ0 H0)
   (hd : ∀ h h' o o' b s C s' C', H[h]? = some (some o) → H0[h']? = some (some o') → σ h = some (.at b s C) → σ0 h' = some (.at b s' C') → False) :
   HR w S (zDB H.length σ σ0) (H ++ zDT H.length H0) := by
 have hfr : ∀ h B, σ h = some B → zDB H.length σ σ0 h = some B := by
   intro h' B hB
   unfold zDB
   split
   · exact hB
   · rename_i hl; rw [h.dom h' (by omega)] at hB; cases hB
 have hcase : ∀ h' o', (H ++ zDT H.length H0)[h']? = some (some o') → (h' < H.length ∧ H[h']? = some (some o')) ∨ (H.length ≤ h' ∧ ∃ o, H0[h' - H.length]? = some (some o) ∧ o' = ⟨o.ty, o.c.shift H.length⟩) := by
   intro h' o' ho
   by_cases he : h' < H.length
   · rw [List.getElem?_append_left he] at ho; exact .inl ⟨he, ho⟩
   · rw [List.getElem?_append_right (by omega), zH7] at ho
     cases e : H0[h' - H.length]? with
     | none => rw [e] at ho; cases ho
     | some x =>
       rw [e] at ho
       cases x with
       | none => simp [zHq] at ho
       | some o => simp [zHq] at ho; exact .inr ⟨by omega, o, rfl, ho.symm⟩
 refine ⟨fun h' o' ho => ?_, fun h1 h2 o1 o2 b s C s' C' q1 q2 e1 e2 => ?_, h.small, fun h' hl => ?_⟩
 · rcases hcase h' o' ho with ⟨hl, ho'⟩ | ⟨hl, o, ho', rfl⟩
   · rcases h.live h' o' ho' with ⟨h1, h2⟩ | ⟨b, C, cur, h1, h2, h3, h4, h5, h6, h7⟩
     · exact .inl ⟨hfr _ _ h1, h2⟩
     · refine .inr ⟨b, C, cur, hfr _ _ h1, h2.mono rfl (fun hv => hv.mono (fun _ h => h) (fun _ _ => rfl) _ hfr), h3, h4, h5, h6, fun i j hi hj => ?_⟩
       obtain ⟨v, e1, e2, e3⟩ := h7 i j hi hj
       exact ⟨v, e1, e2.mono (fun _ h => h) (fun _ _ => rfl) _ hfr, e3⟩
   · have hj : zDB H.length σ σ0 h' = σ0 (h' - H.length) := by unfold zDB; rw [if_neg (by omega)]
     rw [hj]
     rcases h0.live _ o ho' with ⟨h1, h2⟩ | ⟨b, C, cur, h1, h2, h3, h4, h5, h6, h7⟩
     · exact .inl ⟨h1, by rw [Cells.shift_len]; exact h2⟩
     · refine .inr ⟨b, C, cur, by rw [Cells.shift_sz]; exact h1, Lays.shift zFs h2, by rw [Cells.shift_sz]; exact h3, h4, by rw [Cells.shift_len]; exact h5, h6, fun i j hi hj => ?_⟩
       rw [Cells.shift_len] at hi
       rw [Cells.shift_sz] at hj ⊢
       obtain ⟨v, e1, e2, e3⟩ := h7 i j hi hj
       exact ⟨v, e1, by rw [Cells.shift_at _ _ _ _ hj]; exact e2.shift _ zFs, e3⟩
 · rcases hcase h1 o1 q1 with ⟨l1, r1⟩ | ⟨l1, x1, r1, rfl⟩ <;> rcases hcase h2 o2 q2 with ⟨l2, r2⟩ | ⟨l2, x2, r2, rfl⟩
   · unfold zDB at e1 e2
     rw [if_pos l1] at e1
     rw [if_pos l2] at e2
     exact h.dist h1 h2 o1 o2 b s C s' C' r1 r2 e1 e2
   · unfold zDB at e1 e2
     rw [if_pos l1] at e1
     rw [if_neg (by omega)] at e2
     exact (hd _ _ _ _ _ _ _ _ _ r1 r2 e1 e2).elim
   · unfold zDB at e1 e2
     rw [if_neg (by omega)] at e1
     rw [if_pos l2] at e2
     exact (hd _ _ _ _ _ _ _ _ _ r2 r1 e2 e1).elim
   · unfold zDB at e1 e2
     rw [if_neg (by omega)] at e1 e2
     have := h0.dist _ _ x1 x2 b s C s' C' r1 r2 e1 e2
     omega
 · rw [List.length_append, zIH] at hl
   unfold zDB
   rw [if_neg (by omega)]
   exact h0.dom _ (by omega)
/-- All that a function makes belongs to its caller. -/
theorem zV.lift {P : Program} {f : FuncId} {args : List AV} {fix : Nat → Prop} {K K' : AV → zg → Prop} {H : zg} (hc : zV P f args [] fix K) (hfx : ∀ h, ¬ fix h) (hn : noRef.noRefs args = true)
   (hK : ∀ (r0 : AV) (H0 : zg), K r0 H0 → K' (r0.shift H.length) (H ++ zDT H.length H0)) : zV P f args H (fun h => h < H.length) K' := by
 refine ⟨hc.1, fun w σ S vals hp hr hf hv => ?_⟩
 have hp0 : zDw w S (fun _ => none) [] := hp.less (fun _ h => h) (fun _ h => h.nil)
 refine (hc.2 w (fun _ => none) S vals hp0 hr.empty (fun h hh => absurd hh (hfx h)) (hv.closed hn _)).mono ?_
 rintro e w' ⟨v, r0, σ', S', H0, rfl, g1, g2, g3, g4⟩
 obtain ⟨a1, a2⟩ := HR.after hr g1 g3
 have a3 := a2 K' hp
 have hno : ∀ b, ¬ zEm (fun _ => none) [] b := by rintro b ⟨h, o, s, C, h1, _⟩; simp at h1
 have hlto : ∀ h o b s C, H[h]? = some (some o) → σ h = some (.at b s C) → b < w.heap.size := by
   intro h o b s C ho hb
   rcases hr.live h o ho with ⟨hn, _⟩ | ⟨b', C', cur, hσ', g, _⟩
   · rw [hb] at hn; cases hn
   · rw [hb] at hσ'
     simp only [Option.some.injEq, Blk.at.injEq] at hσ'
     rw [hσ'.1]
     exact g.lt
 have hnew : ∀ h o b s C, H0[h]? = some (some o) → σ' h = some (.at b s C) → w.heap.size ≤ b := by
   intro h o b s C ho hb
   rcases g3.own h o b s C ho hb with h3 | h3
   · exact absurd h3 (hno b)
   · exact h3
 have hj := a1.join g1 (fun h h' o o' b s C s' C' q1 q2 e1 e2 => by
   have := hlto h o b s C q1 e1
   have := hnew h' o' b s' C' q2 e2
   omega)
 refine ⟨v, _, _, S', _, rfl, hj, g2.shift _ zFs, ⟨a3.os, a3.output, a3.tape, a3.size, a3.block, a3.S1, a3.S2, fun h hl => ?_, fun h hl => ?_, fun h o b s C ho hb => ?_⟩, hK r0 H0 g4⟩
 · have hl : h < H.length := hl
   show zDB H.length σ σ' h = σ h
   unfold zDB; rw [if_pos hl]
 · have hl : h < H.length := hl
   rw [List.length_append]; omega
 · by_cases he : h < H.length
   · rw [List.getElem?_append_left he] at ho
     unfold zDB at hb
     rw [if_pos he] at hb
     exact .inl ⟨h, o, s, C, ho, hb⟩
   · rw [List.getElem?_append_right (by omega), zH7] at ho
     unfold zDB at hb
     rw [if_neg he] at hb
     cases e : H0[h - H.length]? with
     | none => rw [e] at ho; cases ho
     | some x =>
       rw [e] at ho
       cases x with
       | none => simp [zHq] at ho
       | some o' => exact .inr (hnew _ o' b s C e hb)
/-- A contract on a function that makes several objects: they are the caller's. -/
def MCall (P : Program) (f : FuncId) (args : List AV) (r : AV) (H0 : zg) : Prop := ∀ H, zV P f args H (fun h => h < H.length) (fun r' H' => r' = r.shift H.length ∧ H' = H ++ zDT H.length H0)
theorem zV.many {P : Program} {f : FuncId} {args : List AV} {fix : Nat → Prop} {r : AV} {H0 : zg} (hc : zV P f args [] fix (fun r' H' => r' = r ∧ H' = H0)) (hfx : ∀ h, ¬ fix h) (hn : noRef.noRefs args = true) : MCall P f args r H0 := fun H =>
 hc.lift hfx hn (fun r0 H1 h => by obtain ⟨rfl, rfl⟩ := h; exact ⟨rfl, rfl⟩)
section
variable {P : Program} {fn : Func} {c : Ctx} {fr : Fr} {H : zg} {k : List It} {all : Array Oper} {d : Nat} {g : Operand} {args : List Operand} {ats : Array TypeId} {ty : TypeId} {pos : String} {after : Array Edge} {rest : List Oper} {f : FuncId}
end
mutual
theorem zKI : ∀ (x : AV), noRef x = true → ∀ N, x.shift N = x
 | .int _ _, _, _ => rfl
 | .bool _, _, _ => rfl
 | .str _, _, _ => rfl
 | .nil, _, _ => rfl
 | .ro _ _ _, _, _ => rfl
 | .sl _ _ _, h, _ => by simp [noRef] at h
 | .rp _ _ _, _, _ => rfl
 | .ptr _ _ _, h, _ => by simp [noRef] at h
 | .nilp, _, _ => rfl
 | .fn f l, h, N => by
   have _pin := (inferInstance : Pins)
   simp only [AV.shift]; rw [zDI l (by simpa [noRef] using h) N]
 | .nilfn, _, _ => rfl
 | .iface, _, _ => rfl
 | .nilif, _, _ => rfl
 | .agg l, h, N => by simp only [AV.shift]; rw [zDI l (by simpa [noRef] using h) N]
 | .tup l, h, N => by simp only [AV.shift]; rw [zDI l (by simpa [noRef] using h) N]
 | .mp _, h, _ => by simp [noRef] at h
 | .rom _ _, _, _ => rfl
 | .any, _, _ => rfl
theorem zDI : ∀ (l : List AV), noRef.noRefs l = true → ∀ N, AV.shifts N l = l
 | [], _, _ => rfl
 | v :: r, h, N => by
   have _pin := (inferInstance : Pins)
   simp only [noRef.noRefs, Bool.and_eq_true] at h
   simp only [AV.shifts]
   rw [zKI v h.1 N, zDI r h.2 N]
end
end Go.Ax
namespace Go.Proofs.YtgmleamhjnlknaaGreatDoor
open Go.Ax Go.Ax.Bg Go.Ax.Rt Go.RowKit Go.Ax.Idx Go.Ax.Cd
attribute [local irreducible] Ax zAV QOp zV zAJ
set_option maxRecDepth 100000
set_option maxHeartbeats 4000000
def bothA (p : (List zAZ × List zAZ) × Int) : AV := .tup [.ro (.strs p.1.1) 0 p.1.1.length, .ro (.strs p.1.2) 0 p.1.2.length, .int .i64 p.2]
end Go.Proofs.YtgmleamhjnlknaaGreatDoor
namespace Go.Proofs.YtgmleamhjnlknaaGreatDoor
open Go.Ax Go.Ax.Bg Go.Ax.Rt Go.RowKit Go.Ax.Idx Go.Ax.Cd
attribute [local irreducible] Ax zAV QOp zV zAJ
set_option maxRecDepth 100000
set_option maxHeartbeats 4000000
end Go.Proofs.YtgmleamhjnlknaaGreatDoor
namespace Go.Proofs.YtgmleamhjnlknaaGreatDoor
open Go.Ax Go.Ax.Bg Go.Ax.Rt Go.RowKit Go.Ax.Idx Go.Ax.Cd
attribute [local irreducible] Ax zAV QOp zV zAJ
set_option maxRecDepth 100000
set_option maxHeartbeats 4000000
def averageR (m : List (List zAZ)) (l : zBt) : (List zAZ × List zAZ) × Int :=
 if zIR m l ≠ 0 then (([], []), zIR m l) else if l = [] then (([], []), 8)
 else bothR ((cntQ Prod.fst l m.length).map (fun q => q / (l.length : Rat))) ((cntQ Prod.snd l (zDC m)).map (fun q => q / (l.length : Rat)))
def boundsA (p : (zAZ × zAZ) × Int) : AV := .tup [.str p.1.1, .str p.1.2, .int .i64 p.2]
end Go.Proofs.YtgmleamhjnlknaaGreatDoor
namespace Go.Proofs.YtgmleamhjnlknaaGreatDoor
open Go.Ax Go.Ax.Bg Go.Ax.Rt Go.RowKit Go.Ax.Idx Go.Ax.Cd
attribute [local irreducible] Ax zAV QOp zV zAJ
set_option maxRecDepth 100000
set_option maxHeartbeats 4000000
/-- Numbers that may not be there yet. -/
def cellsZ : Option Rat → List AV
 | some q => zAg q
 | none => [.bool false, .nil, .nil]
abbrev zsC (l : List (Option Rat)) : Cells := zCN none 3 cellsZ l
def histA (p : zBt × Int) : AV := .tup [.ro (zBC p.1) 0 p.1.length, .int .i64 p.2]
theorem zFi (l : zBt) : zAO (zBC l) := by
 intro i j _ hj
 have hj : j < 2 := hj
 match j, hj with
 | 0, _ => rfl
 | 1, _ => rfl
end Go.Proofs.YtgmleamhjnlknaaGreatDoor
namespace Go.Ax
variable [Pins]
open Go.RowKit
def eqIs (P : Program) (e : TypeId) (L M : List AV) : List Nat → Option Bool
 | [] => some true
 | i :: is => match eqIs P e L M is, L[i]?, M[i]? with
   | some r, some x, some y => (sclEq P e x y).map (· && r)
   | _, _, _ => none
theorem zJf {P : Program} {w w' : World} {S : Nat → Prop} {σ : Nat → Option Blk} {L M : List AV} {xs ys : Array Value} {d : Nat} {e : TypeId} (h1 : xs.size = L.length) (h2 : ∀ i, i < L.length → VR w S σ (L.getD i .any) (xs.getD i undef)) (h3 : ys.size = M.length) (h4 : ∀ i, i < M.length → VR w S σ (M.getD i .any) (ys.getD i undef)) :
   ∀ (is : List Nat) (b : Bool), eqIs P e L M is = some b → (Op.eqItems (d + 1) e 1 xs ys is).run P w' = .ok b w'
 | [], b, h => by simp [eqIs] at h; subst h; simp [Op.eqItems]
 | i :: is, b, h => by
   simp only [eqIs] at h
   split at h
   · rename_i r x y hr hL hM
     have ih := zJf (d := d) (w' := w') h1 h2 h3 h4 is r hr
     obtain ⟨v1, e1, r1⟩ := zHB h1 h2 hL
     obtain ⟨v2, e2, r2⟩ := zHB h3 h4 hM
     obtain ⟨q, hq, hb⟩ := Option.map_eq_some_iff.1 h
     obtain ⟨hp, hrun⟩ := zIr (w' := w') hq r1 r2 d
     simp only [Op.eqItems, Nat.mul_one]
     simp only [Sem.run_bind, run_part_plain w' hp e1, Result.andThen_ok, run_part_plain w' hp e2, hrun]
     subst hb
     cases q with
     | false => simp
     | true => simpa using ih
   · cases h
section
variable {P : Program} {fn : Func} {c : Ctx} {fr : Fr} {H : zg} {k : List It} {ind : Bool} {d : Option Nat} {ty : TypeId} {pos : String} {after : Array Edge} {g : Option (Nat × Bool)}
theorem q_arrneq {x y : Operand} {t t' e : TypeId} {n : Nat} {inf : TypeInfo} {L M : List AV} {b : Bool} (hx : ev fr x = some (.agg L)) (hy : ev fr y = some (.agg M)) (ht : P.underlying t = some (.array n e)) (hi : P.info? e = some inf) (hc : P.cellsOf e = 1) (hg : P.eqGuardType P.depth t = false)
   (he : eqIs P e L M (List.range n) = some b) : QOp ind P fn c fr H ⟨d, .binOp .neq t x y t', ty, pos, after, g⟩ (.bool (!b)) := by
 intro w a σ S hr
 have h1 := hr.evAt hx
 have h2 := hr.evAt hy
 generalize hz : a.eval x = z at h1
 generalize hzy : a.eval y = zy at h2
 cases h1 with
 | agg _ _ xs a1 a2 a3 =>
   cases h2 with
   | agg _ _ ys b1 b2 b3 =>
     refine ⟨_, .bool _ _, fun w' _ => ?_⟩
     have hr := zJf (d := 9998) (w' := w') a1 a2 b1 b2 _ b he
     simp only [execOp, hz, hzy, Sem.run_bind, run_eqGuard_agg w' _ _ _ _ _ _ hg, Result.andThen_ok, run_neq_struct, show (10000 : Nat) = 9999 + 1 from rfl, run_equalIn_array w' 9999 _ _ ht hi, hc, hr]
     rfl
end
end Go.Ax
namespace Go.Proofs.YtgmleamhjnlknaaGreatDoor
open Go.Ax Go.Ax.Bg Go.Ax.Rt Go.RowKit Go.Ax.Idx Go.Ax.Cd
attribute [local irreducible] Ax zAV QOp zV zAJ
set_option maxRecDepth 100000
set_option maxHeartbeats 4000000
theorem equalP (a b : zBt) (hlen : a.length ≤ 9223372036854775807) (hlb : b.length ≤ 9223372036854775807) : zk Tryz.prog 19 [.ro (zBC a) 0 a.length, .ro (zBC b) 0 b.length] (.bool (decide (a = b))) := by
 refine zV.value0 (zN (P := Tryz.prog) (fn := Tryz.f19) rfl rfl (by kernel_rfl) rfl (fun c hR hfix => ?_)) (fix := fun _ => False) (fun _ h => h) rfl rfl
 repeat (first | refine zD (zF rfl) ?_ | refine zD (zE rfl) ?_ | refine zB ?_ | refine zA ?_ | refine zG ?_ | refine zC rfl ?_ | refine zD (zAb rfl rfl) ?_ | refine zD (zw rfl rfl rfl) ?_)
 refine zK rfl (fun h => ?_) (fun h => ?_)
 · repeat (first | refine zD (zE rfl) ?_ | refine zB ?_ | refine zA ?_ | refine zG ?_ | refine zC rfl ?_ | refine zH ?_ | refine zQ ?_)
   refine zR hR rfl ?_
   have : ¬ a = b := by rintro rfl; exact h rfl
   simp [zA1, this]
 have hab : a.length = b.length := by omega
 repeat (first | refine zD (zF rfl) ?_ | refine zB ?_ | refine zA ?_ | refine zG ?_ | refine zC rfl ?_ | refine zT ?_ | refine zP ?_ | refine zD (zw rfl rfl rfl) ?_)
 refine zAC (ι := Nat) (fun k => [(0, .ro (zBC a) 0 a.length), (1, .ro (zBC b) 0 b.length), (12, .int .i64 (a.length : Nat)), (13, .int .i64 (k : Nat))]) (fun _ => [])
   (fun k => k ≤ a.length ∧ a.take k = b.take k) (fun k => a.length - k) 0 ⟨⟨rfl, rfl, rfl, rfl, trivial⟩, rfl, Nat.zero_le _, rfl⟩ ?_
 intro k ⟨hk, heq⟩
 repeat (first | refine zB ?_ | refine zA ?_ | refine zG ?_ | refine zC rfl ?_ | refine zD (zAQ rfl rfl) ?_)
 refine zK rfl (fun h2 => ?_) (fun h2 => ?_)
 · have hk' : k < a.length := by omega
   have hkb : k < b.length := by omega
   have ha := zAU a (0, 0) k hk'
   have hb := zAU b (0, 0) k hkb
   repeat (first | refine zD (zF rfl) ?_ | refine zD (zE rfl) ?_ | refine zB ?_ | refine zA ?_ | refine zG ?_ | refine zC rfl ?_ | refine zT ?_ | refine zP ?_)
   refine zAI (by kernel_rfl) ?_
   refine zAR (fuel := 0) [0, 1, 2, 3, 4, 5, 6, 7, 8] [(0, .ro (zBC a) 0 a.length), (1, .ro (zBC b) 0 b.length), (5, .int .i64 (k : Nat)), (12, .int .i64 (a.length : Nat)), (13, .int .i64 (k : Nat))] ⟨rfl, rfl, rfl, rfl, rfl, trivial⟩ (by kernel_rfl) (by decide) rfl rfl ?_
   refine zn rfl rfl (zF rfl) ?_
   refine zn rfl rfl (zF rfl) ?_
   refine zn rfl rfl (zY rfl rfl rfl rfl (by first | (simp only [Nat.zero_add, Int.toNat_natCast, Int.toNat_zero]; exact rfl) | exact rfl) (by omega)) ?_
   refine zn rfl rfl (zAS rfl rfl rfl rfl rfl rfl) ?_
   refine zn rfl rfl (zF rfl) ?_
   refine zn rfl rfl (zF rfl) ?_
   refine zn rfl rfl (zY rfl rfl rfl rfl (by first | (simp only [Nat.zero_add, Int.toNat_natCast, Int.toNat_zero]; exact rfl) | exact rfl) (by omega)) ?_
   refine zn rfl rfl (zAS rfl rfl rfl rfl rfl rfl) ?_
   refine zn rfl rfl (q_arrneq (L := zFo (a.getD k (0, 0))) (M := zFo (b.getD k (0, 0))) (b := decide ((a.getD k (0, 0)).1 = (b.getD k (0, 0)).1) && (decide ((a.getD k (0, 0)).2 = (b.getD k (0, 0)).2) && true)) rfl rfl rfl rfl (by kernel_rfl) (by kernel_rfl) rfl) ?_
   refine zAs ?_
   refine zAB (by kernel_rfl) ?_
   repeat (refine zA ?_)
   by_cases h3 : a.getD k (0, 0) = b.getD k (0, 0)
   · rw [h3, decide_eq_true rfl, decide_eq_true rfl]
     repeat (first | refine zD (zF rfl) ?_ | refine zB ?_ | refine zA ?_ | refine zC rfl ?_ | refine ze rfl ?_ | refine zZ ?_ | refine zP ?_ | refine zD (zAK rfl rfl (by omega)) ?_)
     exact zd ⟨k + 1, ⟨by omega, by rw [ha, hb, heq, h3]⟩, by omega, ⟨rfl, rfl, rfl, rfl, trivial⟩, rfl⟩
   · have h4 : (decide ((a.getD k (0, 0)).1 = (b.getD k (0, 0)).1) && (decide ((a.getD k (0, 0)).2 = (b.getD k (0, 0)).2) && true)) = false := by
       rw [Bool.and_true, ← Bool.not_eq_true, Bool.and_eq_true, decide_eq_true_eq, decide_eq_true_eq]
       rintro ⟨e1, e2⟩
       exact h3 (Prod.ext e1 e2)
     rw [h4]
     repeat (first | refine zD (zE rfl) ?_ | refine zB ?_ | refine zA ?_ | refine zG ?_ | refine zC rfl ?_ | refine zf rfl ?_ | refine zH ?_ | refine zQ ?_ | refine zo ?_ | refine zAf ?_)
     refine zR hR rfl ?_
     have : ¬ a = b := by rintro rfl; exact h3 rfl
     simp [zA1, this]
 · have hk' : k = a.length := by omega
   subst hk'
   rw [List.take_length, hab, List.take_length] at heq
   repeat (first | refine zD (zE rfl) ?_ | refine zB ?_ | refine zA ?_ | refine zG ?_ | refine zC rfl ?_ | refine zx ?_ | refine zW ?_ | refine zX ?_ | refine zi ?_ | refine zH ?_)
   refine zR hR rfl ?_
   simp [zA1, heq]
def pennT : List (List zAZ) := [[[49], [45, 49]], [[45, 49], [49]]]
/-- Texts that spell zAm, one by one. -/
def allQ : List zAZ → List Rat → Bool
 | [], [] => true
 | s :: r, q :: t => decide (IsQ s q) && allQ r t
 | _, _ => false
def histT : zBt := [(0, 0), (0, 1)]
end Go.Proofs.YtgmleamhjnlknaaGreatDoor
namespace Go.Proofs.YtgmleamhjnlknaaGreatDoor
open Go.Ax Go.Ax.Bg Go.Ax.Rt Go.RowKit Go.Ax.Idx Go.Ax.Cd
attribute [local irreducible] Ax zAV QOp zV zAJ
set_option maxRecDepth 100000
set_option maxHeartbeats 4000000
theorem zGQ {α : Type} (d : α) (n : Nat) (e : α → List AV) (a b : List α) : CEq (.fn (a.length + b.length) n (fun i j => bif Nat.blt i a.length then (zCN d n e a).at i j else (zCN d n e b).at (0 + (i - a.length)) j)) (zCN d n e (a ++ b)) := by
 refine ⟨by simp [zCN, Cells.len], rfl, fun i j hi hj => ?_⟩
 show (e ((a ++ b).getD i d)).getD j .any = bif Nat.blt i a.length then (e (a.getD i d)).getD j .any else (e (b.getD (0 + (i - a.length)) d)).getD j .any
 by_cases h : i < a.length
 · rw [show Nat.blt i a.length = true from Nat.ble_eq_true_of_le h, zG5 d h]; rfl
 · have h2 : Nat.blt i a.length = false := by
     cases e : Nat.blt i a.length with
     | false => rfl
     | true => have : i + 1 ≤ a.length := Nat.le_of_ble_eq_true e
               omega
   rw [h2, Nat.zero_add]
   have : (a ++ b).getD i d = b.getD (i - a.length) d := by
     simp only [List.getD]
     rw [List.getElem?_append_right (by omega)]
   rw [this]; rfl
theorem zGj (l : zBt) (hl : l.length ≤ 1000000) : zIp Tryz.prog 189 [.ro (zBC l) 0 l.length] (fun N => .sl N 0 l.length) ⟨32, zBC l⟩ := by
 refine zV.fresh (K := fun r H => r = .sl 0 0 l.length ∧ H = [some ⟨32, zBC l⟩]) (zN (P := Tryz.prog) (fn := Tryz.f189) rfl rfl (by kernel_rfl) rfl (fun c hR hfix => ?_)) (fix := fun _ => False) (fun _ h => h) rfl (fun H => ⟨rfl, by simp [zGV, inB]⟩) ?_
 · repeat (first | refine zD (zF rfl) ?_ | refine zD (zE rfl) ?_ | refine zB ?_ | refine zA ?_ | refine zG ?_ | refine zC rfl ?_)
   refine zKQ rfl rfl rfl (fun b hb => ?_)
   repeat (first | refine zB ?_ | refine zA ?_)
   refine zCv rfl (fun h => ?_) (fun h => ?_)
   · have := hb h
     have hn : l = [] := List.length_eq_zero_iff.mp this
     subst hn
     repeat (first | refine zD (zE rfl) ?_ | refine zB ?_ | refine zA ?_ | refine zG ?_ | refine zC rfl ?_)
     refine zBn 2 ⟨32, zBC []⟩ rfl rfl ?_
     repeat (first | refine zH ?_ | refine zQ ?_)
     exact zR hR rfl ⟨rfl, rfl⟩
   · repeat (first | refine zA ?_ | refine zG ?_ | refine zC rfl ?_ | refine zP ?_)
     refine zD3 rfl rfl rfl rfl rfl rfl rfl rfl rfl rfl ?_
     refine zA5 [some ⟨32, zBC []⟩] (zAk.eqv ⟨rfl, rfl, fun i j hi => absurd hi (Nat.not_lt_zero _)⟩ zAk.nil) ?_
     repeat (refine zD (zF rfl) ?_)
     refine zAE rfl rfl rfl rfl rfl rfl rfl rfl rfl rfl rfl rfl (by show 0 + l.length ≤ l.length; omega) rfl (by show (0 + l.length) * 16 ≤ _ ∧ _; omega) ?_ (by rw [hfix]; exact fun h => h) ?_
     · intro i' j' hi' hj'
       have q := (zGQ (0, 0) 2 zFo [] l).2.2 i' j' hi' hj'
       refine (congrArg (AV.forget 0) q.symm).trans (Eq.trans ?_ q)
       match j', hj' with
       | 0, _ => rfl
       | 1, _ => rfl
     refine zA5 [some ⟨32, zBC l⟩] (zAk.eqv (zGQ (0, 0) 2 zFo [] l) zAk.nil) ?_
     repeat (first | refine zD (zE rfl) ?_ | refine zB ?_ | refine zA ?_ | refine zH ?_)
     refine zR hR rfl ⟨?_, rfl⟩
     show AV.sl 0 0 (0 + l.length) = _; rw [Nat.zero_add]
 · rintro r H ⟨rfl, rfl⟩
   refine ⟨?_, fun h o ho => zGp (zFi _) h o ho, 0, rfl, fun n => rfl⟩
   intro o ho; simp at ho; subst ho; show 0 + l.length ≤ l.length; omega
def zHL (w : zBt) : List AV := [.ro (zBC w) 0 w.length]
abbrev zBb (W : List zBt) : Cells := zCN [] 1 zHL W
theorem zIV {α : Type} (d : α) (e : α → List AV) (l : List α) (x : Nat) (a : α) (v : AV) (hx : x < l.length) (hv : v = (e a).getD 0 .any) : CEq (.fn l.length 1 (fun i' j' => bif Nat.beq i' x && Nat.beq j' 0 then v else (e (l.getD i' d)).getD j' .any)) (zCN d 1 e (l.set x a)) := by
 refine ⟨by simp [zCN, Cells.len], rfl, fun i j hi hj => ?_⟩
 obtain rfl := Nat.lt_one_iff.1 (show j < 1 from hj)
 show (e ((l.set x a).getD i d)).getD 0 .any = bif Nat.beq i x && Nat.beq 0 0 then v else (e (l.getD i d)).getD 0 .any
 rw [Go.Ax.Dt.getD_set]
 by_cases h : i = x
 · subst h
   rw [if_pos ⟨rfl, hx⟩, hv, show Nat.beq i i = true from Nat.beq_refl i]; rfl
 · rw [if_neg (fun q => h q.1), zBM h]; rfl
theorem zJW {α : Type} {v : Nat → α} {P : α → Prop} : ∀ (l : List Int) (k : Nat) (a : List α), (∀ x ∈ a, P x) → (∀ j, k ≤ j → j < k + l.length → P (v j)) → ∀ x ∈ zBI v l k a, P x
 | [], _, a, h, _ => h
 | c :: r, k, a, h, hv => by
   rw [zBI]
   refine zJW r (k + 1) _ (fun x hx => ?_) (fun j h1 h2 => hv j (by omega) (by simp; omega))
   rcases List.mem_or_eq_of_mem_set hx with q | q
   · exact h x q
   · rw [q]; exact hv k (Nat.le_refl _) (by simp)
theorem zHw {α : Type} {P : α → Prop} {l : List α} {d : α} (h : ∀ x ∈ l, P x) (hd : P d) (i : Nat) : P (l.getD i d) := by
 rcases Nat.lt_or_ge i l.length with q | q
 · exact h _ (zBp d q)
 · have : l.getD i d = d := by simp [List.getD, q]
   rw [this]; exact hd
theorem wayV_len (p : Int) (n : TNode) (w : zBt) (k : Nat) : (wayV p n w k).length ≤ w.length + 1 := by
 unfold wayV
 split
 · rw [List.length_append]; exact Nat.le_refl _
 · omega
theorem zH4 (t : zAD) (p : Int) : ∀ i, ∀ w ∈ zCV t p i, w.length ≤ i
 | 0, w, hw => by
   rw [(List.mem_replicate.1 hw).2]; exact Nat.le_refl _
 | i + 1, w, hw => by
   have ih := zH4 t p i
   rw [zCV, zGS] at hw
   refine zJW (P := fun w : zBt => w.length ≤ i + 1) _ _ _ (fun x hx => Nat.le_succ_of_le (ih x hx)) (fun j _ _ => ?_) w hw
   have h1 := wayV_len p (t.getD i node0) ((zCV t p i).getD i []) j
   have h2 : ((zCV t p i).getD i []).length ≤ i := zHw (P := fun w : zBt => w.length ≤ i) ih (Nat.zero_le _) i
   omega
theorem zKj {t : zAD} (hv : Valid t) (p : Int) : ∀ w ∈ zFn t p, w.length ≤ 120 := fun w hw => Nat.le_trans (zH4 t p t.length w hw) hv.le
theorem zJJ (W : List zBt) : zAO (zBb W) := by
 intro i j _ hj
 obtain rfl : j = 0 := by have hj : j < 1 := hj; omega
 rfl
theorem zHy (W : List zBt) (n : Nat) : zBB n (zBb W) := by
 intro i j _ hj
 obtain rfl : j = 0 := by have hj : j < 1 := hj; omega
 rfl
theorem below2 {n : Nat} {o1 o2 : AObj} (h1 : zBB n o1.c) (h2 : zBB n o2.c) : ∀ (h : Nat) (o : AObj), ([some o1, some o2] : zg)[h]? = some (some o) → zBB n o.c := by
 intro h o ho
 match h, ho with
 | 0, ho => cases ho; exact h1
 | 1, ho => cases ho; exact h2
 | _ + 2, ho => simp at ho
theorem zLE (n : Nat) (kd pl nf : Int) (nx : List Int) (od : List zAZ) (py : zAZ) : zBB n (.box [.int .i64 kd, .int .i64 pl, .int .i64 nf, .ro (.ints .i64 nx) 0 nx.length, .ro (.strs od) 0 od.length, .str py]) := by
 intro i j _ hj
 have hj : j < 6 := hj
 match j, hj with
 | 0, _ => rfl
 | 1, _ => rfl
 | 2, _ => rfl
 | 3, _ => rfl
 | 4, _ => rfl
 | 5, _ => rfl
theorem zKA (W : List zBt) (h : Nat) : CEq ((zBb W).forget h) (zBb W) := by
 refine ⟨rfl, rfl, fun i j _ hj => ?_⟩
 have hj : j < 1 := hj
 match j, hj with
 | 0, _ => rfl
theorem ways_ok (t : zAD) (p : Int) (hT : ShortT t) (hv : Valid t) : zk Tryz.prog 160 [.ro (z7 t) 0 t.length, .int .i64 p] (.ro (zBb (zFn t p)) 0 t.length) := by
 have hlen := hT.len
 have h120 := hv.le
 refine zV.value0 (zN (P := Tryz.prog) (fn := Tryz.f160) rfl rfl (by kernel_rfl) rfl (fun c hR hfix => ?_)) (fix := fun _ => False) (fun _ h => h) rfl rfl
 repeat (first | refine zD (zF rfl) ?_ | refine zD (zE rfl) ?_ | refine zB ?_ | refine zA ?_ | refine zG ?_ | refine zC rfl ?_ | refine zD (zw rfl rfl rfl) ?_)
 refine zCS rfl rfl rfl rfl rfl rfl rfl rfl (by show 0 ≤ _ ∧ _ ≤ _ ∧ (24 : Int) * _ ≤ _ ∧ _; omega) ?_
 refine zI5 [some ⟨27, zBb (zCV t p 0)⟩] rfl (fun h o' ho' => ?_) ?_
 · match h, ho' with
   | 0, ho' =>
     cases ho'
     refine ⟨_, rfl, rfl, ?_, rfl, fun i j hi hj => ?_⟩
     · show (List.replicate t.length ([] : zBt)).length = ((t.length : Nat) : Int).toNat
       rw [List.length_replicate]; omega
     · obtain rfl := Nat.lt_one_iff.1 (show j < 1 from hj)
       have e : (List.replicate t.length ([] : zBt)).getD i [] = [] := by
         simp only [List.getD, List.getElem?_replicate]
         split <;> rfl
       show AEq .nil ((zHL ((List.replicate t.length ([] : zBt)).getD i [])).getD 0 .any)
       rw [e]; exact AEq.nil
   | _ + 1, ho' => simp at ho'
 repeat (first | refine zD (zF rfl) ?_ | refine zD (zE rfl) ?_ | refine zB ?_ | refine zA ?_ | refine zG ?_ | refine zC rfl ?_ | refine zT ?_ | refine zD (zw rfl rfl rfl) ?_)
 refine zAC (ι := Nat) (fun i => [(0, .ro (z7 t) 0 t.length), (1, .int .i64 p), (5, .sl 0 0 t.length), (13, .ro (z7 t) 0 t.length), (14, .int .i64 (t.length : Nat)), (15, .int .i64 (i : Nat))]) (fun i => [some ⟨27, zBb (zCV t p i)⟩])
   (fun i => i ≤ t.length) (fun i => t.length - i) 0 ⟨⟨rfl, rfl, rfl, rfl, rfl, rfl, trivial⟩, rfl, Nat.zero_le _⟩ ?_
 intro i hi
 repeat (first | refine zB ?_ | refine zA ?_ | refine zG ?_ | refine zC rfl ?_ | refine zD (zAQ rfl rfl) ?_)
 refine zK rfl (fun h => ?_) (fun h => ?_)
 · have hi' : i < t.length := by omega
   have hsn := hT.node _ (zA6 node0 hi')
   have hbh := hv.behind hi'
   have hWl := zFZ t p i
   have hWs := zH4 t p i
   have hnx : zCV t p (i + 1) = zBI (wayV p (t.getD i node0) ((zCV t p i).getD i [])) (t.getD i node0).next 0 (zCV t p i) := by rw [zCV, zGS]
   generalize hW2 : zCV t p (i + 1) = W2 at *
   generalize zCV t p i = W at *
   obtain ⟨s1, s2, s3, s4⟩ := hsn
   repeat (first | refine zD (zF rfl) ?_ | refine zD (zE rfl) ?_ | refine zA ?_ | refine zG ?_ | refine zC rfl ?_ | refine zT ?_ | refine zP ?_ | refine zD (zY rfl rfl rfl rfl (by first | (simp only [Nat.zero_add, Int.toNat_natCast, Int.toNat_zero]; exact rfl) | exact rfl) (by omega)) ?_ | refine zD (zAS rfl rfl rfl rfl rfl rfl) ?_ | refine z8 rfl rfl rfl ?_)
   refine zU 19 (.agg (zDY (t.getD i node0))) rfl (AEq.of_eq rfl) ?_
   generalize hn : t.getD i node0 = n at *
   have hown : own p n = (decide (n.kind = 2) && decide (n.player = p)) := rfl
   obtain ⟨kd, pl, nf, nx, od, py⟩ := n
   simp only at *
   refine zl (c' := .box [.int .i64 kd, .int .i64 pl, .int .i64 nf, .ro (.ints .i64 nx) 0 nx.length, .ro (.strs od) 0 od.length, .str py]) rfl rfl rfl rfl rfl Nat.zero_lt_one rfl rfl (fun i' j' hi' hj' => ?_) ?_
   · rw [if_pos (Nat.lt_one_iff.1 hi')]; rfl
   refine zAx [some ⟨27, zBb W⟩, some ⟨71, .box [.int .i64 kd, .int .i64 pl, .int .i64 nf, .ro (.ints .i64 nx) 0 nx.length, .ro (.strs od) 0 od.length, .str py]⟩] rfl ?_
   generalize hv : wayV p ⟨kd, pl, nf, nx, od, py⟩ (W.getD i []) = v at *
   repeat (first | refine zD (zF rfl) ?_ | refine zB ?_ | refine zA ?_ | refine zG ?_ | refine zC rfl ?_ | refine zT ?_ | refine zD (zI rfl rfl rfl rfl rfl) ?_ | refine zD (zw rfl rfl rfl) ?_ | refine zD (zL rfl rfl rfl rfl rfl rfl) ?_)
   refine zAC (ι := Nat) (fun j => [(0, .ro (z7 t) 0 t.length), (1, .int .i64 p), (5, .sl 0 0 t.length), (6, .int .i64 (i : Nat)), (7, .ptr 1 0 0), (13, .ro (z7 t) 0 t.length), (14, .int .i64 (t.length : Nat)), (15, .int .i64 (i : Nat)), (21, .ro (.ints .i64 nx) 0 nx.length), (22, .int .i64 (nx.length : Nat)), (23, .int .i64 (j : Nat))]) (fun j => [some ⟨27, zBb (zBI v (nx.take j) 0 W)⟩, some ⟨71, .box [.int .i64 kd, .int .i64 pl, .int .i64 nf, .ro (.ints .i64 nx) 0 nx.length, .ro (.strs od) 0 od.length, .str py]⟩])
     (fun j => j ≤ nx.length) (fun j => nx.length - j) 0 ⟨⟨rfl, rfl, rfl, rfl, rfl, rfl, rfl, rfl, rfl, rfl, rfl, trivial⟩, rfl, Nat.zero_le _⟩ ?_
   intro j hj
   repeat (first | refine zB ?_ | refine zA ?_ | refine zG ?_ | refine zC rfl ?_ | refine zD (zAQ rfl rfl) ?_)
   refine zK rfl (fun h5 => ?_) (fun h5 => ?_)
   · have hj' : j < nx.length := by omega
     obtain ⟨b1, b2⟩ := hbh _ (zBp 0 hj')
     have hAl : (zBI v (nx.take j) 0 W).length = t.length := by rw [zEI]; exact hWl
     have hAi : (zBI v (nx.take j) 0 W).getD i [] = W.getD i [] := zDi v [] _ _ _ (fun c hc => by have := hbh c (List.mem_of_mem_take hc); omega)
     have hst : zBI v (nx.take (j + 1)) 0 W = (zBI v (nx.take j) 0 W).set (nx.getD j 0).toNat (v j) := by
       rw [zDZ hj', zEK, List.length_take, Nat.min_eq_left hj, Nat.zero_add]
     have hw0 : (W.getD i []).length ≤ i := zHw (P := fun w : zBt => w.length ≤ i) hWs (Nat.zero_le _) i
     have hvj : v j = wayV p ⟨kd, pl, nf, nx, od, py⟩ (W.getD i []) j := by rw [hv]
     unfold wayV at hvj
     rw [hown] at hvj
     simp only at hvj
     generalize hA2 : zBI v (nx.take (j + 1)) 0 W = A2 at *
     generalize zBI v (nx.take j) 0 W = A at *
     generalize W.getD i [] = w0 at *
     obtain ⟨x, hx⟩ := Int.eq_ofNat_of_zero_le (show 0 ≤ nx.getD j 0 by omega)
     rw [hx] at b1 b2 hst
     rw [Int.toNat_natCast] at hst
     have hxl : x < A.length := by omega
     have gi : i < (zBb A).len := by show i < A.length; omega
     have gx : x < (zBb A).len := hxl
     have hA1i : (A.set x w0).getD i [] = w0 := by rw [Go.Ax.Dt.getD_set, if_neg (by omega)]; exact hAi
     have hA1l : (A.set x w0).length = t.length := by rw [List.length_set]; exact hAl
     have gi1 : i < (zBb (A.set x w0)).len := by show i < (A.set x w0).length; omega
     have gx1 : x < (zBb (A.set x w0)).len := by show x < (A.set x w0).length; omega
     have hw0l : w0.length ≤ 1000000 := by omega
     repeat (first | refine zD (zF rfl) ?_ | refine zD (zE rfl) ?_ | refine zD (z6 rfl rfl rfl) ?_ | refine zB ?_ | refine zA ?_ | refine zG ?_ | refine zC rfl ?_ | refine zT ?_ | refine zP ?_ | refine zD (zI rfl rfl rfl rfl rfl) ?_ | refine zD (zA0 rfl rfl) ?_ | refine zD (zY rfl rfl rfl rfl (by first | (simp only [Nat.zero_add, Int.toNat_natCast, Int.toNat_zero]; exact rfl) | exact rfl) (by omega)) ?_ | refine zD (zu rfl rfl rfl rfl rfl (by first | (simp only [Nat.zero_add, Int.toNat_natCast, Int.toNat_zero]; exact rfl) | exact rfl) (by omega)) ?_ | refine zD (zDu rfl rfl rfl rfl rfl (by first | assumption | omega)) ?_ | refine zD (zL rfl rfl rfl rfl rfl rfl) ?_ | refine zAr rfl rfl rfl rfl rfl rfl rfl (by first | assumption | (show _ < List.length _; first | assumption | omega)) ?_)
     refine zU 33 (.ro (zBC w0) 0 w0.length) rfl (AEq.of_eq (by rw [← hAi]; rfl)) ?_
     refine zU 29 (.int .i64 (x : Nat)) rfl (AEq.of_eq (by rw [hx])) ?_
     refine zU 9 (.int .i64 (x : Nat)) rfl (AEq.of_eq (by rw [hx])) ?_
     have hxn : (nx.getD j 0).toNat = x := by rw [hx, Int.toNat_natCast]
     refine zA5 [some ⟨27, zBb (A.set x w0)⟩, some ⟨71, .box [.int .i64 kd, .int .i64 pl, .int .i64 nf, .ro (.ints .i64 nx) 0 nx.length, .ro (.strs od) 0 od.length, .str py]⟩] (by rw [← hxn]; exact zAk.eqv (zIV [] zHL A (nx.getD j 0).toNat w0 _ (by omega) (by rw [← hAi])) (zAk.refl _)) ?_
     refine zAH rfl rfl (fun g1 => ?_) (fun g1 => ?_)
     · repeat (first | refine zD (zF rfl) ?_ | refine zB ?_ | refine zA ?_ | refine zj rfl rfl ?_ | refine zD (zI rfl rfl rfl rfl rfl) ?_ | refine zD (zA0 rfl rfl) ?_ | refine zD (zr rfl rfl) ?_ | refine zD (zL rfl rfl rfl rfl rfl rfl) ?_)
       refine zK rfl (fun g2 => ?_) (fun g2 => ?_)
       · rw [decide_eq_true g1, decide_eq_true g2, Bool.true_and, if_pos rfl] at hvj
         skip
         refine zAI (by kernel_rfl) ?_
         apply zCI (H := [some ⟨27, zBb (A.set x w0)⟩, some ⟨71, .box [.int .i64 kd, .int .i64 pl, .int .i64 nf, .ro (.ints .i64 nx) 0 nx.length, .ro (.strs od) 0 od.length, .str py]⟩, some ⟨32, zBC w0⟩]) [(0, .ro (z7 t) 0 t.length), (1, .int .i64 p), (5, .sl 0 0 t.length), (6, .int .i64 (i : Nat)), (7, .ptr 1 0 0), (13, .ro (z7 t) 0 t.length), (14, .int .i64 (t.length : Nat)), (15, .int .i64 (i : Nat)), (21, .ro (.ints .i64 nx) 0 nx.length), (22, .int .i64 (nx.length : Nat)), (23, .int .i64 (j : Nat)), (44, .sl 0 0 t.length), (45, .int .i64 (x : Nat)), (50, .sl 2 0 w0.length), (55, .ro (zD9 1 2 [.int .i64 nf, .int .i64 (j : Nat)]) 0 1)]
         · intro fin2
           refine zc 0 rfl (by kernel_rfl) (by kernel_rfl) (by kernel_rfl) rfl (zF rfl) rfl ?_
           refine zc 1 rfl (by kernel_rfl) (by kernel_rfl) (by kernel_rfl) rfl (zF rfl) rfl ?_
           refine zc 2 rfl (by kernel_rfl) (by kernel_rfl) (by kernel_rfl) rfl (zF rfl) rfl ?_
           refine zc 3 rfl (by kernel_rfl) (by kernel_rfl) (by kernel_rfl) rfl (zF rfl) rfl ?_
           refine zc 7 rfl (by kernel_rfl) (by kernel_rfl) (by kernel_rfl) rfl (zL rfl rfl rfl rfl rfl rfl) rfl ?_
           refine zc 9 rfl (by kernel_rfl) (by kernel_rfl) (by kernel_rfl) rfl (zF rfl) rfl ?_
           refine zc 4 rfl (by kernel_rfl) (by kernel_rfl) (by kernel_rfl) rfl (zu rfl rfl rfl rfl rfl (by first | (simp only [Nat.zero_add, Int.toNat_natCast, Int.toNat_zero]; exact rfl) | exact rfl) (by omega)) rfl ?_
           refine zO (is := [5, 8]) (by kernel_rfl) (by simp) rfl ⟨fun o ho => ?_, fun o ho => ?_, trivial⟩
           all_goals (cases ho)
           · repeat (first | refine zB ?_ | refine zJ ?_ | refine zD (zDu rfl rfl rfl rfl rfl (by first | assumption | omega)) ?_)
             refine zBR 49 (.ro (zBC w0) 0 w0.length) rfl (AEq.of_eq (show (zHL ((A.set x w0).getD i [])).getD 0 .any = .ro (zBC w0) 0 w0.length by rw [hA1i]; rfl)) ?_
             refine zO (is := [6, 8]) (by kernel_rfl) (by simp) rfl ⟨fun o ho => ?_, fun o ho => ?_, trivial⟩
             all_goals (cases ho)
             · refine zB9 rfl rfl rfl (zGj w0 hw0l) ?_
               repeat (first | refine zB ?_ | refine zJ ?_)
               refine zO (is := [8]) (by kernel_rfl) (by simp) rfl ⟨fun o ho => ?_, trivial⟩
               all_goals (cases ho)
               repeat (first | refine zB ?_ | refine zJ ?_ | refine zD (zI rfl rfl rfl rfl rfl) ?_)
               refine zc 10 rfl (by kernel_rfl) (by kernel_rfl) (by kernel_rfl) rfl (zAa rfl rfl rfl rfl rfl rfl) rfl ?_
               refine zO (is := [11]) (by kernel_rfl) (by simp) rfl ⟨fun o ho => ?_, trivial⟩
               all_goals (cases ho)
               repeat (first | refine zB ?_ | refine zJ ?_ | refine zS rfl rfl rfl rfl rfl rfl rfl rfl rfl rfl rfl ?_)
               exact fin2 _ ⟨rfl, rfl, rfl, rfl, rfl, rfl, rfl, rfl, rfl, rfl, rfl, rfl, rfl, rfl, rfl, trivial⟩
             · repeat (first | refine zB ?_ | refine zJ ?_ | refine zD (zI rfl rfl rfl rfl rfl) ?_)
               refine zc 10 rfl (by kernel_rfl) (by kernel_rfl) (by kernel_rfl) rfl (zAa rfl rfl rfl rfl rfl rfl) rfl ?_
               refine zO (is := [6, 11]) (by kernel_rfl) (by simp) rfl ⟨fun o ho => ?_, fun o ho => ?_, trivial⟩
               all_goals (cases ho)
               · refine zB9 rfl rfl rfl (zGj w0 hw0l) ?_
                 repeat (first | refine zB ?_ | refine zJ ?_)
                 refine zO (is := [11]) (by kernel_rfl) (by simp) rfl ⟨fun o ho => ?_, trivial⟩
                 all_goals (cases ho)
                 repeat (first | refine zB ?_ | refine zJ ?_ | refine zS rfl rfl rfl rfl rfl rfl rfl rfl rfl rfl rfl ?_)
                 exact fin2 _ ⟨rfl, rfl, rfl, rfl, rfl, rfl, rfl, rfl, rfl, rfl, rfl, rfl, rfl, rfl, rfl, trivial⟩
               · repeat (first | refine zB ?_ | refine zJ ?_ | refine zS rfl rfl rfl rfl rfl rfl rfl rfl rfl rfl rfl ?_)
                 refine zO (is := [6]) (by kernel_rfl) (by simp) rfl ⟨fun o ho => ?_, trivial⟩
                 all_goals (cases ho)
                 refine zB9 rfl rfl rfl (zGj w0 hw0l) ?_
                 repeat (first | refine zB ?_ | refine zJ ?_)
                 exact fin2 _ ⟨rfl, rfl, rfl, rfl, rfl, rfl, rfl, rfl, rfl, rfl, rfl, rfl, rfl, rfl, rfl, trivial⟩
           · repeat (first | refine zB ?_ | refine zJ ?_ | refine zD (zI rfl rfl rfl rfl rfl) ?_)
             refine zc 10 rfl (by kernel_rfl) (by kernel_rfl) (by kernel_rfl) rfl (zAa rfl rfl rfl rfl rfl rfl) rfl ?_
             refine zO (is := [5, 11]) (by kernel_rfl) (by simp) rfl ⟨fun o ho => ?_, fun o ho => ?_, trivial⟩
             all_goals (cases ho)
             · repeat (first | refine zB ?_ | refine zJ ?_ | refine zD (zDu rfl rfl rfl rfl rfl (by first | assumption | omega)) ?_)
               refine zBR 49 (.ro (zBC w0) 0 w0.length) rfl (AEq.of_eq (show (zHL ((A.set x w0).getD i [])).getD 0 .any = .ro (zBC w0) 0 w0.length by rw [hA1i]; rfl)) ?_
               refine zO (is := [6, 11]) (by kernel_rfl) (by simp) rfl ⟨fun o ho => ?_, fun o ho => ?_, trivial⟩
               all_goals (cases ho)
               · refine zB9 rfl rfl rfl (zGj w0 hw0l) ?_
                 repeat (first | refine zB ?_ | refine zJ ?_)
                 refine zO (is := [11]) (by kernel_rfl) (by simp) rfl ⟨fun o ho => ?_, trivial⟩
                 all_goals (cases ho)
                 repeat (first | refine zB ?_ | refine zJ ?_ | refine zS rfl rfl rfl rfl rfl rfl rfl rfl rfl rfl rfl ?_)
                 exact fin2 _ ⟨rfl, rfl, rfl, rfl, rfl, rfl, rfl, rfl, rfl, rfl, rfl, rfl, rfl, rfl, rfl, trivial⟩
               · repeat (first | refine zB ?_ | refine zJ ?_ | refine zS rfl rfl rfl rfl rfl rfl rfl rfl rfl rfl rfl ?_)
                 refine zO (is := [6]) (by kernel_rfl) (by simp) rfl ⟨fun o ho => ?_, trivial⟩
                 all_goals (cases ho)
                 refine zB9 rfl rfl rfl (zGj w0 hw0l) ?_
                 repeat (first | refine zB ?_ | refine zJ ?_)
                 exact fin2 _ ⟨rfl, rfl, rfl, rfl, rfl, rfl, rfl, rfl, rfl, rfl, rfl, rfl, rfl, rfl, rfl, trivial⟩
             · repeat (first | refine zB ?_ | refine zJ ?_ | refine zS rfl rfl rfl rfl rfl rfl rfl rfl rfl rfl rfl ?_)
               refine zO (is := [5]) (by kernel_rfl) (by simp) rfl ⟨fun o ho => ?_, trivial⟩
               all_goals (cases ho)
               repeat (first | refine zB ?_ | refine zJ ?_ | refine zD (zDu rfl rfl rfl rfl rfl (by first | assumption | omega)) ?_)
               refine zBR 49 (.ro (zBC w0) 0 w0.length) rfl (AEq.of_eq (show (zHL ((A.set x w0).getD i [])).getD 0 .any = .ro (zBC w0) 0 w0.length by rw [hA1i]; rfl)) ?_
               refine zO (is := [6]) (by kernel_rfl) (by simp) rfl ⟨fun o ho => ?_, trivial⟩
               all_goals (cases ho)
               refine zB9 rfl rfl rfl (zGj w0 hw0l) ?_
               repeat (first | refine zB ?_ | refine zJ ?_)
               exact fin2 _ ⟨rfl, rfl, rfl, rfl, rfl, rfl, rfl, rfl, rfl, rfl, rfl, rfl, rfl, rfl, rfl, trivial⟩
         · refine zO (is := [12]) (by kernel_rfl) (by simp) rfl ⟨fun o ho => ?_, trivial⟩
           all_goals (cases ho)
           refine zAE rfl rfl rfl rfl rfl rfl rfl rfl rfl rfl rfl rfl (by show 0 + 1 ≤ 1; omega) rfl (by show (w0.length + 1) * 16 ≤ _ ∧ _; omega) ?_ (by rw [hfix]; exact fun h => h) ?_
           · intro i' j' hi' hj'
             have q := (zDL (0, 0) 2 zFo w0 (nf, (j : Int)) (zD9 1 2 [.int .i64 nf, .int .i64 (j : Nat)]) (fun j hj => by
               match j, hj with
               | 0, _ => rfl
               | 1, _ => rfl)).2.2 i' j' hi' hj'
             refine (congrArg (AV.forget 2) q.symm).trans (Eq.trans ?_ q)
             match j', hj' with
             | 0, _ => rfl
             | 1, _ => rfl
           refine zA5 [some ⟨27, zBb (A.set x w0)⟩, some ⟨71, .box [.int .i64 kd, .int .i64 pl, .int .i64 nf, .ro (.ints .i64 nx) 0 nx.length, .ro (.strs od) 0 od.length, .str py]⟩, some ⟨32, zBC (w0 ++ [(nf, (j : Int))])⟩] ?_ ?_
           · exact zAk.eqv (zKA (A.set x w0) 2) (zAk.eqv (CEq.refl _) (zAk.eqv (zDL (0, 0) 2 zFo w0 (nf, (j : Int)) (zD9 1 2 [.int .i64 nf, .int .i64 (j : Nat)]) (fun j hj => by
               match j, hj with
               | 0, _ => rfl
               | 1, _ => rfl)) zAk.nil))
           refine zCZ 2 56 (w0.length + 1) [(0, .ro (z7 t) 0 t.length), (1, .int .i64 p), (5, .sl 0 0 t.length), (6, .int .i64 (i : Nat)), (7, .ptr 1 0 0), (13, .ro (z7 t) 0 t.length), (14, .int .i64 (t.length : Nat)), (15, .int .i64 (i : Nat)), (21, .ro (.ints .i64 nx) 0 nx.length), (22, .int .i64 (nx.length : Nat)), (23, .int .i64 (j : Nat)), (44, .sl 0 0 t.length), (45, .int .i64 (x : Nat))] rfl (zFi _) rfl (by show w0.length + 1 ≤ (w0 ++ [(nf, (j : Int))]).length; rw [List.length_append]; exact Nat.le_refl _) ⟨rfl, rfl, rfl, rfl, rfl, rfl, rfl, rfl, rfl, rfl, rfl, rfl, rfl, trivial⟩ ?_
           refine zAx [some ⟨27, zBb (A.set x w0)⟩, some ⟨71, .box [.int .i64 kd, .int .i64 pl, .int .i64 nf, .ro (.ints .i64 nx) 0 nx.length, .ro (.strs od) 0 od.length, .str py]⟩, none] rfl ?_
           have hl9 : (w0 ++ [(nf, (j : Int))]).length = w0.length + 1 := by rw [List.length_append]; rfl
           refine zU 56 (.ro (zBC (w0 ++ [(nf, (j : Int))])) 0 (w0 ++ [(nf, (j : Int))]).length) rfl (AEq.of_eq (by rw [hl9])) ?_
           generalize w0 ++ [(nf, (j : Int))] = w1 at *
           repeat (first | refine zB ?_ | refine zJ ?_)
           refine zc 13 rfl (by kernel_rfl) (by kernel_rfl) (by kernel_rfl) rfl (zu rfl rfl rfl rfl rfl (by first | (simp only [Nat.zero_add, Int.toNat_natCast, Int.toNat_zero]; exact rfl) | exact rfl) (by omega)) rfl ?_
           refine zO (is := [14]) (by kernel_rfl) (by simp) rfl ⟨fun o ho => ?_, trivial⟩
           all_goals (cases ho)
           refine zAr rfl rfl rfl rfl rfl rfl rfl gx1 ?_
           refine zA5 [some ⟨27, zBb ((A.set x w0).set x w1)⟩, some ⟨71, .box [.int .i64 kd, .int .i64 pl, .int .i64 nf, .ro (.ints .i64 nx) 0 nx.length, .ro (.strs od) 0 od.length, .str py]⟩, none] (zAk.eqv (zIV [] zHL (A.set x w0) x w1 _ gx1 rfl) (zAk.refl _)) ?_
           repeat (first | refine zB ?_ | refine zJ ?_)
           refine zAB (by kernel_rfl) ?_
           repeat (refine zZ ?_)
           refine zA ?_
           refine zAy [some ⟨27, zBb ((A.set x w0).set x w1)⟩, some ⟨71, .box [.int .i64 kd, .int .i64 pl, .int .i64 nf, .ro (.ints .i64 nx) 0 nx.length, .ro (.strs od) 0 od.length, .str py]⟩] [none] [(0, .ro (z7 t) 0 t.length), (1, .int .i64 p), (5, .sl 0 0 t.length), (6, .int .i64 (i : Nat)), (7, .ptr 1 0 0), (13, .ro (z7 t) 0 t.length), (14, .int .i64 (t.length : Nat)), (15, .int .i64 (i : Nat)), (21, .ro (.ints .i64 nx) 0 nx.length), (22, .int .i64 (nx.length : Nat)), (23, .int .i64 (j : Nat))] rfl ⟨rfl, rfl, rfl, rfl, rfl, rfl, rfl, rfl, rfl, rfl, rfl, trivial⟩ (fun h hh => by rw [hfix] at hh; exact absurd hh id) (below2 (zHy _ _) (zLE _ _ _ _ _ _ _)) rfl ?_
           repeat (first | refine zD (zF rfl) ?_ | refine zB ?_ | refine zC rfl ?_ | refine zD (zAK rfl rfl (by omega)) ?_)
           exact zd ⟨j + 1, by omega, by omega, ⟨rfl, rfl, rfl, rfl, rfl, rfl, rfl, rfl, rfl, rfl, rfl, trivial⟩, by rw [hA2, hst, hvj, List.set_set]⟩
       · rw [decide_eq_true g1, decide_eq_false g2, if_neg (by decide)] at hvj
         repeat (first | refine zD (zF rfl) ?_ | refine zB ?_ | refine zA ?_ | refine zC rfl ?_ | refine zZ ?_ | refine zP ?_ | refine zD (zAK rfl rfl (by omega)) ?_)
         exact zd ⟨j + 1, by omega, by omega, ⟨rfl, rfl, rfl, rfl, rfl, rfl, rfl, rfl, rfl, rfl, rfl, trivial⟩, by rw [hA2, hst, hvj]⟩
     · rw [decide_eq_false g1, Bool.false_and, if_neg (by decide)] at hvj
       repeat (first | refine zD (zF rfl) ?_ | refine zB ?_ | refine zA ?_ | refine zC rfl ?_ | refine zp rfl rfl rfl ?_ | refine ze rfl ?_ | refine zZ ?_ | refine zP ?_ | refine zD (zr rfl rfl) ?_ | refine zD (zAK rfl rfl (by omega)) ?_)
       exact zd ⟨j + 1, by omega, by omega, ⟨rfl, rfl, rfl, rfl, rfl, rfl, rfl, rfl, rfl, rfl, rfl, trivial⟩, by rw [hA2, hst, hvj]⟩
   · have hje : j = nx.length := by omega
     subst hje
     rw [List.take_length, ← hnx]
     repeat (first | refine zZ ?_ | refine zx ?_ | refine zW ?_ | refine zX ?_ | refine zi ?_)
     refine zA ?_
     refine zAy [some ⟨27, zBb W2⟩] [some ⟨71, .box [.int .i64 kd, .int .i64 pl, .int .i64 nf, .ro (.ints .i64 nx) 0 nx.length, .ro (.strs od) 0 od.length, .str py]⟩] [(0, .ro (z7 t) 0 t.length), (1, .int .i64 p), (5, .sl 0 0 t.length), (13, .ro (z7 t) 0 t.length), (14, .int .i64 (t.length : Nat)), (15, .int .i64 (i : Nat))] rfl ⟨rfl, rfl, rfl, rfl, rfl, rfl, trivial⟩ (fun h hh => by rw [hfix] at hh; exact absurd hh id) (zDj (zHy _ _)) rfl ?_
     repeat (first | refine zD (zF rfl) ?_ | refine zB ?_ | refine zC rfl ?_ | refine zD (zAK rfl rfl (by omega)) ?_)
     exact zd ⟨i + 1, by omega, by omega, ⟨rfl, rfl, rfl, rfl, rfl, rfl, trivial⟩, by rw [hW2]⟩
 · have hie : i = t.length := by omega
   subst hie
   repeat (first | refine zA ?_ | refine zG ?_ | refine zx ?_ | refine zW ?_ | refine zX ?_ | refine zi ?_)
   refine zA4 0 5 t.length [] rfl (zJJ _) rfl (by show t.length ≤ (zCV t p t.length).length; rw [zFZ]; exact Nat.le_refl _) trivial ?_
   repeat (first | refine zD (zF rfl) ?_ | refine zD (zE rfl) ?_ | refine zB ?_ | refine zA ?_ | refine zC rfl ?_ | refine zH ?_)
   exact zR hR rfl rfl
end Go.Proofs.YtgmleamhjnlknaaGreatDoor
namespace Go.Proofs.YtgmleamhjnlknaaGreatDoor
open Go.Ax Go.Ax.Bg Go.Ax.Rt Go.RowKit Go.Ax.Idx Go.Ax.Cd
attribute [local irreducible] Ax zAV QOp zV zAJ
set_option maxRecDepth 100000
set_option maxHeartbeats 4000000
abbrev zFe (F : List (Int × Nat)) : Cells := .mp (F.map (fun x => .int .i64 x.1)) (F.map (fun x => .int .i64 (x.2 : Nat)))
theorem zGm (F : List (Int × Nat)) : ∀ x ∈ F.map (fun x : Int × Nat => AV.int .i64 x.1), zCc (.int .i64) x = true := by
 intro x hx
 obtain ⟨e, _, rfl⟩ := List.mem_map.1 hx
 rfl
theorem zCh {m : List (Int × Nat)} {k : Int} {s : Nat} (h : zBw m k = some s) : ∃ j : Nat, (m.map (fun x : Int × Nat => AV.int .i64 x.1))[j]? = some (.int .i64 k) ∧ (m.map (fun x : Int × Nat => AV.int .i64 (x.2 : Nat)))[j]? = some (.int .i64 (s : Nat)) := by
 obtain ⟨j, hj⟩ := List.getElem?_of_mem (zDp h)
 exact ⟨j, by rw [List.getElem?_map, hj]; rfl, by rw [List.getElem?_map, hj]; rfl⟩
theorem zFX {m : List (Int × Nat)} {k : Int} (h : zBw m k = none) : AV.int .i64 k ∉ m.map (fun x : Int × Nat => AV.int .i64 x.1) := by
 intro hm
 obtain ⟨x, hx, e⟩ := List.mem_map.1 hm
 have := zHb h
 injection e with e1 e2
 exact this (List.mem_map.2 ⟨x, hx, e2⟩)
theorem zEF (F : List (Int × Nat)) (n : Nat) : zBB n (zFe F) := ⟨zCE (fun _ => rfl) F, zCE (fun _ => rfl) F⟩
theorem zK0 {p : Int} {kd pl nf : Int} {nx : List Int} {od : List zAZ} {py : zAZ} : own p ⟨kd, pl, nf, nx, od, py⟩ = (decide (kd = 2) && decide (pl = p)) := rfl
theorem zIN (t : zAD) (p : Int) (hT : ShortT t) (hv : Valid t) : zk Tryz.prog 112 [.ro (z7 t) 0 t.length, .int .i64 p] (.bool (zGT t p)) := by
 have hlen := hT.len
 have h120 := hv.le
 have cw := ways_ok t p hT hv
 have hWl : (zFn t p).length = t.length := zFZ t p t.length
 have hWs := zKj hv p
 have hmono : ∀ n i, i ≤ n → zFg t p (zFn t p) i = false → zFg t p (zFn t p) n = false := by
   intro n
   induction n with
   | zero => intro i hi h; obtain rfl : i = 0 := by omega
             exact h
   | succ n ih =>
     intro i hi h
     by_cases e : i = n + 1
     · subst e; exact h
     · rw [zFg, ih i (by omega) h]; rfl
 refine zV.value0 (zN (P := Tryz.prog) (fn := Tryz.f112) rfl rfl (by kernel_rfl) rfl (fun c hR hfix => ?_)) (fix := fun _ => False) (fun _ h => h) rfl rfl
 have hR : c.R = fun r' _ => r' = .bool (zFg t p (zFn t p) t.length) := hR
 generalize zFn t p = W at *
 repeat (first | refine zD (zF rfl) ?_ | refine zD (zE rfl) ?_ | refine zB ?_ | refine zA ?_ | refine zG ?_ | refine zC rfl ?_)
 refine zM rfl rfl rfl cw ?_
 repeat (first | refine zD (zE rfl) ?_ | refine zB ?_ | refine zA ?_ | refine zG ?_ | refine zC rfl ?_)
 refine zES ?_
 repeat (first | refine zD (zF rfl) ?_ | refine zD (zE rfl) ?_ | refine zB ?_ | refine zA ?_ | refine zG ?_ | refine zC rfl ?_ | refine zT ?_ | refine zD (zw rfl rfl rfl) ?_)
 refine zAC (ι := Nat) (fun i => [(0, .ro (z7 t) 0 t.length), (1, .int .i64 p), (5, .ro (zBb W) 0 t.length), (6, .mp 0), (15, .ro (z7 t) 0 t.length), (16, .int .i64 (t.length : Nat)), (17, .int .i64 (i : Nat))]) (fun i => [some ⟨184, zFe (zBV t p i)⟩])
   (fun i => i ≤ t.length ∧ zFg t p W i = true) (fun i => t.length - i) 0 ⟨⟨rfl, rfl, rfl, rfl, rfl, rfl, rfl, trivial⟩, rfl, Nat.zero_le _, rfl⟩ ?_
 rintro i ⟨hi, hP⟩
 repeat (first | refine zB ?_ | refine zA ?_ | refine zG ?_ | refine zC rfl ?_ | refine zD (zAQ rfl rfl) ?_)
 refine zK rfl (fun h => ?_) (fun h => ?_)
 · have hi' : i < t.length := by omega
   have hfs : zBV t p (i + 1) = if own p (t.getD i node0) = true ∧ zBw (zBV t p i) (t.getD i node0).info = none then zBV t p i ++ [((t.getD i node0).info, i)] else zBV t p i := rfl
   have hps : zFg t p W (i + 1) = (zFg t p W i && (if own p (t.getD i node0) = true then (match zBw (zBV t p i) (t.getD i node0).info with | none => true | some k => decide (W.getD i [] = W.getD k [])) else true)) := rfl
   have hff : ∀ x ∈ zBV t p i, x.2 < i := fun x hx => (zEy hx).1
   have hno := hmono t.length (i + 1) (by omega)
   rw [hP, Bool.true_and] at hps
   generalize hF2 : zBV t p (i + 1) = F2 at *
   generalize zBV t p i = F at *
   generalize hP2 : zFg t p W (i + 1) = P2 at *
   repeat (first | refine zD (zF rfl) ?_ | refine zD (zE rfl) ?_ | refine zA ?_ | refine zG ?_ | refine zC rfl ?_ | refine zT ?_ | refine zP ?_ | refine zD (zY rfl rfl rfl rfl (by first | (simp only [Nat.zero_add, Int.toNat_natCast, Int.toNat_zero]; exact rfl) | exact rfl) (by omega)) ?_ | refine zD (zAS rfl rfl rfl rfl rfl rfl) ?_ | refine z8 rfl rfl rfl ?_)
   refine zU 21 (.agg (zDY (t.getD i node0))) rfl (AEq.of_eq rfl) ?_
   generalize t.getD i node0 = n at *
   obtain ⟨kd, pl, nf, nx, od, py⟩ := n
   simp only at *
   refine zl (c' := .box [.int .i64 kd, .int .i64 pl, .int .i64 nf, .ro (.ints .i64 nx) 0 nx.length, .ro (.strs od) 0 od.length, .str py]) rfl rfl rfl rfl rfl Nat.zero_lt_one rfl rfl (fun i' j' hi' hj' => ?_) ?_
   · rw [if_pos (Nat.lt_one_iff.1 hi')]; rfl
   refine zAx [some ⟨184, zFe F⟩, some ⟨71, .box [.int .i64 kd, .int .i64 pl, .int .i64 nf, .ro (.ints .i64 nx) 0 nx.length, .ro (.strs od) 0 od.length, .str py]⟩] rfl ?_
   repeat (first | refine zD (zF rfl) ?_ | refine zB ?_ | refine zA ?_ | refine zG ?_ | refine zC rfl ?_ | refine zD (zI rfl rfl rfl rfl rfl) ?_ | refine zD (zAb rfl rfl) ?_ | refine zD (zL rfl rfl rfl rfl rfl rfl) ?_)
   refine zAH rfl rfl (fun g1 => ?_) (fun g1 => ?_)
   · rw [zK0, decide_eq_false g1, Bool.false_and] at hfs hps
     rw [if_neg (by rintro ⟨q, _⟩; cases q)] at hfs
     rw [if_neg (by decide)] at hps
     repeat (first | refine zB ?_ | refine zp rfl rfl rfl ?_ | refine zD (zr rfl rfl) ?_)
     refine zA ?_
     repeat (first | refine zf rfl ?_ | refine zx ?_ | refine zW ?_ | refine zX ?_)
     refine zA ?_
     refine zAy [some ⟨184, zFe (F)⟩] [some ⟨71, .box [.int .i64 kd, .int .i64 pl, .int .i64 nf, .ro (.ints .i64 nx) 0 nx.length, .ro (.strs od) 0 od.length, .str py]⟩] [(0, .ro (z7 t) 0 t.length), (1, .int .i64 p), (5, .ro (zBb W) 0 t.length), (6, .mp 0), (15, .ro (z7 t) 0 t.length), (16, .int .i64 (t.length : Nat)), (17, .int .i64 (i : Nat))] rfl ⟨rfl, rfl, rfl, rfl, rfl, rfl, rfl, trivial⟩ (fun h hh => by rw [hfix] at hh; exact absurd hh id) (zDj (zEF _ _)) rfl ?_
     repeat (first | refine zD (zF rfl) ?_ | refine zB ?_ | refine zC rfl ?_ | refine zD (zAK rfl rfl (by omega)) ?_)
     exact zd ⟨i + 1, ⟨by omega, by rw [hP2, hps]⟩, by omega, ⟨rfl, rfl, rfl, rfl, rfl, rfl, rfl, trivial⟩, by rw [hF2, hfs]⟩
   have g1 := Classical.not_not.1 g1
   repeat (first | refine zD (zF rfl) ?_ | refine zB ?_ | refine zA ?_ | refine zj rfl rfl ?_ | refine zD (zI rfl rfl rfl rfl rfl) ?_ | refine zD (zAb rfl rfl) ?_ | refine zD (zr rfl rfl) ?_ | refine zD (zL rfl rfl rfl rfl rfl rfl) ?_)
   refine zK rfl (fun g2 => ?_) (fun g2 => ?_)
   · rw [zK0, decide_eq_true g1, decide_eq_false g2, Bool.true_and] at hfs hps
     rw [if_neg (by rintro ⟨q, _⟩; cases q)] at hfs
     rw [if_neg (by decide)] at hps
     repeat (first | refine zx ?_ | refine zW ?_ | refine zX ?_)
     refine zA ?_
     refine zAy [some ⟨184, zFe (F)⟩] [some ⟨71, .box [.int .i64 kd, .int .i64 pl, .int .i64 nf, .ro (.ints .i64 nx) 0 nx.length, .ro (.strs od) 0 od.length, .str py]⟩] [(0, .ro (z7 t) 0 t.length), (1, .int .i64 p), (5, .ro (zBb W) 0 t.length), (6, .mp 0), (15, .ro (z7 t) 0 t.length), (16, .int .i64 (t.length : Nat)), (17, .int .i64 (i : Nat))] rfl ⟨rfl, rfl, rfl, rfl, rfl, rfl, rfl, trivial⟩ (fun h hh => by rw [hfix] at hh; exact absurd hh id) (zDj (zEF _ _)) rfl ?_
     repeat (first | refine zD (zF rfl) ?_ | refine zB ?_ | refine zC rfl ?_ | refine zD (zAK rfl rfl (by omega)) ?_)
     exact zd ⟨i + 1, ⟨by omega, by rw [hP2, hps]⟩, by omega, ⟨rfl, rfl, rfl, rfl, rfl, rfl, rfl, trivial⟩, by rw [hF2, hfs]⟩
   have g2 := Classical.not_not.1 g2
   rw [zK0, decide_eq_true g1, decide_eq_true g2, Bool.true_and] at hfs hps
   rw [if_pos rfl] at hps
   repeat (first | refine zD (zF rfl) ?_ | refine zA ?_ | refine zG ?_ | refine zC rfl ?_ | refine zP ?_ | refine zD (zI rfl rfl rfl rfl rfl) ?_ | refine zD (zL rfl rfl rfl rfl rfl rfl) ?_)
   cases hL : zBw F nf with
   | none =>
     rw [hL, if_pos ⟨rfl, rfl⟩] at hfs
     rw [hL] at hps
     simp only at hps
     refine zD (zD7 rfl (.int rfl) rfl rfl rfl rfl rfl rfl rfl rfl (zGm F) (zFX hL)) ?_
     repeat (first | refine zD (zF rfl) ?_ | refine zD (zE rfl) ?_ | refine zB ?_ | refine zA ?_ | refine zG ?_ | refine zC rfl ?_ | refine zf rfl ?_ | refine zD (zI rfl rfl rfl rfl rfl) ?_ | refine zD (zAw rfl) ?_ | refine zD (zz rfl rfl) ?_ | refine zD (zL rfl rfl rfl rfl rfl rfl) ?_)
     refine zCP rfl (.int rfl) rfl rfl rfl rfl rfl (zGm F) (zFX hL) ?_
     refine zAx [some ⟨184, zFe (F ++ [(nf, i)])⟩, some ⟨71, .box [.int .i64 kd, .int .i64 pl, .int .i64 nf, .ro (.ints .i64 nx) 0 nx.length, .ro (.strs od) 0 od.length, .str py]⟩] (by unfold zFe; rw [List.map_append, List.map_append]; rfl) ?_
     repeat (refine zB ?_)
     refine zA ?_
     refine zAy [some ⟨184, zFe (F ++ [(nf, i)])⟩] [some ⟨71, .box [.int .i64 kd, .int .i64 pl, .int .i64 nf, .ro (.ints .i64 nx) 0 nx.length, .ro (.strs od) 0 od.length, .str py]⟩] [(0, .ro (z7 t) 0 t.length), (1, .int .i64 p), (5, .ro (zBb W) 0 t.length), (6, .mp 0), (15, .ro (z7 t) 0 t.length), (16, .int .i64 (t.length : Nat)), (17, .int .i64 (i : Nat))] rfl ⟨rfl, rfl, rfl, rfl, rfl, rfl, rfl, trivial⟩ (fun h hh => by rw [hfix] at hh; exact absurd hh id) (zDj (zEF _ _)) rfl ?_
     repeat (first | refine zD (zF rfl) ?_ | refine zB ?_ | refine zA ?_ | refine zC rfl ?_ | refine zx ?_ | refine zW ?_ | refine zX ?_ | refine zD (zAK rfl rfl (by omega)) ?_)
     exact zd ⟨i + 1, ⟨by omega, by rw [hP2, hps]⟩, by omega, ⟨rfl, rfl, rfl, rfl, rfl, rfl, rfl, trivial⟩, by rw [hF2, hfs]⟩
   | some k0 =>
     rw [hL, if_neg (by rintro ⟨_, q⟩; cases q)] at hfs
     rw [hL] at hps
     simp only at hps
     obtain ⟨jj, i1, i2⟩ := zCh hL
     have hk0 := hff _ (zDp hL)
     simp only at hk0
     have hk0' : k0 < t.length := by omega
     have hw0 : ∀ z, (W.getD z []).length ≤ 9223372036854775807 := fun z => zHw (P := fun w : zBt => w.length ≤ 9223372036854775807) (fun w hw => Nat.le_trans (hWs w hw) (by decide)) (Nat.zero_le _) z
     have ceq := equalP (W.getD i []) (W.getD k0 []) (hw0 i) (hw0 k0)
     refine zD (zB3 rfl (.int rfl) rfl rfl rfl rfl (zGm F) jj i1 i2) ?_
     repeat (first | refine zD (zF rfl) ?_ | refine zD (zE rfl) ?_ | refine zB ?_ | refine zA ?_ | refine zG ?_ | refine zC rfl ?_ | refine ze rfl ?_ | refine zP ?_ | refine zD (zAw rfl) ?_ | refine zD (zz rfl rfl) ?_)
     refine zAI (by kernel_rfl) ?_
     refine zAR (fuel := 0) [0, 1, 2, 3, 4, 5, 6, 7, 8, 9] [(0, .ro (z7 t) 0 t.length), (1, .int .i64 p), (5, .ro (zBb W) 0 t.length), (6, .mp 0), (15, .ro (z7 t) 0 t.length), (16, .int .i64 (t.length : Nat)), (17, .int .i64 (i : Nat)), (7, .int .i64 (i : Nat)), (8, .ptr 1 0 0), (9, .int .i64 (k0 : Nat))] ⟨rfl, rfl, rfl, rfl, rfl, rfl, rfl, rfl, rfl, rfl, trivial⟩ (by kernel_rfl) (by decide) rfl rfl ?_
     refine zn rfl rfl (zF rfl) ?_
     refine zn rfl rfl (zF rfl) ?_
     refine zn rfl rfl (zY rfl rfl rfl rfl (by first | (simp only [Nat.zero_add, Int.toNat_natCast, Int.toNat_zero]; exact rfl) | exact rfl) (by omega)) ?_
     refine zn rfl rfl (zBD rfl rfl rfl rfl) ?_
     refine zn rfl rfl (zF rfl) ?_
     refine zn rfl rfl (zF rfl) ?_
     refine zn rfl rfl (zY rfl rfl rfl rfl (by first | (simp only [Nat.zero_add, Int.toNat_natCast, Int.toNat_zero]; exact rfl) | exact rfl) (by omega)) ?_
     refine zn rfl rfl (zBD rfl rfl rfl rfl) ?_
     refine zCb rfl rfl rfl rfl rfl ceq ?_
     refine zn rfl rfl (zAw rfl) ?_
     refine zAs ?_
     refine zAB (by kernel_rfl) ?_
     repeat (refine zA ?_)
     by_cases he : W.getD i [] = W.getD k0 []
     · rw [decide_eq_true he] at hps ⊢
       repeat (first | refine ze rfl ?_ | refine zZ ?_ | refine zP ?_)
       refine zA ?_
       refine zAy [some ⟨184, zFe (F)⟩] [some ⟨71, .box [.int .i64 kd, .int .i64 pl, .int .i64 nf, .ro (.ints .i64 nx) 0 nx.length, .ro (.strs od) 0 od.length, .str py]⟩] [(0, .ro (z7 t) 0 t.length), (1, .int .i64 p), (5, .ro (zBb W) 0 t.length), (6, .mp 0), (15, .ro (z7 t) 0 t.length), (16, .int .i64 (t.length : Nat)), (17, .int .i64 (i : Nat))] rfl ⟨rfl, rfl, rfl, rfl, rfl, rfl, rfl, trivial⟩ (fun h hh => by rw [hfix] at hh; exact absurd hh id) (zDj (zEF _ _)) rfl ?_
       repeat (first | refine zD (zF rfl) ?_ | refine zB ?_ | refine zC rfl ?_ | refine zD (zAK rfl rfl (by omega)) ?_)
       exact zd ⟨i + 1, ⟨by omega, by rw [hP2, hps]⟩, by omega, ⟨rfl, rfl, rfl, rfl, rfl, rfl, rfl, trivial⟩, by rw [hF2, hfs]⟩
     · rw [decide_eq_false he] at hps ⊢
       rw [hno hps] at hR
       repeat (first | refine zD (zE rfl) ?_ | refine zB ?_ | refine zA ?_ | refine zG ?_ | refine zC rfl ?_ | refine zf rfl ?_ | refine zH ?_ | refine zQ ?_ | refine zo ?_ | refine zAf ?_)
       exact zR hR rfl rfl
 · have hie : i = t.length := by omega
   subst hie
   rw [hP] at hR
   repeat (first | refine zD (zE rfl) ?_ | refine zB ?_ | refine zA ?_ | refine zG ?_ | refine zC rfl ?_ | refine zx ?_ | refine zW ?_ | refine zX ?_ | refine zi ?_ | refine zH ?_)
   exact zR hR rfl rfl
end Go.Proofs.YtgmleamhjnlknaaGreatDoor
namespace Go.Proofs.YtgmleamhjnlknaaGreatDoor
open Go.Ax Go.Ax.Bg Go.Ax.Rt Go.RowKit Go.Ax.Idx Go.Ax.Cd
attribute [local irreducible] Ax zAV QOp zV zAJ
set_option maxRecDepth 100000
set_option maxHeartbeats 4000000
def zCe (s : RSeq) : List AV := [.int .i64 s.info, .int .i64 s.choice, .int .i64 s.before]
abbrev zBG (l : List RSeq) : Cells := zCN zAn 3 zCe l
theorem zJR (s : RSeq) (j h : Nat) (hj : j < 3) : ((zCe s).getD j .any).forget h = (zCe s).getD j .any := by
 match j, hj with
 | 0, _ => rfl
 | 1, _ => rfl
 | 2, _ => rfl
theorem zJO (s : RSeq) (j : Nat) : noRef ((zCe s).getD j .any) = true := by
 match j with
 | 0 => rfl
 | 1 => rfl
 | 2 => rfl
 | _ + 3 => rfl
theorem zGM (l : List RSeq) : zAO (zBG l) := by
 intro i j _ hj
 exact zJO _ j
theorem rowS3 (s : RSeq) (j : Nat) (hj : j < 3) : (zD9 1 3 [.int .i64 s.info, .int .i64 s.choice, .int .i64 s.before]).at 0 j = (zCe s).getD j .any := by
 match j, hj with
 | 0, _ => rfl
 | 1, _ => rfl
 | 2, _ => rfl
abbrev formB (n N : Nat) : Cells := .box [.sl 0 0 n, .sl 1 0 N]
abbrev zB4 (N : Nat) (f : RForm) (L : zg) : zg := some ⟨80, zBG f.seqs⟩ :: some ⟨3, .ints .i64 f.pos⟩ :: some ⟨166, formB f.seqs.length N⟩ :: some ⟨184, zFe f.first⟩ :: L
theorem add_len (p : Int) (n : TNode) (i : Nat) (f : RForm) : f.seqs.length ≤ (zAd p n i f).seqs.length := by
 unfold zAd
 split
 · show _ ≤ (_ ++ _ : List RSeq).length
   rw [List.length_append]; omega
 · exact Nat.le_refl _
theorem zIL (t : zAD) (p : Int) (i : Nat) : ∀ e, (zAz t p i).seqs.length ≤ (zAz t p (i + e)).seqs.length
 | 0 => Nat.le_refl _
 | e + 1 => by
   rw [← Nat.add_assoc, zAz, zHS]
   exact Nat.le_trans (zIL t p i e) (add_len _ _ _ _)
theorem zJ5 {t : zAD} (hv : Valid t) (p : Int) {i : Nat} (hi : i ≤ t.length) : (zAz t p i).seqs.length ≤ 61 := by
 have h1 := zIL t p i (t.length - i)
 rw [show i + (t.length - i) = t.length by omega] at h1
 exact Nat.le_trans h1 (zGB hv p)
theorem zKe (l : List RSeq) (n : Nat) : zBB n (zBG l) := by
 intro i j _ hj
 have hj : j < 3 := hj
 match j, hj with
 | 0, _ => rfl
 | 1, _ => rfl
 | 2, _ => rfl
theorem zF0 (N : Nat) (f : RForm) : ∀ (h : Nat) (o : AObj), (zB4 N f [])[h]? = some (some o) → zBB 4 o.c := by
 intro h o ho
 match h, ho with
 | 0, ho => cases ho; exact zKe _ _
 | 1, ho => cases ho; exact zDX _ _ _
 | 2, ho =>
   cases ho
   intro i j _ hj
   have hj : j < 2 := hj
   match j, hj with
   | 0, _ => rfl
   | 1, _ => rfl
 | 3, ho => cases ho; exact zEF _ _
 | _ + 4, ho => simp at ho
theorem add_yes {p : Int} {n : TNode} {i : Nat} {f : RForm} (h1 : own p n = true) (h2 : zBw f.first n.info = none) : zAd p n i f = ⟨f.seqs ++ zCt n (f.pos.getD i 0), f.pos, f.first ++ [(n.info, f.seqs.length)]⟩ := by unfold zAd; rw [if_pos ⟨h1, h2⟩]
theorem add_old {p : Int} {n : TNode} {i : Nat} {f : RForm} {s : Nat} (h2 : zBw f.first n.info = some s) : zAd p n i f = f := by unfold zAd; rw [if_neg (by rintro ⟨_, q⟩; rw [h2] at q; cases q)]
theorem add_not {p : Int} {n : TNode} {i : Nat} {f : RForm} (h1 : own p n = false) : zAd p n i f = f := by unfold zAd; rw [if_neg (by rintro ⟨q, _⟩; rw [h1] at q; cases q)]
theorem zE3 {α : Type} {h : Nat} {f : α → AV} (hf : ∀ x, (f x).forget h = f x) : ∀ l : List α, AV.forgets h (l.map f) = l.map f
 | [] => rfl
 | a :: r => by
   show (f a).forget h :: AV.forgets h (r.map f) = f a :: r.map f
   rw [hf a, zE3 hf r]
theorem zLF (F : List (Int × Nat)) (h : Nat) : CEq ((zFe F).forget h) (zFe F) := by
 have e : (zFe F).forget h = zFe F := by
   show Cells.mp (AV.forgets h _) (AV.forgets h _) = _
   rw [zE3 (fun _ => rfl), zE3 (fun _ => rfl)]
 rw [e]; exact CEq.refl _
def zGX (n : TNode) (b : Int) (k : Nat) : List RSeq := (List.range k).map (fun k : Nat => ⟨n.info, (k : Int), b⟩)
theorem zL7 (n : TNode) (b : Int) (k : Nat) : zGX n b (k + 1) = zGX n b k ++ [⟨n.info, (k : Int), b⟩] := by
 unfold zGX; rw [List.range_succ, List.map_append]; rfl
theorem form_new (N : Nat) (f : RForm) (nf : Int) (n : TNode) (b : Int) (L : zg) : zB4 N ⟨f.seqs ++ zGX n b 0, f.pos, f.first ++ [(nf, f.seqs.length)]⟩ L = some ⟨80, zBG f.seqs⟩ :: some ⟨3, .ints .i64 f.pos⟩ :: some ⟨166, formB f.seqs.length N⟩ :: some ⟨184, .mp (f.first.map (fun x => .int .i64 x.1) ++ [.int .i64 nf]) (f.first.map (fun x => .int .i64 (x.2 : Nat)) ++ [.int .i64 (f.seqs.length : Nat)])⟩ :: L := by
 have e : f.seqs ++ zGX n b 0 = f.seqs := List.append_nil _
 simp only [zB4, e, zFe, List.map_append, List.map_cons, List.map_nil]
theorem newK_len (n : TNode) (b : Int) (k : Nat) : (zGX n b k).length = k := by simp [zGX]
theorem of_ok (t : zAD) (p : Int) (hT : ShortT t) (hv : Valid t) : zV Tryz.prog 115 [.ro (z7 t) 0 t.length, .int .i64 p] [] (fun _ => False) (fun r H' => r = .ptr 2 0 0 ∧ H' = zB4 t.length (zAz t p t.length) []) := by
 have hlen := hT.len
 have h120 := hv.le
 have hN0 := hv.ne
 refine zN (P := Tryz.prog) (fn := Tryz.f115) rfl rfl (by kernel_rfl) rfl (fun c hR hfix => ?_)
 repeat (first | refine zD (zE rfl) ?_ | refine zB ?_ | refine zA ?_ | refine zG ?_ | refine zC rfl ?_ | refine zD (zAa rfl rfl rfl rfl rfl rfl) ?_)
 refine zD3 rfl rfl rfl rfl rfl rfl rfl rfl rfl rfl ?_
 repeat (first | refine zD (zF rfl) ?_ | refine zD (zw rfl rfl rfl) ?_)
 refine zCS rfl rfl rfl rfl rfl rfl rfl rfl (by show 0 ≤ _ ∧ _ ≤ _ ∧ (8 : Int) * _ ≤ _ ∧ _; omega) ?_
 repeat (first | refine zD (zE rfl) ?_ | refine zB ?_ | refine zA ?_ | refine zG ?_ | refine zC rfl ?_ | refine zD (zAa rfl rfl rfl rfl rfl rfl) ?_ | refine zA8 rfl rfl ?_)
 refine zES ?_
 refine zA5 (zB4 t.length (zAz t p 0) []) ?_ ?_
 · refine zAk.eqv ⟨rfl, rfl, fun i j hi hj => ?_⟩ (zAk.eqv (CEq.refl _) (zAk.eqv (CEq.refl _) (zAk.eqv (CEq.refl _) zAk.nil)))
   have hj : j < 3 := hj
   obtain rfl := Nat.lt_one_iff.1 (show i < 1 from hi)
   match j, hj with
   | 0, _ => rfl
   | 1, _ => rfl
   | 2, _ => rfl
 repeat (first | refine zD (zF rfl) ?_ | refine zD (zE rfl) ?_ | refine zB ?_ | refine zA ?_ | refine zG ?_ | refine zC rfl ?_ | refine zT ?_ | refine zD (zw rfl rfl rfl) ?_)
 refine zAC (ι := Nat) (fun i => [(0, .ro (z7 t) 0 t.length), (1, .int .i64 p), (5, .ptr 2 0 0), (6, .mp 3), (23, .ro (z7 t) 0 t.length), (24, .int .i64 (t.length : Nat)), (25, .int .i64 (i : Nat))]) (fun i => zB4 t.length (zAz t p i) [])
   (fun i => i ≤ t.length) (fun i => t.length - i) 0 ⟨⟨rfl, rfl, rfl, rfl, rfl, rfl, rfl, trivial⟩, rfl, Nat.zero_le _⟩ ?_
 intro i hi
 repeat (first | refine zB ?_ | refine zA ?_ | refine zG ?_ | refine zC rfl ?_ | refine zD (zAQ rfl rfl) ?_)
 refine zK rfl (fun h => ?_) (fun h => ?_)
 · have hi' : i < t.length := by omega
   have hsn := hT.node _ (zA6 node0 hi')
   have hbh := hv.behind hi'
   have hwf := hv.few hi'
   have hRI := RI.all_n hv p i hi
   obtain ⟨_, _, _, _, _, _, _, a8, _, a10⟩ := RI.add hv hRI hi' hRI hRI.s0.1
   have hfl := zJ5 hv p hi
   have hgf := zJ5 hv p (show i + 1 ≤ t.length by omega)
   have hfl2 := zGP t p i
   have hnx : zAz t p (i + 1) = ⟨(zAd p (t.getD i node0) i (zAz t p i)).seqs, zBI (zG1 p (t.getD i node0) i (zAd p (t.getD i node0) i (zAz t p i))) (t.getD i node0).next 0 (zAd p (t.getD i node0) i (zAz t p i)).pos, (zAd p (t.getD i node0) i (zAz t p i)).first⟩ := by rw [zAz, zHS, zGY]
   have hgl : (zAd p (t.getD i node0) i (zAz t p i)).pos.length = t.length := by rw [zGx]; exact hfl2
   rw [hnx] at hgf
   simp only at hgf
   obtain ⟨s1, s2, s3, s4⟩ := hsn
   repeat (first | refine zD (zF rfl) ?_ | refine zD (zE rfl) ?_ | refine zA ?_ | refine zG ?_ | refine zC rfl ?_ | refine zT ?_ | refine zP ?_ | refine zD (zY rfl rfl rfl rfl (by first | (simp only [Nat.zero_add, Int.toNat_natCast, Int.toNat_zero]; exact rfl) | exact rfl) (by omega)) ?_ | refine zD (zAS rfl rfl rfl rfl rfl rfl) ?_ | refine z8 rfl rfl rfl ?_)
   refine zU 29 (.agg (zDY (t.getD i node0))) rfl (AEq.of_eq rfl) ?_
   generalize t.getD i node0 = n at *
   generalize zAz t p i = f at *
   obtain ⟨kd, pl, nf, nx, od, py⟩ := n
   simp only at *
   refine zl (c' := .box [.int .i64 kd, .int .i64 pl, .int .i64 nf, .ro (.ints .i64 nx) 0 nx.length, .ro (.strs od) 0 od.length, .str py]) rfl rfl rfl rfl rfl Nat.zero_lt_one rfl rfl (fun i' j' hi' hj' => ?_) ?_
   · rw [if_pos (Nat.lt_one_iff.1 hi')]; rfl
   refine zAx (zB4 t.length f [some ⟨71, .box [.int .i64 kd, .int .i64 pl, .int .i64 nf, .ro (.ints .i64 nx) 0 nx.length, .ro (.strs od) 0 od.length, .str py]⟩]) rfl ?_
   refine zU 8 (.ptr 4 0 0) rfl (AEq.of_eq rfl) ?_
   have hown : own p ⟨kd, pl, nf, nx, od, py⟩ = (decide (kd = 2) && decide (pl = p)) := rfl
   generalize hv' : zG1 p ⟨kd, pl, nf, nx, od, py⟩ i (zAd p ⟨kd, pl, nf, nx, od, py⟩ i f) = v at *
   have hvv : ∀ k, v k = if own p ⟨kd, pl, nf, nx, od, py⟩ = true then (((zBw (zAd p ⟨kd, pl, nf, nx, od, py⟩ i f).first nf).getD 0 : Nat) : Int) + (k : Int) else (zAd p ⟨kd, pl, nf, nx, od, py⟩ i f).pos.getD i 0 := fun k => by rw [← hv']; rfl
   have hay := @add_yes p ⟨kd, pl, nf, nx, od, py⟩ i f
   have hao := @add_old p ⟨kd, pl, nf, nx, od, py⟩ i f
   have han := @add_not p ⟨kd, pl, nf, nx, od, py⟩ i f
   generalize hb : own p ⟨kd, pl, nf, nx, od, py⟩ = b at *
   apply zAu (H := zB4 t.length f [some ⟨71, .box [.int .i64 kd, .int .i64 pl, .int .i64 nf, .ro (.ints .i64 nx) 0 nx.length, .ro (.strs od) 0 od.length, .str py]⟩]) [(0, .ro (z7 t) 0 t.length), (1, .int .i64 p), (5, .ptr 2 0 0), (6, .mp 3), (7, .int .i64 (i : Nat)), (8, .ptr 4 0 0), (9, .bool b), (23, .ro (z7 t) 0 t.length), (24, .int .i64 (t.length : Nat)), (25, .int .i64 (i : Nat))]
   · intro fin
     repeat (first | refine zD (zF rfl) ?_ | refine zB ?_ | refine zA ?_ | refine zG ?_ | refine zC rfl ?_ | refine zD (zI rfl rfl rfl rfl rfl) ?_ | refine zD (zA0 rfl rfl) ?_ | refine zD (zL rfl rfl rfl rfl rfl rfl) ?_)
     refine zAH rfl rfl (fun g1 => ?_) (fun g1 => ?_)
     · repeat (first | refine zD (zF rfl) ?_ | refine zD (zE rfl) ?_ | refine zB ?_ | refine zj rfl rfl ?_ | refine zD (zI rfl rfl rfl rfl rfl) ?_ | refine zD (zA0 rfl rfl) ?_ | refine zD (zr rfl rfl) ?_ | refine zD (zL rfl rfl rfl rfl rfl rfl) ?_)
       refine zA ?_
       refine zAv 9 (.bool b) rfl (AEq.of_eq (by rw [hown, decide_eq_true g1, Bool.true_and])) ?_
       exact fin _ ⟨rfl, rfl, rfl, rfl, rfl, rfl, rfl, rfl, rfl, rfl, trivial⟩
     · repeat (first | refine zD (zE rfl) ?_ | refine zB ?_ | refine zp rfl rfl rfl ?_ | refine zD (zr rfl rfl) ?_)
       refine zA ?_
       refine zAv 9 (.bool b) rfl (AEq.of_eq (by rw [hown, decide_eq_false g1, Bool.false_and])) ?_
       exact fin _ ⟨rfl, rfl, rfl, rfl, rfl, rfl, rfl, rfl, rfl, rfl, trivial⟩
   cases b
   · have hg := han rfl
     generalize zAd p ⟨kd, pl, nf, nx, od, py⟩ i f = g at *
     subst hg
     simp only [Bool.false_eq_true, if_false] at hvv
     repeat (first | refine zD (zF rfl) ?_ | refine zB ?_ | refine zA ?_ | refine zG ?_ | refine zC rfl ?_ | refine ze rfl ?_ | refine zT ?_ | refine zP ?_ | refine zD (zI rfl rfl rfl rfl rfl) ?_ | refine zD (zw rfl rfl rfl) ?_ | refine zD (zL rfl rfl rfl rfl rfl rfl) ?_)
     refine zAC (ι := Nat) (fun k => [(0, .ro (z7 t) 0 t.length), (1, .int .i64 p), (5, .ptr 2 0 0), (6, .mp 3), (7, .int .i64 (i : Nat)), (8, .ptr 4 0 0), (9, .bool false), (23, .ro (z7 t) 0 t.length), (24, .int .i64 (t.length : Nat)), (25, .int .i64 (i : Nat)), (85, .ro (.ints .i64 nx) 0 nx.length), (86, .int .i64 (nx.length : Nat)), (87, .int .i64 (k : Nat))]) (fun k => zB4 t.length ⟨g.seqs, zBI v (nx.take k) 0 g.pos, g.first⟩ [some ⟨71, .box [.int .i64 kd, .int .i64 pl, .int .i64 nf, .ro (.ints .i64 nx) 0 nx.length, .ro (.strs od) 0 od.length, .str py]⟩])
       (fun k => k ≤ nx.length) (fun k => nx.length - k) 0 ⟨⟨rfl, rfl, rfl, rfl, rfl, rfl, rfl, rfl, rfl, rfl, rfl, rfl, rfl, trivial⟩, rfl, Nat.zero_le _⟩ ?_
     intro k hk
     repeat (first | refine zB ?_ | refine zA ?_ | refine zG ?_ | refine zC rfl ?_ | refine zD (zAQ rfl rfl) ?_)
     refine zK rfl (fun h5 => ?_) (fun h5 => ?_)
     · have hk' : k < nx.length := by omega
       obtain ⟨b1, b2⟩ := hbh _ (zBp 0 hk')
       have hAl : (zBI v (nx.take k) 0 g.pos).length = t.length := by rw [zEI]; exact hgl
       have hAi : (zBI v (nx.take k) 0 g.pos).getD i 0 = g.pos.getD i 0 := zDi v 0 _ _ _ (fun c hc => by have := hbh c (List.mem_of_mem_take hc); omega)
       have hst : zBI v (nx.take (k + 1)) 0 g.pos = (zBI v (nx.take k) 0 g.pos).set (nx.getD k 0).toNat (v k) := by
         rw [zDZ hk', zEK, List.length_take, Nat.min_eq_left hk, Nat.zero_add]
       have hvk := hvv k
       generalize hA2 : zBI v (nx.take (k + 1)) 0 g.pos = A2 at *
       generalize zBI v (nx.take k) 0 g.pos = A at *
       obtain ⟨x, hx⟩ := Int.eq_ofNat_of_zero_le (show 0 ≤ nx.getD k 0 by omega)
       have hxn : (nx.getD k 0).toNat = x := by rw [hx, Int.toNat_natCast]
       rw [hx] at b1 b2
       rw [hxn] at hst
       have hxl : x < A.length := by omega
       have hil : i < A.length := by omega
       have hxl2 : x < (A.set x (A.getD i 0)).length := by rw [List.length_set]; exact hxl
       repeat (first | refine zD (zF rfl) ?_ | refine zD (zE rfl) ?_ | refine zD (z6 rfl rfl rfl) ?_ | refine zB ?_ | refine zA ?_ | refine zG ?_ | refine zC rfl ?_ | refine zT ?_ | refine zP ?_ | refine zD (zY rfl rfl rfl rfl (by first | (simp only [Nat.zero_add, Int.toNat_natCast, Int.toNat_zero]; exact rfl) | exact rfl) (by omega)) ?_)
       refine zAv 14 (.int .i64 (x : Nat)) rfl (AEq.of_eq (by rw [hx])) ?_
       refine zAI (by kernel_rfl) ?_
       refine zAR (fuel := 1) [0, 1, 2, 3, 4, 5, 6, 7, 8, 9, 10, 11, 12] [(0, .ro (z7 t) 0 t.length), (1, .int .i64 p), (5, .ptr 2 0 0), (6, .mp 3), (7, .int .i64 (i : Nat)), (8, .ptr 4 0 0), (9, .bool false), (23, .ro (z7 t) 0 t.length), (24, .int .i64 (t.length : Nat)), (25, .int .i64 (i : Nat)), (85, .ro (.ints .i64 nx) 0 nx.length), (86, .int .i64 (nx.length : Nat)), (87, .int .i64 (k : Nat)), (13, .int .i64 (k : Nat)), (14, .int .i64 (x : Nat))] ⟨rfl, rfl, rfl, rfl, rfl, rfl, rfl, rfl, rfl, rfl, rfl, rfl, rfl, rfl, rfl, trivial⟩ (by kernel_rfl) (by decide) rfl rfl ?_
       refine zn rfl rfl (zF rfl) ?_
       refine zn rfl rfl (zAT rfl) ?_
       refine zn rfl rfl (zL rfl rfl rfl rfl rfl rfl) ?_
       refine zn rfl rfl (zI rfl rfl rfl rfl rfl) ?_
       refine zn rfl rfl (zF rfl) ?_
       refine zn rfl rfl (zF rfl) ?_
       refine zn rfl rfl (zAT rfl) ?_
       refine zn rfl rfl (zL rfl rfl rfl rfl rfl rfl) ?_
       refine zn rfl rfl (zI rfl rfl rfl rfl rfl) ?_
       refine zn rfl rfl (zF rfl) ?_
       refine zn rfl rfl (zu rfl rfl rfl rfl rfl (by first | (simp only [Nat.zero_add, Int.toNat_natCast, Int.toNat_zero]; exact rfl) | exact rfl) (by omega)) ?_
       refine zn rfl rfl (zAP rfl rfl rfl rfl (by first | assumption | omega)) ?_
       refine zn rfl rfl (zu rfl rfl rfl rfl rfl (by first | (simp only [Nat.zero_add, Int.toNat_natCast, Int.toNat_zero]; exact rfl) | exact rfl) (by omega)) ?_
       refine zAs ?_
       refine zO (is := [13]) (by kernel_rfl) (by simp) rfl ⟨fun o ho => ?_, trivial⟩
       all_goals (cases ho)
       repeat (first | refine zB ?_ | refine zJ ?_ | refine zAr rfl rfl rfl rfl rfl rfl rfl (by first | assumption | (show _ < List.length _; first | assumption | omega)) ?_)
       refine zAB (by kernel_rfl) ?_
       repeat (first | refine zD (zF rfl) ?_ | refine zB ?_ | refine zA ?_ | refine zG ?_ | refine zC rfl ?_ | refine ze rfl ?_ | refine zZ ?_ | refine zP ?_ | refine zD (zAK rfl rfl (by omega)) ?_)
       exact zd ⟨k + 1, by omega, by omega, ⟨rfl, rfl, rfl, rfl, rfl, rfl, rfl, rfl, rfl, rfl, rfl, rfl, rfl, trivial⟩, by rw [hA2, hst, hvk, ← hAi]; rfl⟩
     · have hke : k = nx.length := by omega
       subst hke
       rw [List.take_length]
       repeat (first | refine zZ ?_ | refine zx ?_ | refine zW ?_ | refine zX ?_ | refine zi ?_)
       refine zA ?_
       refine zAy (zB4 t.length ⟨g.seqs, zBI v nx 0 g.pos, g.first⟩ []) [some ⟨71, .box [.int .i64 kd, .int .i64 pl, .int .i64 nf, .ro (.ints .i64 nx) 0 nx.length, .ro (.strs od) 0 od.length, .str py]⟩] [(0, .ro (z7 t) 0 t.length), (1, .int .i64 p), (5, .ptr 2 0 0), (6, .mp 3), (23, .ro (z7 t) 0 t.length), (24, .int .i64 (t.length : Nat)), (25, .int .i64 (i : Nat))] rfl ⟨rfl, rfl, rfl, rfl, rfl, rfl, rfl, trivial⟩ (fun h hh => by rw [hfix] at hh; exact absurd hh id) (zF0 _ _) rfl ?_
       repeat (first | refine zD (zF rfl) ?_ | refine zB ?_ | refine zC rfl ?_ | refine zD (zAK rfl rfl (by omega)) ?_)
       exact zd ⟨i + 1, by omega, by omega, ⟨rfl, rfl, rfl, rfl, rfl, rfl, rfl, trivial⟩, by rw [hnx]⟩
   · obtain ⟨s, hs⟩ := a10 rfl
     obtain ⟨jj, i1, i2⟩ := zCh hs
     have hsl := (a8 _ (zDp hs)).2.1
     simp only at hsl
     simp only [if_true] at hvv
     rw [hs] at hvv
     simp only [Option.getD_some] at hvv
     repeat (first | refine zD (zF rfl) ?_ | refine zB ?_ | refine zA ?_ | refine zG ?_ | refine zC rfl ?_ | refine zf rfl ?_ | refine zD (zI rfl rfl rfl rfl rfl) ?_ | refine zD (zL rfl rfl rfl rfl rfl rfl) ?_)
     cases hL : zBw f.first nf with
     | some s0 =>
       have hg := hao hL
       refine zD (zB3 rfl (.int rfl) rfl rfl rfl rfl (zGm f.first) (zCh hL).choose (zCh hL).choose_spec.1 (zCh hL).choose_spec.2) ?_
       generalize zAd p ⟨kd, pl, nf, nx, od, py⟩ i f = g at *
       subst hg
       obtain ⟨jj, i1, i2⟩ := zCh hs
       repeat (first | refine zD (zF rfl) ?_ | refine zD (zE rfl) ?_ | refine zB ?_ | refine zA ?_ | refine zG ?_ | refine zC rfl ?_ | refine ze rfl ?_ | refine zT ?_ | refine zP ?_ | refine zD (zI rfl rfl rfl rfl rfl) ?_ | refine zD (zAw rfl) ?_ | refine zD (zz rfl rfl) ?_ | refine zD (zw rfl rfl rfl) ?_ | refine zD (zL rfl rfl rfl rfl rfl rfl) ?_)
       refine zAC (ι := Nat) (fun k => [(0, .ro (z7 t) 0 t.length), (1, .int .i64 p), (5, .ptr 2 0 0), (6, .mp 3), (7, .int .i64 (i : Nat)), (8, .ptr 4 0 0), (9, .bool true), (23, .ro (z7 t) 0 t.length), (24, .int .i64 (t.length : Nat)), (25, .int .i64 (i : Nat)), (85, .ro (.ints .i64 nx) 0 nx.length), (86, .int .i64 (nx.length : Nat)), (87, .int .i64 (k : Nat))]) (fun k => zB4 t.length ⟨g.seqs, zBI v (nx.take k) 0 g.pos, g.first⟩ [some ⟨71, .box [.int .i64 kd, .int .i64 pl, .int .i64 nf, .ro (.ints .i64 nx) 0 nx.length, .ro (.strs od) 0 od.length, .str py]⟩])
         (fun k => k ≤ nx.length) (fun k => nx.length - k) 0 ⟨⟨rfl, rfl, rfl, rfl, rfl, rfl, rfl, rfl, rfl, rfl, rfl, rfl, rfl, trivial⟩, rfl, Nat.zero_le _⟩ ?_
       intro k hk
       repeat (first | refine zB ?_ | refine zA ?_ | refine zG ?_ | refine zC rfl ?_ | refine zD (zAQ rfl rfl) ?_)
       refine zK rfl (fun h5 => ?_) (fun h5 => ?_)
       · have hk' : k < nx.length := by omega
         obtain ⟨b1, b2⟩ := hbh _ (zBp 0 hk')
         have hAl : (zBI v (nx.take k) 0 g.pos).length = t.length := by rw [zEI]; exact hgl
         have hAi : (zBI v (nx.take k) 0 g.pos).getD i 0 = g.pos.getD i 0 := zDi v 0 _ _ _ (fun c hc => by have := hbh c (List.mem_of_mem_take hc); omega)
         have hst : zBI v (nx.take (k + 1)) 0 g.pos = (zBI v (nx.take k) 0 g.pos).set (nx.getD k 0).toNat (v k) := by
           rw [zDZ hk', zEK, List.length_take, Nat.min_eq_left hk, Nat.zero_add]
         have hvk := hvv k
         generalize hA2 : zBI v (nx.take (k + 1)) 0 g.pos = A2 at *
         generalize zBI v (nx.take k) 0 g.pos = A at *
         obtain ⟨x, hx⟩ := Int.eq_ofNat_of_zero_le (show 0 ≤ nx.getD k 0 by omega)
         have hxn : (nx.getD k 0).toNat = x := by rw [hx, Int.toNat_natCast]
         rw [hx] at b1 b2
         rw [hxn] at hst
         have hxl : x < A.length := by omega
         have hil : i < A.length := by omega
         have hxl2 : x < (A.set x (A.getD i 0)).length := by rw [List.length_set]; exact hxl
         repeat (first | refine zD (zF rfl) ?_ | refine zD (zE rfl) ?_ | refine zD (z6 rfl rfl rfl) ?_ | refine zB ?_ | refine zA ?_ | refine zG ?_ | refine zC rfl ?_ | refine zT ?_ | refine zP ?_ | refine zD (zY rfl rfl rfl rfl (by first | (simp only [Nat.zero_add, Int.toNat_natCast, Int.toNat_zero]; exact rfl) | exact rfl) (by omega)) ?_)
         refine zAv 14 (.int .i64 (x : Nat)) rfl (AEq.of_eq (by rw [hx])) ?_
         refine zAI (by kernel_rfl) ?_
         refine zAR (fuel := 1) [0, 1, 2, 3, 4, 5, 6, 7, 8, 9, 10, 11, 12] [(0, .ro (z7 t) 0 t.length), (1, .int .i64 p), (5, .ptr 2 0 0), (6, .mp 3), (7, .int .i64 (i : Nat)), (8, .ptr 4 0 0), (9, .bool true), (23, .ro (z7 t) 0 t.length), (24, .int .i64 (t.length : Nat)), (25, .int .i64 (i : Nat)), (85, .ro (.ints .i64 nx) 0 nx.length), (86, .int .i64 (nx.length : Nat)), (87, .int .i64 (k : Nat)), (13, .int .i64 (k : Nat)), (14, .int .i64 (x : Nat))] ⟨rfl, rfl, rfl, rfl, rfl, rfl, rfl, rfl, rfl, rfl, rfl, rfl, rfl, rfl, rfl, trivial⟩ (by kernel_rfl) (by decide) rfl rfl ?_
         refine zn rfl rfl (zF rfl) ?_
         refine zn rfl rfl (zAT rfl) ?_
         refine zn rfl rfl (zL rfl rfl rfl rfl rfl rfl) ?_
         refine zn rfl rfl (zI rfl rfl rfl rfl rfl) ?_
         refine zn rfl rfl (zF rfl) ?_
         refine zn rfl rfl (zF rfl) ?_
         refine zn rfl rfl (zAT rfl) ?_
         refine zn rfl rfl (zL rfl rfl rfl rfl rfl rfl) ?_
         refine zn rfl rfl (zI rfl rfl rfl rfl rfl) ?_
         refine zn rfl rfl (zF rfl) ?_
         refine zn rfl rfl (zu rfl rfl rfl rfl rfl (by first | (simp only [Nat.zero_add, Int.toNat_natCast, Int.toNat_zero]; exact rfl) | exact rfl) (by omega)) ?_
         refine zn rfl rfl (zAP rfl rfl rfl rfl (by first | assumption | omega)) ?_
         refine zn rfl rfl (zu rfl rfl rfl rfl rfl (by first | (simp only [Nat.zero_add, Int.toNat_natCast, Int.toNat_zero]; exact rfl) | exact rfl) (by omega)) ?_
         refine zAs ?_
         refine zO (is := [13]) (by kernel_rfl) (by simp) rfl ⟨fun o ho => ?_, trivial⟩
         all_goals (cases ho)
         repeat (first | refine zB ?_ | refine zJ ?_ | refine zAr rfl rfl rfl rfl rfl rfl rfl (by first | assumption | (show _ < List.length _; first | assumption | omega)) ?_)
         refine zFL (zB4 t.length ⟨g.seqs, A.set x (A.getD i 0), g.first⟩ [some ⟨71, .box [.int .i64 kd, .int .i64 pl, .int .i64 nf, .ro (.ints .i64 nx) 0 nx.length, .ro (.strs od) 0 od.length, .str py]⟩]) (zAk.refl _) ?_
         refine zAB (by kernel_rfl) ?_
         repeat (first | refine zD (zF rfl) ?_ | refine zB ?_ | refine zA ?_ | refine zG ?_ | refine zC rfl ?_ | refine zf rfl ?_)
         refine zAI (by kernel_rfl) ?_
         refine zAR (fuel := 1) [0, 1, 2, 3, 4, 5, 6, 7, 8, 9, 10, 11] [(0, .ro (z7 t) 0 t.length), (1, .int .i64 p), (5, .ptr 2 0 0), (6, .mp 3), (7, .int .i64 (i : Nat)), (8, .ptr 4 0 0), (9, .bool true), (23, .ro (z7 t) 0 t.length), (24, .int .i64 (t.length : Nat)), (25, .int .i64 (i : Nat)), (85, .ro (.ints .i64 nx) 0 nx.length), (86, .int .i64 (nx.length : Nat)), (87, .int .i64 (k : Nat)), (13, .int .i64 (k : Nat)), (14, .int .i64 (x : Nat))] ⟨rfl, rfl, rfl, rfl, rfl, rfl, rfl, rfl, rfl, rfl, rfl, rfl, rfl, rfl, rfl, trivial⟩ (by kernel_rfl) (by decide) rfl rfl ?_
         refine zn rfl rfl (zF rfl) ?_
         refine zn rfl rfl (zAT rfl) ?_
         refine zn rfl rfl (zL rfl rfl rfl rfl rfl rfl) ?_
         refine zn rfl rfl (zI rfl rfl rfl rfl rfl) ?_
         refine zn rfl rfl (zF rfl) ?_
         refine zn rfl rfl (zF rfl) ?_
         refine zn rfl rfl (zL rfl rfl rfl rfl rfl rfl) ?_
         refine zn rfl rfl (zI rfl rfl rfl rfl rfl) ?_
         refine zn rfl rfl (zB3 rfl (.int rfl) rfl rfl rfl rfl (zGm g.first) jj i1 i2) ?_
         refine zn rfl rfl (zF rfl) ?_
         refine zn rfl rfl (zAK rfl rfl (by omega)) ?_
         refine zn rfl rfl (zu rfl rfl rfl rfl rfl (by first | (simp only [Nat.zero_add, Int.toNat_natCast, Int.toNat_zero]; exact rfl) | exact rfl) (by omega)) ?_
         refine zAs ?_
         refine zO (is := [12]) (by kernel_rfl) (by simp) rfl ⟨fun o ho => ?_, trivial⟩
         all_goals (cases ho)
         repeat (first | refine zB ?_ | refine zJ ?_ | refine zAr rfl rfl rfl rfl rfl rfl rfl (by first | assumption | (show _ < List.length _; first | assumption | omega)) ?_)
         refine zAB (by kernel_rfl) ?_
         repeat (first | refine zD (zF rfl) ?_ | refine zB ?_ | refine zA ?_ | refine zC rfl ?_ | refine zZ ?_ | refine zD (zAK rfl rfl (by omega)) ?_)
         exact zd ⟨k + 1, by omega, by omega, ⟨rfl, rfl, rfl, rfl, rfl, rfl, rfl, rfl, rfl, rfl, rfl, rfl, rfl, trivial⟩, by rw [hA2, hst, hvk]; exact congrArg (fun l => zB4 t.length ⟨g.seqs, l, g.first⟩ [some ⟨71, .box [.int .i64 kd, .int .i64 pl, .int .i64 nf, .ro (.ints .i64 nx) 0 nx.length, .ro (.strs od) 0 od.length, .str py]⟩]) (List.set_set ..)⟩
       · have hke : k = nx.length := by omega
         subst hke
         rw [List.take_length]
         repeat (first | refine zZ ?_ | refine zx ?_ | refine zW ?_ | refine zX ?_ | refine zi ?_)
         refine zA ?_
         refine zAy (zB4 t.length ⟨g.seqs, zBI v nx 0 g.pos, g.first⟩ []) [some ⟨71, .box [.int .i64 kd, .int .i64 pl, .int .i64 nf, .ro (.ints .i64 nx) 0 nx.length, .ro (.strs od) 0 od.length, .str py]⟩] [(0, .ro (z7 t) 0 t.length), (1, .int .i64 p), (5, .ptr 2 0 0), (6, .mp 3), (23, .ro (z7 t) 0 t.length), (24, .int .i64 (t.length : Nat)), (25, .int .i64 (i : Nat))] rfl ⟨rfl, rfl, rfl, rfl, rfl, rfl, rfl, trivial⟩ (fun h hh => by rw [hfix] at hh; exact absurd hh id) (zF0 _ _) rfl ?_
         repeat (first | refine zD (zF rfl) ?_ | refine zB ?_ | refine zC rfl ?_ | refine zD (zAK rfl rfl (by omega)) ?_)
         exact zd ⟨i + 1, by omega, by omega, ⟨rfl, rfl, rfl, rfl, rfl, rfl, rfl, trivial⟩, by rw [hnx]⟩
     | none =>
       have hg := hay rfl hL
       refine zD (zD7 rfl (.int rfl) rfl rfl rfl rfl rfl rfl rfl rfl (zGm f.first) (zFX hL)) ?_
       generalize zAd p ⟨kd, pl, nf, nx, od, py⟩ i f = g at *
       obtain ⟨jj, i1, i2⟩ := zCh hs
       simp only at hg
       have hgs : g.seqs.length = f.seqs.length + nx.length := by rw [hg]; simp [zCt]
       have hil : i < f.pos.length := by omega
       repeat (first | refine zD (zF rfl) ?_ | refine zD (zE rfl) ?_ | refine zB ?_ | refine zA ?_ | refine zG ?_ | refine zC rfl ?_ | refine zf rfl ?_ | refine zD (zAw rfl) ?_ | refine zD (zz rfl rfl) ?_)
       refine zAI (by kernel_rfl) ?_
       refine zAR (fuel := 1) [0, 1, 2, 3, 4, 5, 6, 7] [(0, .ro (z7 t) 0 t.length), (1, .int .i64 p), (5, .ptr 2 0 0), (6, .mp 3), (7, .int .i64 (i : Nat)), (8, .ptr 4 0 0), (9, .bool true), (23, .ro (z7 t) 0 t.length), (24, .int .i64 (t.length : Nat)), (25, .int .i64 (i : Nat))] ⟨rfl, rfl, rfl, rfl, rfl, rfl, rfl, rfl, rfl, rfl, trivial⟩ (by kernel_rfl) (by decide) rfl rfl ?_
       refine zn rfl rfl (zF rfl) ?_
       refine zn rfl rfl (zL rfl rfl rfl rfl rfl rfl) ?_
       refine zn rfl rfl (zI rfl rfl rfl rfl rfl) ?_
       refine zn rfl rfl (zF rfl) ?_
       refine zn rfl rfl (zAT rfl) ?_
       refine zn rfl rfl (zL rfl rfl rfl rfl rfl rfl) ?_
       refine zn rfl rfl (zI rfl rfl rfl rfl rfl) ?_
       refine zn rfl rfl (zw rfl rfl rfl) ?_
       refine zAs ?_
       refine zO (is := [8]) (by kernel_rfl) (by simp) rfl ⟨fun o ho => ?_, trivial⟩
       all_goals (cases ho)
       refine zCP rfl (.int rfl) rfl rfl rfl rfl rfl (zGm f.first) (zFX hL) ?_
       repeat (first | refine zB ?_ | refine zJ ?_)
       refine zAB (by kernel_rfl) ?_
       repeat (first | refine zD (zF rfl) ?_ | refine zB ?_ | refine zA ?_ | refine zG ?_ | refine zC rfl ?_ | refine zT ?_ | refine zD (zI rfl rfl rfl rfl rfl) ?_ | refine zD (zw rfl rfl rfl) ?_ | refine zD (zL rfl rfl rfl rfl rfl rfl) ?_)
       refine zAC (ι := Nat) (fun k => [(0, .ro (z7 t) 0 t.length), (1, .int .i64 p), (5, .ptr 2 0 0), (6, .mp 3), (7, .int .i64 (i : Nat)), (8, .ptr 4 0 0), (9, .bool true), (23, .ro (z7 t) 0 t.length), (24, .int .i64 (t.length : Nat)), (25, .int .i64 (i : Nat)), (58, .ro (.ints .i64 nx) 0 nx.length), (59, .int .i64 (nx.length : Nat)), (60, .int .i64 (k : Nat))]) (fun k => zB4 t.length ⟨f.seqs ++ zGX ⟨kd, pl, nf, nx, od, py⟩ (f.pos.getD i 0) k, f.pos, f.first ++ [(nf, f.seqs.length)]⟩ [some ⟨71, .box [.int .i64 kd, .int .i64 pl, .int .i64 nf, .ro (.ints .i64 nx) 0 nx.length, .ro (.strs od) 0 od.length, .str py]⟩])
         (fun k => k ≤ nx.length) (fun k => nx.length - k) 0 ⟨⟨rfl, rfl, rfl, rfl, rfl, rfl, rfl, rfl, rfl, rfl, rfl, rfl, rfl, trivial⟩, (form_new t.length f nf ⟨kd, pl, nf, nx, od, py⟩ (f.pos.getD i 0) [some ⟨71, .box [.int .i64 kd, .int .i64 pl, .int .i64 nf, .ro (.ints .i64 nx) 0 nx.length, .ro (.strs od) 0 od.length, .str py]⟩]).symm, Nat.zero_le _⟩ ?_
       intro k hk
       repeat (first | refine zB ?_ | refine zA ?_ | refine zG ?_ | refine zC rfl ?_ | refine zD (zAQ rfl rfl) ?_)
       refine zK rfl (fun h5 => ?_) (fun h5 => ?_)
       · have hk' : k < nx.length := by omega
         have hks := zL7 ⟨kd, pl, nf, nx, od, py⟩ (f.pos.getD i 0) k
         have hSl : (f.seqs ++ zGX ⟨kd, pl, nf, nx, od, py⟩ (f.pos.getD i 0) k).length ≤ 61 := by rw [List.length_append, newK_len]; omega
         have hS2 : f.seqs ++ zGX ⟨kd, pl, nf, nx, od, py⟩ (f.pos.getD i 0) (k + 1) = (f.seqs ++ zGX ⟨kd, pl, nf, nx, od, py⟩ (f.pos.getD i 0) k) ++ [(⟨nf, (k : Int), f.pos.getD i 0⟩ : RSeq)] := by rw [hks, List.append_assoc]
         generalize hS2' : f.seqs ++ zGX ⟨kd, pl, nf, nx, od, py⟩ (f.pos.getD i 0) (k + 1) = S2 at *
         generalize f.seqs ++ zGX ⟨kd, pl, nf, nx, od, py⟩ (f.pos.getD i 0) k = S at *
         repeat (first | refine zD (zF rfl) ?_ | refine zD (zE rfl) ?_ | refine zB ?_ | refine zA ?_ | refine zG ?_ | refine zC rfl ?_ | refine zT ?_ | refine zP ?_)
         refine zAI (by kernel_rfl) ?_
         apply zCI (H := zB4 t.length ⟨S, f.pos, f.first ++ [(nf, f.seqs.length)]⟩ [some ⟨71, .box [.int .i64 kd, .int .i64 pl, .int .i64 nf, .ro (.ints .i64 nx) 0 nx.length, .ro (.strs od) 0 od.length, .str py]⟩]) [(0, .ro (z7 t) 0 t.length), (1, .int .i64 p), (5, .ptr 2 0 0), (6, .mp 3), (7, .int .i64 (i : Nat)), (8, .ptr 4 0 0), (9, .bool true), (23, .ro (z7 t) 0 t.length), (24, .int .i64 (t.length : Nat)), (25, .int .i64 (i : Nat)), (58, .ro (.ints .i64 nx) 0 nx.length), (59, .int .i64 (nx.length : Nat)), (60, .int .i64 (k : Nat)), (12, .int .i64 (k : Nat)), (63, .ptr 2 0 0), (67, .sl 0 0 S.length), (79, .ro (zD9 1 3 [.int .i64 nf, .int .i64 (k : Nat), .int .i64 (f.pos.getD i 0)]) 0 1)]
         · intro fin2
           refine zc 0 rfl (by kernel_rfl) (by kernel_rfl) (by kernel_rfl) rfl (zF rfl) rfl ?_
           refine zc 1 rfl (by kernel_rfl) (by kernel_rfl) (by kernel_rfl) rfl (zF rfl) rfl ?_
           refine zc 5 rfl (by kernel_rfl) (by kernel_rfl) (by kernel_rfl) rfl (zL rfl rfl rfl rfl rfl rfl) rfl ?_
           refine zc 7 rfl (by kernel_rfl) (by kernel_rfl) (by kernel_rfl) rfl (zF rfl) rfl ?_
           refine zc 8 rfl (by kernel_rfl) (by kernel_rfl) (by kernel_rfl) rfl (zF rfl) rfl ?_
           refine zc 12 rfl (by kernel_rfl) (by kernel_rfl) (by kernel_rfl) rfl (zF rfl) rfl ?_
           refine zc 2 rfl (by kernel_rfl) (by kernel_rfl) (by kernel_rfl) rfl (zAT rfl) rfl ?_
           refine zc 9 rfl (by kernel_rfl) (by kernel_rfl) (by kernel_rfl) rfl (zAT rfl) rfl ?_
           refine zc 3 rfl (by kernel_rfl) (by kernel_rfl) (by kernel_rfl) rfl (zL rfl rfl rfl rfl rfl rfl) rfl ?_
           refine zc 10 rfl (by kernel_rfl) (by kernel_rfl) (by kernel_rfl) rfl (zL rfl rfl rfl rfl rfl rfl) rfl ?_
           refine zO (is := [4, 6, 11]) (by kernel_rfl) (by simp) rfl ⟨fun o ho => ?_, fun o ho => ?_, fun o ho => ?_, trivial⟩
           all_goals (cases ho)
           · repeat (first | refine zB ?_ | refine zJ ?_ | refine zD (zI rfl rfl rfl rfl rfl) ?_)
             refine zO (is := [6, 11]) (by kernel_rfl) (by simp) rfl ⟨fun o ho => ?_, fun o ho => ?_, trivial⟩
             all_goals (cases ho)
             · repeat (first | refine zB ?_ | refine zJ ?_ | refine zD (zI rfl rfl rfl rfl rfl) ?_)
               refine zO (is := [11]) (by kernel_rfl) (by simp) rfl ⟨fun o ho => ?_, trivial⟩
               all_goals (cases ho)
               repeat (first | refine zB ?_ | refine zJ ?_ | refine zD (zI rfl rfl rfl rfl rfl) ?_)
               refine zc 13 rfl (by kernel_rfl) (by kernel_rfl) (by kernel_rfl) rfl (zu rfl rfl rfl rfl rfl (by first | (simp only [Nat.zero_add, Int.toNat_natCast, Int.toNat_zero]; exact rfl) | exact rfl) (by omega)) rfl ?_
               refine zO (is := [14]) (by kernel_rfl) (by simp) rfl ⟨fun o ho => ?_, trivial⟩
               all_goals (cases ho)
               repeat (first | refine zB ?_ | refine zJ ?_ | refine zD (zAP rfl rfl rfl rfl (by first | assumption | omega)) ?_)
               refine zc 15 rfl (by kernel_rfl) (by kernel_rfl) (by kernel_rfl) rfl (zAa rfl rfl rfl rfl rfl rfl) rfl ?_
               refine zO (is := [16]) (by kernel_rfl) (by simp) rfl ⟨fun o ho => ?_, trivial⟩
               all_goals (cases ho)
               repeat (first | refine zB ?_ | refine zJ ?_ | refine zS rfl rfl rfl rfl rfl rfl rfl rfl rfl rfl rfl ?_)
               exact fin2 _ ⟨rfl, rfl, rfl, rfl, rfl, rfl, rfl, rfl, rfl, rfl, rfl, rfl, rfl, rfl, rfl, rfl, rfl, trivial⟩
             · repeat (first | refine zB ?_ | refine zJ ?_ | refine zD (zI rfl rfl rfl rfl rfl) ?_)
               refine zc 13 rfl (by kernel_rfl) (by kernel_rfl) (by kernel_rfl) rfl (zu rfl rfl rfl rfl rfl (by first | (simp only [Nat.zero_add, Int.toNat_natCast, Int.toNat_zero]; exact rfl) | exact rfl) (by omega)) rfl ?_
               refine zO (is := [6, 14]) (by kernel_rfl) (by simp) rfl ⟨fun o ho => ?_, fun o ho => ?_, trivial⟩
               all_goals (cases ho)
               · repeat (first | refine zB ?_ | refine zJ ?_ | refine zD (zI rfl rfl rfl rfl rfl) ?_)
                 refine zO (is := [14]) (by kernel_rfl) (by simp) rfl ⟨fun o ho => ?_, trivial⟩
                 all_goals (cases ho)
                 repeat (first | refine zB ?_ | refine zJ ?_ | refine zD (zAP rfl rfl rfl rfl (by first | assumption | omega)) ?_)
                 refine zc 15 rfl (by kernel_rfl) (by kernel_rfl) (by kernel_rfl) rfl (zAa rfl rfl rfl rfl rfl rfl) rfl ?_
                 refine zO (is := [16]) (by kernel_rfl) (by simp) rfl ⟨fun o ho => ?_, trivial⟩
                 all_goals (cases ho)
                 repeat (first | refine zB ?_ | refine zJ ?_ | refine zS rfl rfl rfl rfl rfl rfl rfl rfl rfl rfl rfl ?_)
                 exact fin2 _ ⟨rfl, rfl, rfl, rfl, rfl, rfl, rfl, rfl, rfl, rfl, rfl, rfl, rfl, rfl, rfl, rfl, rfl, trivial⟩
               · repeat (first | refine zB ?_ | refine zJ ?_ | refine zD (zAP rfl rfl rfl rfl (by first | assumption | omega)) ?_)
                 refine zO (is := [6]) (by kernel_rfl) (by simp) rfl ⟨fun o ho => ?_, trivial⟩
                 all_goals (cases ho)
                 repeat (first | refine zB ?_ | refine zJ ?_ | refine zD (zI rfl rfl rfl rfl rfl) ?_)
                 refine zc 15 rfl (by kernel_rfl) (by kernel_rfl) (by kernel_rfl) rfl (zAa rfl rfl rfl rfl rfl rfl) rfl ?_
                 refine zO (is := [16]) (by kernel_rfl) (by simp) rfl ⟨fun o ho => ?_, trivial⟩
                 all_goals (cases ho)
                 repeat (first | refine zB ?_ | refine zJ ?_ | refine zS rfl rfl rfl rfl rfl rfl rfl rfl rfl rfl rfl ?_)
                 exact fin2 _ ⟨rfl, rfl, rfl, rfl, rfl, rfl, rfl, rfl, rfl, rfl, rfl, rfl, rfl, rfl, rfl, rfl, rfl, trivial⟩
           · repeat (first | refine zB ?_ | refine zJ ?_ | refine zD (zI rfl rfl rfl rfl rfl) ?_)
             refine zO (is := [4, 11]) (by kernel_rfl) (by simp) rfl ⟨fun o ho => ?_, fun o ho => ?_, trivial⟩
             all_goals (cases ho)
             · repeat (first | refine zB ?_ | refine zJ ?_ | refine zD (zI rfl rfl rfl rfl rfl) ?_)
               refine zO (is := [11]) (by kernel_rfl) (by simp) rfl ⟨fun o ho => ?_, trivial⟩
               all_goals (cases ho)
               repeat (first | refine zB ?_ | refine zJ ?_ | refine zD (zI rfl rfl rfl rfl rfl) ?_)
               refine zc 13 rfl (by kernel_rfl) (by kernel_rfl) (by kernel_rfl) rfl (zu rfl rfl rfl rfl rfl (by first | (simp only [Nat.zero_add, Int.toNat_natCast, Int.toNat_zero]; exact rfl) | exact rfl) (by omega)) rfl ?_
               refine zO (is := [14]) (by kernel_rfl) (by simp) rfl ⟨fun o ho => ?_, trivial⟩
               all_goals (cases ho)
               repeat (first | refine zB ?_ | refine zJ ?_ | refine zD (zAP rfl rfl rfl rfl (by first | assumption | omega)) ?_)
               refine zc 15 rfl (by kernel_rfl) (by kernel_rfl) (by kernel_rfl) rfl (zAa rfl rfl rfl rfl rfl rfl) rfl ?_
               refine zO (is := [16]) (by kernel_rfl) (by simp) rfl ⟨fun o ho => ?_, trivial⟩
               all_goals (cases ho)
               repeat (first | refine zB ?_ | refine zJ ?_ | refine zS rfl rfl rfl rfl rfl rfl rfl rfl rfl rfl rfl ?_)
               exact fin2 _ ⟨rfl, rfl, rfl, rfl, rfl, rfl, rfl, rfl, rfl, rfl, rfl, rfl, rfl, rfl, rfl, rfl, rfl, trivial⟩
             · repeat (first | refine zB ?_ | refine zJ ?_ | refine zD (zI rfl rfl rfl rfl rfl) ?_)
               refine zc 13 rfl (by kernel_rfl) (by kernel_rfl) (by kernel_rfl) rfl (zu rfl rfl rfl rfl rfl (by first | (simp only [Nat.zero_add, Int.toNat_natCast, Int.toNat_zero]; exact rfl) | exact rfl) (by omega)) rfl ?_
               refine zO (is := [4, 14]) (by kernel_rfl) (by simp) rfl ⟨fun o ho => ?_, fun o ho => ?_, trivial⟩
               all_goals (cases ho)
               · repeat (first | refine zB ?_ | refine zJ ?_ | refine zD (zI rfl rfl rfl rfl rfl) ?_)
                 refine zO (is := [14]) (by kernel_rfl) (by simp) rfl ⟨fun o ho => ?_, trivial⟩
                 all_goals (cases ho)
                 repeat (first | refine zB ?_ | refine zJ ?_ | refine zD (zAP rfl rfl rfl rfl (by first | assumption | omega)) ?_)
                 refine zc 15 rfl (by kernel_rfl) (by kernel_rfl) (by kernel_rfl) rfl (zAa rfl rfl rfl rfl rfl rfl) rfl ?_
                 refine zO (is := [16]) (by kernel_rfl) (by simp) rfl ⟨fun o ho => ?_, trivial⟩
                 all_goals (cases ho)
                 repeat (first | refine zB ?_ | refine zJ ?_ | refine zS rfl rfl rfl rfl rfl rfl rfl rfl rfl rfl rfl ?_)
                 exact fin2 _ ⟨rfl, rfl, rfl, rfl, rfl, rfl, rfl, rfl, rfl, rfl, rfl, rfl, rfl, rfl, rfl, rfl, rfl, trivial⟩
               · repeat (first | refine zB ?_ | refine zJ ?_ | refine zD (zAP rfl rfl rfl rfl (by first | assumption | omega)) ?_)
                 refine zc 15 rfl (by kernel_rfl) (by kernel_rfl) (by kernel_rfl) rfl (zAa rfl rfl rfl rfl rfl rfl) rfl ?_
                 refine zO (is := [4, 16]) (by kernel_rfl) (by simp) rfl ⟨fun o ho => ?_, fun o ho => ?_, trivial⟩
                 all_goals (cases ho)
                 · repeat (first | refine zB ?_ | refine zJ ?_ | refine zD (zI rfl rfl rfl rfl rfl) ?_)
                   refine zO (is := [16]) (by kernel_rfl) (by simp) rfl ⟨fun o ho => ?_, trivial⟩
                   all_goals (cases ho)
                   repeat (first | refine zB ?_ | refine zJ ?_ | refine zS rfl rfl rfl rfl rfl rfl rfl rfl rfl rfl rfl ?_)
                   exact fin2 _ ⟨rfl, rfl, rfl, rfl, rfl, rfl, rfl, rfl, rfl, rfl, rfl, rfl, rfl, rfl, rfl, rfl, rfl, trivial⟩
                 · repeat (first | refine zB ?_ | refine zJ ?_ | refine zS rfl rfl rfl rfl rfl rfl rfl rfl rfl rfl rfl ?_)
                   refine zO (is := [4]) (by kernel_rfl) (by simp) rfl ⟨fun o ho => ?_, trivial⟩
                   all_goals (cases ho)
                   repeat (first | refine zB ?_ | refine zJ ?_ | refine zD (zI rfl rfl rfl rfl rfl) ?_)
                   exact fin2 _ ⟨rfl, rfl, rfl, rfl, rfl, rfl, rfl, rfl, rfl, rfl, rfl, rfl, rfl, rfl, rfl, rfl, rfl, trivial⟩
           · repeat (first | refine zB ?_ | refine zJ ?_ | refine zD (zI rfl rfl rfl rfl rfl) ?_)
             refine zc 13 rfl (by kernel_rfl) (by kernel_rfl) (by kernel_rfl) rfl (zu rfl rfl rfl rfl rfl (by first | (simp only [Nat.zero_add, Int.toNat_natCast, Int.toNat_zero]; exact rfl) | exact rfl) (by omega)) rfl ?_
             refine zO (is := [4, 6, 14]) (by kernel_rfl) (by simp) rfl ⟨fun o ho => ?_, fun o ho => ?_, fun o ho => ?_, trivial⟩
             all_goals (cases ho)
             · repeat (first | refine zB ?_ | refine zJ ?_ | refine zD (zI rfl rfl rfl rfl rfl) ?_)
               refine zO (is := [6, 14]) (by kernel_rfl) (by simp) rfl ⟨fun o ho => ?_, fun o ho => ?_, trivial⟩
               all_goals (cases ho)
               · repeat (first | refine zB ?_ | refine zJ ?_ | refine zD (zI rfl rfl rfl rfl rfl) ?_)
                 refine zO (is := [14]) (by kernel_rfl) (by simp) rfl ⟨fun o ho => ?_, trivial⟩
                 all_goals (cases ho)
                 repeat (first | refine zB ?_ | refine zJ ?_ | refine zD (zAP rfl rfl rfl rfl (by first | assumption | omega)) ?_)
                 refine zc 15 rfl (by kernel_rfl) (by kernel_rfl) (by kernel_rfl) rfl (zAa rfl rfl rfl rfl rfl rfl) rfl ?_
                 refine zO (is := [16]) (by kernel_rfl) (by simp) rfl ⟨fun o ho => ?_, trivial⟩
                 all_goals (cases ho)
                 repeat (first | refine zB ?_ | refine zJ ?_ | refine zS rfl rfl rfl rfl rfl rfl rfl rfl rfl rfl rfl ?_)
                 exact fin2 _ ⟨rfl, rfl, rfl, rfl, rfl, rfl, rfl, rfl, rfl, rfl, rfl, rfl, rfl, rfl, rfl, rfl, rfl, trivial⟩
               · repeat (first | refine zB ?_ | refine zJ ?_ | refine zD (zAP rfl rfl rfl rfl (by first | assumption | omega)) ?_)
                 refine zO (is := [6]) (by kernel_rfl) (by simp) rfl ⟨fun o ho => ?_, trivial⟩
                 all_goals (cases ho)
                 repeat (first | refine zB ?_ | refine zJ ?_ | refine zD (zI rfl rfl rfl rfl rfl) ?_)
                 refine zc 15 rfl (by kernel_rfl) (by kernel_rfl) (by kernel_rfl) rfl (zAa rfl rfl rfl rfl rfl rfl) rfl ?_
                 refine zO (is := [16]) (by kernel_rfl) (by simp) rfl ⟨fun o ho => ?_, trivial⟩
                 all_goals (cases ho)
                 repeat (first | refine zB ?_ | refine zJ ?_ | refine zS rfl rfl rfl rfl rfl rfl rfl rfl rfl rfl rfl ?_)
                 exact fin2 _ ⟨rfl, rfl, rfl, rfl, rfl, rfl, rfl, rfl, rfl, rfl, rfl, rfl, rfl, rfl, rfl, rfl, rfl, trivial⟩
             · repeat (first | refine zB ?_ | refine zJ ?_ | refine zD (zI rfl rfl rfl rfl rfl) ?_)
               refine zO (is := [4, 14]) (by kernel_rfl) (by simp) rfl ⟨fun o ho => ?_, fun o ho => ?_, trivial⟩
               all_goals (cases ho)
               · repeat (first | refine zB ?_ | refine zJ ?_ | refine zD (zI rfl rfl rfl rfl rfl) ?_)
                 refine zO (is := [14]) (by kernel_rfl) (by simp) rfl ⟨fun o ho => ?_, trivial⟩
                 all_goals (cases ho)
                 repeat (first | refine zB ?_ | refine zJ ?_ | refine zD (zAP rfl rfl rfl rfl (by first | assumption | omega)) ?_)
                 refine zc 15 rfl (by kernel_rfl) (by kernel_rfl) (by kernel_rfl) rfl (zAa rfl rfl rfl rfl rfl rfl) rfl ?_
                 refine zO (is := [16]) (by kernel_rfl) (by simp) rfl ⟨fun o ho => ?_, trivial⟩
                 all_goals (cases ho)
                 repeat (first | refine zB ?_ | refine zJ ?_ | refine zS rfl rfl rfl rfl rfl rfl rfl rfl rfl rfl rfl ?_)
                 exact fin2 _ ⟨rfl, rfl, rfl, rfl, rfl, rfl, rfl, rfl, rfl, rfl, rfl, rfl, rfl, rfl, rfl, rfl, rfl, trivial⟩
               · repeat (first | refine zB ?_ | refine zJ ?_ | refine zD (zAP rfl rfl rfl rfl (by first | assumption | omega)) ?_)
                 refine zc 15 rfl (by kernel_rfl) (by kernel_rfl) (by kernel_rfl) rfl (zAa rfl rfl rfl rfl rfl rfl) rfl ?_
                 refine zO (is := [4, 16]) (by kernel_rfl) (by simp) rfl ⟨fun o ho => ?_, fun o ho => ?_, trivial⟩
                 all_goals (cases ho)
                 · repeat (first | refine zB ?_ | refine zJ ?_ | refine zD (zI rfl rfl rfl rfl rfl) ?_)
                   refine zO (is := [16]) (by kernel_rfl) (by simp) rfl ⟨fun o ho => ?_, trivial⟩
                   all_goals (cases ho)
                   repeat (first | refine zB ?_ | refine zJ ?_ | refine zS rfl rfl rfl rfl rfl rfl rfl rfl rfl rfl rfl ?_)
                   exact fin2 _ ⟨rfl, rfl, rfl, rfl, rfl, rfl, rfl, rfl, rfl, rfl, rfl, rfl, rfl, rfl, rfl, rfl, rfl, trivial⟩
                 · repeat (first | refine zB ?_ | refine zJ ?_ | refine zS rfl rfl rfl rfl rfl rfl rfl rfl rfl rfl rfl ?_)
                   refine zO (is := [4]) (by kernel_rfl) (by simp) rfl ⟨fun o ho => ?_, trivial⟩
                   all_goals (cases ho)
                   repeat (first | refine zB ?_ | refine zJ ?_ | refine zD (zI rfl rfl rfl rfl rfl) ?_)
                   exact fin2 _ ⟨rfl, rfl, rfl, rfl, rfl, rfl, rfl, rfl, rfl, rfl, rfl, rfl, rfl, rfl, rfl, rfl, rfl, trivial⟩
             · repeat (first | refine zB ?_ | refine zJ ?_ | refine zD (zAP rfl rfl rfl rfl (by first | assumption | omega)) ?_)
               refine zO (is := [4, 6]) (by kernel_rfl) (by simp) rfl ⟨fun o ho => ?_, fun o ho => ?_, trivial⟩
               all_goals (cases ho)
               · repeat (first | refine zB ?_ | refine zJ ?_ | refine zD (zI rfl rfl rfl rfl rfl) ?_)
                 refine zO (is := [6]) (by kernel_rfl) (by simp) rfl ⟨fun o ho => ?_, trivial⟩
                 all_goals (cases ho)
                 repeat (first | refine zB ?_ | refine zJ ?_ | refine zD (zI rfl rfl rfl rfl rfl) ?_)
                 refine zc 15 rfl (by kernel_rfl) (by kernel_rfl) (by kernel_rfl) rfl (zAa rfl rfl rfl rfl rfl rfl) rfl ?_
                 refine zO (is := [16]) (by kernel_rfl) (by simp) rfl ⟨fun o ho => ?_, trivial⟩
                 all_goals (cases ho)
                 repeat (first | refine zB ?_ | refine zJ ?_ | refine zS rfl rfl rfl rfl rfl rfl rfl rfl rfl rfl rfl ?_)
                 exact fin2 _ ⟨rfl, rfl, rfl, rfl, rfl, rfl, rfl, rfl, rfl, rfl, rfl, rfl, rfl, rfl, rfl, rfl, rfl, trivial⟩
               · repeat (first | refine zB ?_ | refine zJ ?_ | refine zD (zI rfl rfl rfl rfl rfl) ?_)
                 refine zc 15 rfl (by kernel_rfl) (by kernel_rfl) (by kernel_rfl) rfl (zAa rfl rfl rfl rfl rfl rfl) rfl ?_
                 refine zO (is := [4, 16]) (by kernel_rfl) (by simp) rfl ⟨fun o ho => ?_, fun o ho => ?_, trivial⟩
                 all_goals (cases ho)
                 · repeat (first | refine zB ?_ | refine zJ ?_ | refine zD (zI rfl rfl rfl rfl rfl) ?_)
                   refine zO (is := [16]) (by kernel_rfl) (by simp) rfl ⟨fun o ho => ?_, trivial⟩
                   all_goals (cases ho)
                   repeat (first | refine zB ?_ | refine zJ ?_ | refine zS rfl rfl rfl rfl rfl rfl rfl rfl rfl rfl rfl ?_)
                   exact fin2 _ ⟨rfl, rfl, rfl, rfl, rfl, rfl, rfl, rfl, rfl, rfl, rfl, rfl, rfl, rfl, rfl, rfl, rfl, trivial⟩
                 · repeat (first | refine zB ?_ | refine zJ ?_ | refine zS rfl rfl rfl rfl rfl rfl rfl rfl rfl rfl rfl ?_)
                   refine zO (is := [4]) (by kernel_rfl) (by simp) rfl ⟨fun o ho => ?_, trivial⟩
                   all_goals (cases ho)
                   repeat (first | refine zB ?_ | refine zJ ?_ | refine zD (zI rfl rfl rfl rfl rfl) ?_)
                   exact fin2 _ ⟨rfl, rfl, rfl, rfl, rfl, rfl, rfl, rfl, rfl, rfl, rfl, rfl, rfl, rfl, rfl, rfl, rfl, trivial⟩
         · refine zO (is := [17]) (by kernel_rfl) (by simp) rfl ⟨fun o ho => ?_, trivial⟩
           all_goals (cases ho)
           refine zAE rfl rfl rfl rfl rfl rfl rfl rfl rfl rfl rfl rfl (by show 0 + 1 ≤ 1; omega) rfl (by show (S.length + 1) * 24 ≤ _ ∧ _; omega) ?_ (by rw [hfix]; exact fun h => h) ?_
           · intro i' j' hi' hj'
             exact zEZ zAn 3 zCe zJR S ⟨nf, (k : Int), f.pos.getD i 0⟩ _ (rowS3 ⟨nf, (k : Int), f.pos.getD i 0⟩) 0 i' j' hi' hj'
           refine zA5 [some ⟨80, zBG (S ++ [(⟨nf, (k : Int), f.pos.getD i 0⟩ : RSeq)])⟩, some ⟨3, .ints .i64 f.pos⟩, some ⟨166, .box [.any, .sl 1 0 t.length]⟩, some ⟨184, zFe (f.first ++ [(nf, f.seqs.length)])⟩, some ⟨71, .box [.int .i64 kd, .int .i64 pl, .int .i64 nf, .ro (.ints .i64 nx) 0 nx.length, .ro (.strs od) 0 od.length, .str py]⟩] (zAk.eqv (zDL zAn 3 zCe S ⟨nf, (k : Int), f.pos.getD i 0⟩ _ (rowS3 ⟨nf, (k : Int), f.pos.getD i 0⟩)) (zAk.eqv (CEq.refl _) (zAk.eqv (CEq.refl _) (zAk.eqv (zLF _ _) (zAk.eqv (CEq.refl _) zAk.nil))))) ?_
           repeat (first | refine zB ?_ | refine zJ ?_)
           refine zc 18 rfl (by kernel_rfl) (by kernel_rfl) (by kernel_rfl) rfl (zAT rfl) rfl ?_
           refine zc 19 rfl (by kernel_rfl) (by kernel_rfl) (by kernel_rfl) rfl (zL rfl rfl rfl rfl rfl rfl) rfl ?_
           refine zO (is := [20]) (by kernel_rfl) (by simp) rfl ⟨fun o ho => ?_, trivial⟩
           all_goals (cases ho)
           repeat (first | refine zB ?_ | refine zJ ?_ | refine zAr rfl rfl rfl rfl rfl rfl rfl Nat.zero_lt_one ?_)
           refine zFL (zB4 t.length ⟨S ++ [(⟨nf, (k : Int), f.pos.getD i 0⟩ : RSeq)], f.pos, f.first ++ [(nf, f.seqs.length)]⟩ [some ⟨71, .box [.int .i64 kd, .int .i64 pl, .int .i64 nf, .ro (.ints .i64 nx) 0 nx.length, .ro (.strs od) 0 od.length, .str py]⟩]) (zAk.eqv (CEq.refl _) (zAk.eqv (CEq.refl _) (zAk.eqv (by show CEq (formB (S.length + 1) t.length) (formB (S ++ [(⟨nf, (k : Int), f.pos.getD i 0⟩ : RSeq)]).length t.length); rw [List.length_append]; exact CEq.refl _) (zAk.refl _)))) ?_
           refine zAB (by kernel_rfl) ?_
           repeat (first | refine zD (zF rfl) ?_ | refine zB ?_ | refine zA ?_ | refine zC rfl ?_ | refine zZ ?_ | refine zD (zAK rfl rfl (by omega)) ?_)
           exact zd ⟨k + 1, by omega, by omega, ⟨rfl, rfl, rfl, rfl, rfl, rfl, rfl, rfl, rfl, rfl, rfl, rfl, rfl, trivial⟩, by rw [hS2', hS2]⟩
       · have hke : k = nx.length := by omega
         subst hke
         repeat (first | refine zD (zF rfl) ?_ | refine zB ?_ | refine zA ?_ | refine zG ?_ | refine zC rfl ?_ | refine zT ?_ | refine zx ?_ | refine zW ?_ | refine zX ?_ | refine zi ?_ | refine zD (zI rfl rfl rfl rfl rfl) ?_ | refine zD (zw rfl rfl rfl) ?_ | refine zD (zL rfl rfl rfl rfl rfl rfl) ?_)
         refine zCo (zB4 t.length g [some ⟨71, .box [.int .i64 kd, .int .i64 pl, .int .i64 nf, .ro (.ints .i64 nx) 0 nx.length, .ro (.strs od) 0 od.length, .str py]⟩]) (by rw [hg]; rfl) ?_
         refine zAC (ι := Nat) (fun k => [(0, .ro (z7 t) 0 t.length), (1, .int .i64 p), (5, .ptr 2 0 0), (6, .mp 3), (7, .int .i64 (i : Nat)), (8, .ptr 4 0 0), (9, .bool true), (23, .ro (z7 t) 0 t.length), (24, .int .i64 (t.length : Nat)), (25, .int .i64 (i : Nat)), (85, .ro (.ints .i64 nx) 0 nx.length), (86, .int .i64 (nx.length : Nat)), (87, .int .i64 (k : Nat))]) (fun k => zB4 t.length ⟨g.seqs, zBI v (nx.take k) 0 g.pos, g.first⟩ [some ⟨71, .box [.int .i64 kd, .int .i64 pl, .int .i64 nf, .ro (.ints .i64 nx) 0 nx.length, .ro (.strs od) 0 od.length, .str py]⟩])
           (fun k => k ≤ nx.length) (fun k => nx.length - k) 0 ⟨⟨rfl, rfl, rfl, rfl, rfl, rfl, rfl, rfl, rfl, rfl, rfl, rfl, rfl, trivial⟩, rfl, Nat.zero_le _⟩ ?_
         intro k hk
         repeat (first | refine zB ?_ | refine zA ?_ | refine zG ?_ | refine zC rfl ?_ | refine zD (zAQ rfl rfl) ?_)
         refine zK rfl (fun h5 => ?_) (fun h5 => ?_)
         · have hk' : k < nx.length := by omega
           obtain ⟨b1, b2⟩ := hbh _ (zBp 0 hk')
           have hAl : (zBI v (nx.take k) 0 g.pos).length = t.length := by rw [zEI]; exact hgl
           have hAi : (zBI v (nx.take k) 0 g.pos).getD i 0 = g.pos.getD i 0 := zDi v 0 _ _ _ (fun c hc => by have := hbh c (List.mem_of_mem_take hc); omega)
           have hst : zBI v (nx.take (k + 1)) 0 g.pos = (zBI v (nx.take k) 0 g.pos).set (nx.getD k 0).toNat (v k) := by
             rw [zDZ hk', zEK, List.length_take, Nat.min_eq_left hk, Nat.zero_add]
           have hvk := hvv k
           generalize hA2 : zBI v (nx.take (k + 1)) 0 g.pos = A2 at *
           generalize zBI v (nx.take k) 0 g.pos = A at *
           obtain ⟨x, hx⟩ := Int.eq_ofNat_of_zero_le (show 0 ≤ nx.getD k 0 by omega)
           have hxn : (nx.getD k 0).toNat = x := by rw [hx, Int.toNat_natCast]
           rw [hx] at b1 b2
           rw [hxn] at hst
           have hxl : x < A.length := by omega
           have hil : i < A.length := by omega
           have hxl2 : x < (A.set x (A.getD i 0)).length := by rw [List.length_set]; exact hxl
           repeat (first | refine zD (zF rfl) ?_ | refine zD (zE rfl) ?_ | refine zD (z6 rfl rfl rfl) ?_ | refine zB ?_ | refine zA ?_ | refine zG ?_ | refine zC rfl ?_ | refine zT ?_ | refine zP ?_ | refine zD (zY rfl rfl rfl rfl (by first | (simp only [Nat.zero_add, Int.toNat_natCast, Int.toNat_zero]; exact rfl) | exact rfl) (by omega)) ?_)
           refine zAv 14 (.int .i64 (x : Nat)) rfl (AEq.of_eq (by rw [hx])) ?_
           refine zAI (by kernel_rfl) ?_
           refine zAR (fuel := 1) [0, 1, 2, 3, 4, 5, 6, 7, 8, 9, 10, 11, 12] [(0, .ro (z7 t) 0 t.length), (1, .int .i64 p), (5, .ptr 2 0 0), (6, .mp 3), (7, .int .i64 (i : Nat)), (8, .ptr 4 0 0), (9, .bool true), (23, .ro (z7 t) 0 t.length), (24, .int .i64 (t.length : Nat)), (25, .int .i64 (i : Nat)), (85, .ro (.ints .i64 nx) 0 nx.length), (86, .int .i64 (nx.length : Nat)), (87, .int .i64 (k : Nat)), (13, .int .i64 (k : Nat)), (14, .int .i64 (x : Nat))] ⟨rfl, rfl, rfl, rfl, rfl, rfl, rfl, rfl, rfl, rfl, rfl, rfl, rfl, rfl, rfl, trivial⟩ (by kernel_rfl) (by decide) rfl rfl ?_
           refine zn rfl rfl (zF rfl) ?_
           refine zn rfl rfl (zAT rfl) ?_
           refine zn rfl rfl (zL rfl rfl rfl rfl rfl rfl) ?_
           refine zn rfl rfl (zI rfl rfl rfl rfl rfl) ?_
           refine zn rfl rfl (zF rfl) ?_
           refine zn rfl rfl (zF rfl) ?_
           refine zn rfl rfl (zAT rfl) ?_
           refine zn rfl rfl (zL rfl rfl rfl rfl rfl rfl) ?_
           refine zn rfl rfl (zI rfl rfl rfl rfl rfl) ?_
           refine zn rfl rfl (zF rfl) ?_
           refine zn rfl rfl (zu rfl rfl rfl rfl rfl (by first | (simp only [Nat.zero_add, Int.toNat_natCast, Int.toNat_zero]; exact rfl) | exact rfl) (by omega)) ?_
           refine zn rfl rfl (zAP rfl rfl rfl rfl (by first | assumption | omega)) ?_
           refine zn rfl rfl (zu rfl rfl rfl rfl rfl (by first | (simp only [Nat.zero_add, Int.toNat_natCast, Int.toNat_zero]; exact rfl) | exact rfl) (by omega)) ?_
           refine zAs ?_
           refine zO (is := [13]) (by kernel_rfl) (by simp) rfl ⟨fun o ho => ?_, trivial⟩
           all_goals (cases ho)
           repeat (first | refine zB ?_ | refine zJ ?_ | refine zAr rfl rfl rfl rfl rfl rfl rfl (by first | assumption | (show _ < List.length _; first | assumption | omega)) ?_)
           refine zFL (zB4 t.length ⟨g.seqs, A.set x (A.getD i 0), g.first⟩ [some ⟨71, .box [.int .i64 kd, .int .i64 pl, .int .i64 nf, .ro (.ints .i64 nx) 0 nx.length, .ro (.strs od) 0 od.length, .str py]⟩]) (zAk.refl _) ?_
           refine zAB (by kernel_rfl) ?_
           repeat (first | refine zD (zF rfl) ?_ | refine zB ?_ | refine zA ?_ | refine zG ?_ | refine zC rfl ?_ | refine zf rfl ?_)
           refine zAI (by kernel_rfl) ?_
           refine zAR (fuel := 1) [0, 1, 2, 3, 4, 5, 6, 7, 8, 9, 10, 11] [(0, .ro (z7 t) 0 t.length), (1, .int .i64 p), (5, .ptr 2 0 0), (6, .mp 3), (7, .int .i64 (i : Nat)), (8, .ptr 4 0 0), (9, .bool true), (23, .ro (z7 t) 0 t.length), (24, .int .i64 (t.length : Nat)), (25, .int .i64 (i : Nat)), (85, .ro (.ints .i64 nx) 0 nx.length), (86, .int .i64 (nx.length : Nat)), (87, .int .i64 (k : Nat)), (13, .int .i64 (k : Nat)), (14, .int .i64 (x : Nat))] ⟨rfl, rfl, rfl, rfl, rfl, rfl, rfl, rfl, rfl, rfl, rfl, rfl, rfl, rfl, rfl, trivial⟩ (by kernel_rfl) (by decide) rfl rfl ?_
           refine zn rfl rfl (zF rfl) ?_
           refine zn rfl rfl (zAT rfl) ?_
           refine zn rfl rfl (zL rfl rfl rfl rfl rfl rfl) ?_
           refine zn rfl rfl (zI rfl rfl rfl rfl rfl) ?_
           refine zn rfl rfl (zF rfl) ?_
           refine zn rfl rfl (zF rfl) ?_
           refine zn rfl rfl (zL rfl rfl rfl rfl rfl rfl) ?_
           refine zn rfl rfl (zI rfl rfl rfl rfl rfl) ?_
           refine zn rfl rfl (zB3 rfl (.int rfl) rfl rfl rfl rfl (zGm g.first) jj i1 i2) ?_
           refine zn rfl rfl (zF rfl) ?_
           refine zn rfl rfl (zAK rfl rfl (by omega)) ?_
           refine zn rfl rfl (zu rfl rfl rfl rfl rfl (by first | (simp only [Nat.zero_add, Int.toNat_natCast, Int.toNat_zero]; exact rfl) | exact rfl) (by omega)) ?_
           refine zAs ?_
           refine zO (is := [12]) (by kernel_rfl) (by simp) rfl ⟨fun o ho => ?_, trivial⟩
           all_goals (cases ho)
           repeat (first | refine zB ?_ | refine zJ ?_ | refine zAr rfl rfl rfl rfl rfl rfl rfl (by first | assumption | (show _ < List.length _; first | assumption | omega)) ?_)
           refine zAB (by kernel_rfl) ?_
           repeat (first | refine zD (zF rfl) ?_ | refine zB ?_ | refine zA ?_ | refine zC rfl ?_ | refine zZ ?_ | refine zD (zAK rfl rfl (by omega)) ?_)
           exact zd ⟨k + 1, by omega, by omega, ⟨rfl, rfl, rfl, rfl, rfl, rfl, rfl, rfl, rfl, rfl, rfl, rfl, rfl, trivial⟩, by rw [hA2, hst, hvk]; exact congrArg (fun l => zB4 t.length ⟨g.seqs, l, g.first⟩ [some ⟨71, .box [.int .i64 kd, .int .i64 pl, .int .i64 nf, .ro (.ints .i64 nx) 0 nx.length, .ro (.strs od) 0 od.length, .str py]⟩]) (List.set_set ..)⟩
         · have hke : k = nx.length := by omega
           subst hke
           rw [List.take_length]
           repeat (first | refine zZ ?_ | refine zx ?_ | refine zW ?_ | refine zX ?_ | refine zi ?_)
           refine zA ?_
           refine zAy (zB4 t.length ⟨g.seqs, zBI v nx 0 g.pos, g.first⟩ []) [some ⟨71, .box [.int .i64 kd, .int .i64 pl, .int .i64 nf, .ro (.ints .i64 nx) 0 nx.length, .ro (.strs od) 0 od.length, .str py]⟩] [(0, .ro (z7 t) 0 t.length), (1, .int .i64 p), (5, .ptr 2 0 0), (6, .mp 3), (23, .ro (z7 t) 0 t.length), (24, .int .i64 (t.length : Nat)), (25, .int .i64 (i : Nat))] rfl ⟨rfl, rfl, rfl, rfl, rfl, rfl, rfl, trivial⟩ (fun h hh => by rw [hfix] at hh; exact absurd hh id) (zF0 _ _) rfl ?_
           repeat (first | refine zD (zF rfl) ?_ | refine zB ?_ | refine zC rfl ?_ | refine zD (zAK rfl rfl (by omega)) ?_)
           exact zd ⟨i + 1, by omega, by omega, ⟨rfl, rfl, rfl, rfl, rfl, rfl, rfl, trivial⟩, by rw [hnx]⟩
 · have hie : i = t.length := by omega
   subst hie
   repeat (first | refine zD (zF rfl) ?_ | refine zD (zE rfl) ?_ | refine zB ?_ | refine zA ?_ | refine zG ?_ | refine zC rfl ?_ | refine zx ?_ | refine zW ?_ | refine zX ?_ | refine zi ?_ | refine zH ?_)
   exact zR hR rfl ⟨rfl, rfl⟩
end Go.Proofs.YtgmleamhjnlknaaGreatDoor
namespace Go.Ax.Rt
open Go.Ax.Bg Go.Ax.Idx
structure TChoice where
 info : Int
 odds : List zAZ
 deriving DecidableEq
def ch0 : TChoice := ⟨0, []⟩
abbrev zBf := List TChoice
def zEa (I Z : List Int) : Nat → zBf → Int
 | _, [] => 0
 | k, c :: r => if c.info ≠ I.getD k 0 ∨ ((c.odds.length : Nat) : Int) ≠ Z.getD k 0 then 3 else if zDv c.odds ≠ 0 then zDv c.odds else zEa I Z (k + 1) r
/-- recall.Strategy -/
def zEr (t : zAD) (p : Int) (s : zBf) : Int := if s.length ≠ (zAe t p).length then 3 else zEa (zAe t p) (zDG t p) 0 s
theorem zKP {I Z : List Int} {s : zBf} {k : Nat} (hk : k < s.length) : zEa I Z k (s.drop k) = if (s.getD k ch0).info ≠ I.getD k 0 ∨ (((s.getD k ch0).odds.length : Nat) : Int) ≠ Z.getD k 0 then 3 else if zDv (s.getD k ch0).odds ≠ 0 then zDv (s.getD k ch0).odds else zEa I Z (k + 1) (s.drop (k + 1)) := by
 rw [List.drop_eq_getElem_cons hk, ← zBW ch0 hk, zEa]
theorem zG0 {I Z : List Int} : ∀ {s : zBf} {k : Nat}, zEa I Z k s = 0 → ∀ j, j < s.length → (s.getD j ch0).info = I.getD (k + j) 0 ∧ (((s.getD j ch0).odds.length : Nat) : Int) = Z.getD (k + j) 0 ∧ zDv (s.getD j ch0).odds = 0
 | [], k, h, j, hj => absurd hj (Nat.not_lt_zero _)
 | c :: r, k, h, j, hj => by
   rw [zEa] at h
   split at h
   · cases h
   rename_i h1
   simp only [not_or, Classical.not_not] at h1
   split at h
   · rename_i h2; exact absurd h h2
   rename_i h2
   cases j with
   | zero => exact ⟨h1.1, h1.2, Classical.not_not.1 h2⟩
   | succ j =>
     have := zG0 h j (by simpa using hj)
     rw [show k + (j + 1) = k + 1 + j by omega]
     exact this
structure OkS (t : zAD) (p : Int) (s : zBf) : Prop where
 infos : s.map TChoice.info = zAe t p
 wid : ∀ j, j < s.length → (s.getD j ch0).odds.length = zAA t p (s.getD j ch0).info
 odds : ∀ c ∈ s, zDv c.odds = 0
theorem zHT {t : zAD} {p : Int} {s : zBf} (h : zEr t p s = 0) : OkS t p s := by
 unfold zEr at h
 split at h
 · cases h
 rename_i h1
 have h1 := Classical.not_not.1 h1
 have h2 := zG0 h
 have e1 : ∀ j, j < s.length → (s.getD j ch0).info = (zAe t p).getD j 0 := fun j hj => by
   have := (h2 j hj).1; rwa [Nat.zero_add] at this
 refine ⟨?_, fun j hj => ?_, fun c hc => ?_⟩
 · apply List.ext_getElem (by rw [List.length_map]; exact h1)
   intro j hj1 hj2
   have hj : j < s.length := by simpa using hj1
   have := e1 j hj
   rw [zBW ch0 hj, zBW 0 hj2] at this
   rw [List.getElem_map]; exact this
 · have := (h2 j hj).2.1
   rw [Nat.zero_add] at this
   have hj2 : j < (zAe t p).length := by omega
   unfold zDG at this
   rw [zHc _ _ 0 _ _ hj2, ← e1 j hj] at this
   omega
 · obtain ⟨j, hj, rfl⟩ := List.getElem_of_mem hc
   have := (h2 j hj).2.2
   rwa [zBW ch0 hj] at this
theorem zJt : ∀ (qs : List Rat) (acc : Rat), (zHR acc qs).2 = 0 → (zHR acc qs).1 = zFf acc qs
 | [], acc, _ => rfl
 | q :: r, acc, h => by
   rw [zHR] at h ⊢
   rw [zFf]
   split at h
   · rename_i hf
     rw [if_pos hf]
     exact zJt r _ h
   · cases h
theorem zEP {l : List zAZ} (h : zDv l = 0) : l.length ≤ 256 ∧ (∀ s ∈ l, zCW s = 0) ∧ zFf 0 (l.map zAi) = 1 ∧ ∀ q ∈ l.map zAi, 0 ≤ q ∧ D 2000 q := by
 unfold zDv at h
 split at h
 case isFalse h1 => exact absurd h h1
 rename_i h1
 split at h
 case isFalse => cases h
 rename_i h2
 unfold posE at h1
 split at h1
 · cases h1
 rename_i h3
 have h4 : l.any zCL = false := by
   cases hb : l.any zCL
   · rfl
   · exact absurd ⟨h1, hb⟩ h3
 unfold zD2 at h1 h2
 split at h1
 · cases h1
 rename_i h5
 split at h1
 case isFalse h6 => exact absurd h1 h6
 rename_i h6
 rw [if_neg h5, if_pos h6] at h2
 have h7 := zCX h6
 refine ⟨by omega, h7, ?_, fun q hq => ?_⟩
 · have := zJt _ _ h1
   rw [this] at h2
   unfold cmpQ at h2
   split at h2
   · cases h2
   · split at h2
     · rename_i e; exact e
     · cases h2
 · obtain ⟨s, hs, rfl⟩ := List.mem_map.1 hq
   have hn := (zMZ (h7 s hs)).1 (by rw [List.any_eq_false] at h4; simpa using h4 s hs)
   refine ⟨hn, ?_⟩
   have hf := (IsQ.self (h7 s hs)).fit
   unfold zBd at hf
   rw [Bool.and_eq_true, decide_eq_true_eq, decide_eq_true_eq] at hf
   exact dig_D hf.1 hf.2
/-- the probabilities by information sets -/
def zBY (s : zBf) (x : Int) : List Rat := ((s.find? (fun c => decide (c.info = x))).map (fun c => c.odds.map zAi)).getD []
theorem oddsQ_at {s : zBf} (hn : (s.map TChoice.info).Nodup) {c : TChoice} (hc : c ∈ s) : zBY s c.info = c.odds.map zAi := by
 unfold zBY
 induction s with
 | nil => simp at hc
 | cons a r ih =>
   rw [List.map_cons, List.nodup_cons] at hn
   rw [List.find?_cons]
   rcases List.mem_cons.1 hc with e | q
   · subst e; simp
   · have : ¬ a.info = c.info := fun e => hn.1 (List.mem_map.2 ⟨c, q, e.symm⟩)
     rw [decide_eq_false this]
     exact ih hn.2 q
theorem OkS.at' {t : zAD} {p : Int} {s : zBf} (h : OkS t p s) {x : Int} (hx : x ∈ zAe t p) : ∃ c ∈ s, c.info = x ∧ zBY s x = c.odds.map zAi ∧ c.odds.length = zAA t p x ∧ zDv c.odds = 0 := by
 have hn : (s.map TChoice.info).Nodup := by rw [h.infos]; exact zFD t p
 rw [← h.infos] at hx
 obtain ⟨c, hc, rfl⟩ := List.mem_map.1 hx
 obtain ⟨j, hj, e⟩ := List.getElem_of_mem hc
 have hw := h.wid j hj
 rw [zBW ch0 hj, e] at hw
 exact ⟨c, hc, rfl, oddsQ_at hn hc, hw, h.odds c hc⟩
theorem OkS.strat {t : zAD} {p : Int} {s : zBf} (h : OkS t p s) : Strat t p (zBY s) 2000 := by
 refine ⟨fun x hx => ?_, fun x hx => ?_, fun x hx => ?_, fun x hx => ?_⟩ <;> obtain ⟨c, c1, c2, c3, c4, c5⟩ := h.at' hx <;> obtain ⟨o1, o2, o3, o4⟩ := zEP c5 <;> rw [c3]
 · rw [List.length_map]; exact c4
 · exact o3
 · exact fun q hq => (o4 q hq).1
 · exact fun q hq => (o4 q hq).2
/-- with short texts -/
theorem OkS.strat12 {t : zAD} {p : Int} {s : zBf} (h : OkS t p s) (hs : ∀ c ∈ s, ∀ r ∈ c.odds, r.length ≤ 12) : Strat t p (zBY s) 12 := by
 have g := h.strat
 refine ⟨g.len, g.sum, g.nn, fun x hx q hq => ?_⟩
 obtain ⟨c, c1, c2, c3, c4, c5⟩ := h.at' hx
 obtain ⟨o1, o2, o3, o4⟩ := zEP c5
 rw [c3] at hq
 obtain ⟨s', hs', rfl⟩ := List.mem_map.1 hq
 exact (IsQ.self (o2 s' hs')).dig (hs c c1 s' hs') (by decide)
/-- recall.Plan -/
def zEN (t : zAD) (p : Int) : Int := if zCC t p ≠ 0 then zCC t p else if zGT t p = true then 0 else 10
def zEl (t : zAD) (p : Int) (s : zBf) : List zAZ × Int := if zEN t p ≠ 0 then ([], zEN t p) else if zEr t p s ≠ 0 then ([], zEr t p s) else zAq (zBL t p (zBY s))
def zHP (t : zAD) (p : Int) : List RSeq × Int := if zEN t p ≠ 0 then ([], zEN t p) else (zt t p, 0)
end Go.Ax.Rt
namespace Go.Proofs.YtgmleamhjnlknaaGreatDoor
open Go.Ax Go.Ax.Bg Go.Ax.Rt Go.RowKit Go.Ax.Idx Go.Ax.Cd
attribute [local irreducible] Ax zAV QOp zV zAJ
set_option maxRecDepth 100000
set_option maxHeartbeats 4000000
theorem zEX {t : zAD} {p : Int} (h : zCC t p = 0) : Valid t := by
 unfold zCC at h
 split at h
 · rename_i h1; exact absurd h h1
 · rename_i h1; exact valid_of (Classical.not_not.1 h1)
theorem zEi {t : zAD} {p : Int} (h : zEN t p = 0) : Valid t ∧ zGT t p = true ∧ zCC t p = 0 := by
 unfold zEN at h
 split at h
 · rename_i h1; exact absurd h h1
 rename_i h1
 have h2 := Classical.not_not.1 h1
 split at h
 · rename_i h3; exact ⟨zEX h2, h3, h2⟩
 · cases h
theorem zK4 (t : zAD) (p : Int) (hT : ShortT t) : zk Tryz.prog 114 [.ro (z7 t) 0 t.length, .int .i64 p] (.int .i64 (zEN t p)) := by
 have cp := zIJ t p hT
 refine zV.value0 (zN (P := Tryz.prog) (fn := Tryz.f114) rfl rfl (by kernel_rfl) rfl (fun c hR hfix => ?_)) (fix := fun _ => False) (fun _ h => h) rfl rfl
 unfold zEN at hR
 repeat (first | refine zD (zF rfl) ?_ | refine zD (zE rfl) ?_ | refine zB ?_ | refine zA ?_ | refine zG ?_ | refine zC rfl ?_)
 refine zM rfl rfl rfl cp ?_
 repeat (first | refine zD (zF rfl) ?_ | refine zD (zE rfl) ?_ | refine zB ?_ | refine zA ?_ | refine zG ?_ | refine zC rfl ?_ | refine zD (zAb rfl rfl) ?_)
 refine zK rfl (fun h1 => ?_) (fun h1 => ?_)
 · rw [if_pos h1] at hR
   repeat (first | refine zD (zF rfl) ?_ | refine zD (zE rfl) ?_ | refine zB ?_ | refine zA ?_ | refine zG ?_ | refine zC rfl ?_ | refine zH ?_ | refine zQ ?_)
   exact zR hR rfl rfl
 rw [if_neg h1] at hR
 have ci := zIN t p hT (zEX (Classical.not_not.1 h1))
 generalize zGT t p = b at *
 repeat (first | refine zD (zF rfl) ?_ | refine zA ?_ | refine zG ?_ | refine zC rfl ?_ | refine zP ?_)
 refine zM rfl rfl rfl ci ?_
 cases b
 · rw [if_neg (by decide)] at hR
   repeat (first | refine zD (zE rfl) ?_ | refine zB ?_ | refine zA ?_ | refine zG ?_ | refine zC rfl ?_ | refine zf rfl ?_ | refine zH ?_ | refine zQ ?_ | refine zD (zAw rfl) ?_)
   exact zR hR rfl rfl
 · rw [if_pos rfl] at hR
   repeat (first | refine zD (zE rfl) ?_ | refine zB ?_ | refine zA ?_ | refine zG ?_ | refine zC rfl ?_ | refine ze rfl ?_ | refine zP ?_ | refine zH ?_ | refine zD (zAw rfl) ?_)
   exact zR hR rfl rfl
def zJj (t : zAD) (p : Int) : Bool × Int := if zCC t p ≠ 0 then (false, zCC t p) else (zGT t p, 0)
theorem zKo (t : zAD) (p : Int) (hT : ShortT t) : zk Tryz.prog 44 [.ro (z7 t) 0 t.length, .int .i64 p] (.tup [.bool (zJj t p).1, .int .i64 (zJj t p).2]) := by
 have cp := zIJ t p hT
 refine zV.value0 (zN (P := Tryz.prog) (fn := Tryz.f44) rfl rfl (by kernel_rfl) rfl (fun c hR hfix => ?_)) (fix := fun _ => False) (fun _ h => h) rfl rfl
 unfold zJj at hR
 repeat (first | refine zD (zF rfl) ?_ | refine zD (zE rfl) ?_ | refine zB ?_ | refine zA ?_ | refine zG ?_ | refine zC rfl ?_)
 refine zM rfl rfl rfl cp ?_
 repeat (first | refine zD (zF rfl) ?_ | refine zD (zE rfl) ?_ | refine zB ?_ | refine zA ?_ | refine zG ?_ | refine zC rfl ?_ | refine zD (zAb rfl rfl) ?_)
 refine zK rfl (fun h1 => ?_) (fun h1 => ?_)
 · rw [if_pos h1] at hR
   repeat (first | refine zD (zF rfl) ?_ | refine zD (zE rfl) ?_ | refine zB ?_ | refine zA ?_ | refine zG ?_ | refine zC rfl ?_ | refine zH ?_ | refine zQ ?_)
   exact zR hR rfl rfl
 rw [if_neg h1] at hR
 have ci := zIN t p hT (zEX (Classical.not_not.1 h1))
 repeat (first | refine zD (zF rfl) ?_ | refine zA ?_ | refine zG ?_ | refine zC rfl ?_ | refine zP ?_)
 refine zM rfl rfl rfl ci ?_
 repeat (first | refine zD (zE rfl) ?_ | refine zB ?_ | refine zA ?_ | refine zH ?_)
 exact zR hR rfl rfl
theorem zGA (t : zAD) (p : Int) (hT : ShortT t) : zk Tryz.prog 46 [.ro (z7 t) 0 t.length, .int .i64 p] (.tup [.ro (zBG (zHP t p).1) 0 (zHP t p).1.length, .int .i64 (zHP t p).2]) := by
 have cc := zK4 t p hT
 refine zV.value0 (zN (P := Tryz.prog) (fn := Tryz.f46) rfl rfl (by kernel_rfl) rfl (fun c hR hfix => ?_)) (fix := fun _ => False) (fun _ h => h) rfl rfl
 unfold zHP at hR
 repeat (first | refine zD (zF rfl) ?_ | refine zD (zE rfl) ?_ | refine zB ?_ | refine zA ?_ | refine zG ?_ | refine zC rfl ?_)
 refine zM rfl rfl rfl cc ?_
 repeat (first | refine zD (zF rfl) ?_ | refine zD (zE rfl) ?_ | refine zB ?_ | refine zA ?_ | refine zG ?_ | refine zC rfl ?_ | refine zD (zAb rfl rfl) ?_)
 refine zK rfl (fun h1 => ?_) (fun h1 => ?_)
 · rw [if_pos h1] at hR
   repeat (first | refine zD (zF rfl) ?_ | refine zD (zE rfl) ?_ | refine zB ?_ | refine zA ?_ | refine zG ?_ | refine zC rfl ?_)
   refine zAv 4 (.ro (zBG []) 0 0) rfl AEq.nil ?_
   repeat (first | refine zH ?_ | refine zQ ?_)
   exact zR hR rfl rfl
 rw [if_neg h1] at hR
 have co := of_ok t p hT (zEi (Classical.not_not.1 h1)).1
 repeat (first | refine zD (zF rfl) ?_ | refine zA ?_ | refine zG ?_ | refine zC rfl ?_ | refine zP ?_)
 refine zFH rfl rfl rfl co (fun h hh => absurd hh (Nat.not_lt_zero _)) (fun h hh => absurd hh id) ?_
 rintro r' H' ⟨rfl, rfl⟩
 repeat (first | refine zD (zE rfl) ?_ | refine zB ?_ | refine zA ?_ | refine zD (zI rfl rfl rfl rfl rfl) ?_ | refine zD (zAT rfl) ?_ | refine zD (zL rfl rfl rfl rfl rfl rfl) ?_)
 refine zA4 0 4 (zAz t p t.length).seqs.length [(5, .int .i64 0)] rfl (zGM _) rfl (by show (zAz t p t.length).seqs.length ≤ (zAz t p t.length).seqs.length; exact Nat.le_refl _) ⟨rfl, trivial⟩ ?_
 repeat (refine zH ?_)
 exact zR hR rfl rfl
theorem at_ok (t : zAD) (p : Int) (hT : ShortT t) : zk Tryz.prog 106 [.ro (z7 t) 0 t.length, .int .i64 p] (.tup [.ro (.ints .i64 (if zEN t p ≠ 0 then [] else zHn t p)) 0 (if zEN t p ≠ 0 then [] else zHn t p).length, .int .i64 (zEN t p)]) := by
 have cc := zK4 t p hT
 refine zV.value0 (zN (P := Tryz.prog) (fn := Tryz.f106) rfl rfl (by kernel_rfl) rfl (fun c hR hfix => ?_)) (fix := fun _ => False) (fun _ h => h) rfl rfl
 repeat (first | refine zD (zF rfl) ?_ | refine zD (zE rfl) ?_ | refine zB ?_ | refine zA ?_ | refine zG ?_ | refine zC rfl ?_)
 refine zM rfl rfl rfl cc ?_
 repeat (first | refine zD (zF rfl) ?_ | refine zD (zE rfl) ?_ | refine zB ?_ | refine zA ?_ | refine zG ?_ | refine zC rfl ?_ | refine zD (zAb rfl rfl) ?_)
 refine zK rfl (fun h1 => ?_) (fun h1 => ?_)
 · rw [if_pos h1] at hR
   repeat (first | refine zD (zF rfl) ?_ | refine zD (zE rfl) ?_ | refine zB ?_ | refine zA ?_ | refine zG ?_ | refine zC rfl ?_)
   refine zAv 4 (.ro (.ints .i64 []) 0 0) rfl AEq.nil ?_
   repeat (first | refine zH ?_ | refine zQ ?_)
   exact zR hR rfl rfl
 rw [if_neg h1, Classical.not_not.1 h1] at hR
 have co := of_ok t p hT (zEi (Classical.not_not.1 h1)).1
 repeat (first | refine zD (zF rfl) ?_ | refine zA ?_ | refine zG ?_ | refine zC rfl ?_ | refine zP ?_)
 refine zFH rfl rfl rfl co (fun h hh => absurd hh (Nat.not_lt_zero _)) (fun h hh => absurd hh id) ?_
 rintro r' H' ⟨rfl, rfl⟩
 repeat (first | refine zD (zE rfl) ?_ | refine zB ?_ | refine zA ?_ | refine zD (zI rfl rfl rfl rfl rfl) ?_ | refine zD (zAT rfl) ?_ | refine zD (zL rfl rfl rfl rfl rfl rfl) ?_)
 refine zA4 1 4 t.length [(5, .int .i64 0)] rfl zAY rfl (by show t.length ≤ (zAz t p t.length).pos.length; rw [zGP]; exact Nat.le_refl _) ⟨rfl, trivial⟩ ?_
 refine zAv 4 (.ro (.ints .i64 (zHn t p)) 0 (zHn t p).length) rfl (AEq.of_eq (by rw [show (zHn t p).length = t.length from zGP t p t.length]; rfl)) ?_
 repeat (refine zH ?_)
 exact zR hR rfl rfl
def infosR (t : zAD) (p : Int) : (List Int × List Int) × Int := if zCC t p ≠ 0 then (([], []), zCC t p) else ((zAe t p, zDG t p), 0)
end Go.Proofs.YtgmleamhjnlknaaGreatDoor
namespace Go.Proofs.YtgmleamhjnlknaaGreatDoor
open Go.Ax Go.Ax.Bg Go.Ax.Rt Go.RowKit Go.Ax.Idx Go.Ax.Cd
set_option maxRecDepth 100000
set_option maxHeartbeats 4000000
def cellsC (c : TChoice) : List AV := [.int .i64 c.info, .ro (.strs c.odds) 0 c.odds.length]
abbrev zBX (s : zBf) : Cells := zCN ch0 2 cellsC s
structure ShortC (c : TChoice) : Prop where
 odds : c.odds.length ≤ 9223372036854775807
 each : ∀ s ∈ c.odds, s.length ≤ 9223372036854775807
theorem rdNode {H : Type} {enc : TypeId × Value → H} {W : World} : Rd enc Tryz.prog W 71 6 zDY ShortN :=
 (Rd.struct Tryz.underlying71 (by kernel_rfl) (RdF.cons rfl rfl (Rd.int Tryz.underlying3) (RdF.cons rfl rfl (Rd.int Tryz.underlying3) (RdF.cons rfl rfl (Rd.int Tryz.underlying3) (RdF.cons rfl rfl (Rd.ints Tryz.underlying69 (by kernel_rfl) Tryz.underlying3) (RdF.cons rfl rfl (Rd.strs Tryz.underlying35 (by kernel_rfl) Tryz.underlying40) (RdF.cons rfl rfl (Rd.str Tryz.underlying40) RdF.nil))))))).map
   (fun a => (⟨a.1, a.2.1, a.2.2.1, a.2.2.2.1, a.2.2.2.2.1, a.2.2.2.2.2.1⟩ : TNode)) (fun a h => ⟨h.2.2.2.1.1, h.2.2.2.2.1.1, h.2.2.2.2.1.2, h.2.2.2.2.2.1⟩) (fun a => rfl) (fun a i hi => AEq.rfl')
theorem rdChoice {H : Type} {enc : TypeId × Value → H} {W : World} : Rd enc Tryz.prog W 176 2 cellsC ShortC :=
 (Rd.struct Tryz.underlying176 (by kernel_rfl) (RdF.cons rfl rfl (Rd.int Tryz.underlying3) (RdF.cons rfl rfl (Rd.strs Tryz.underlying35 (by kernel_rfl) Tryz.underlying40) RdF.nil))).map
   (fun a => (⟨a.1, a.2.1⟩ : TChoice)) (fun a h => ⟨h.2.1.1, h.2.1.2⟩) (fun a => rfl) (fun a i hi => AEq.rfl')
end Go.Proofs.YtgmleamhjnlknaaGreatDoor
namespace Go.Proofs.YtgmleamhjnlknaaGreatDoor
open Go.Ax Go.Ax.Bg Go.Ax.Rt Go.RowKit Go.Ax.Idx Go.Ax.Cd
attribute [local irreducible] Ax zAV QOp zV zAJ
set_option maxRecDepth 100000
set_option maxHeartbeats 4000000
structure ShortS (s : zBf) : Prop where
 len : s.length ≤ 9223372036854775807
 each : ∀ c ∈ s, ShortC c
theorem zGv (t : zAD) (p : Int) (s : zBf) (hlen : t.length ≤ 9223372036854775807) (hs : ShortS s) : zk Tryz.prog 110 [.ro (z7 t) 0 t.length, .int .i64 p, .ro (zBX s) 0 s.length] (.int .i64 (zEr t p s)) := by
 have cs := sets_ok t p hlen
 have hsl := hs.len
 have hzl : (zDG t p).length = (zAe t p).length := by unfold zDG; simp
 refine zV.value0 (zN (P := Tryz.prog) (fn := Tryz.f110) rfl rfl (by kernel_rfl) rfl (fun c hR hfix => ?_)) (fix := fun _ => False) (fun _ h => h) rfl rfl
 unfold zEr at hR
 generalize zAe t p = I at *
 generalize zDG t p = Z at *
 repeat (first | refine zD (zF rfl) ?_ | refine zD (zE rfl) ?_ | refine zB ?_ | refine zA ?_ | refine zG ?_ | refine zC rfl ?_)
 refine zM rfl rfl rfl cs ?_
 repeat (first | refine zD (zF rfl) ?_ | refine zD (zE rfl) ?_ | refine zB ?_ | refine zA ?_ | refine zG ?_ | refine zC rfl ?_ | refine zD (zAb rfl rfl) ?_ | refine zD (zz rfl rfl) ?_ | refine zD (zw rfl rfl rfl) ?_)
 refine zK rfl (fun h1 => ?_) (fun h1 => ?_)
 · rw [if_pos (by omega)] at hR
   repeat (first | refine zD (zE rfl) ?_ | refine zB ?_ | refine zA ?_ | refine zG ?_ | refine zC rfl ?_ | refine zH ?_ | refine zQ ?_)
   exact zR hR rfl rfl
 rw [if_neg (by omega)] at hR
 have hl : s.length = I.length := by omega
 repeat (first | refine zD (zF rfl) ?_ | refine zB ?_ | refine zA ?_ | refine zG ?_ | refine zC rfl ?_ | refine zT ?_ | refine zP ?_ | refine zD (zw rfl rfl rfl) ?_)
 refine zAC (ι := Nat) (fun i => [(0, .ro (z7 t) 0 t.length), (7, .ro (.ints .i64 I) 0 I.length), (8, .ro (.ints .i64 Z) 0 Z.length), (23, .ro (zBX s) 0 s.length), (24, .int .i64 (s.length : Nat)), (25, .int .i64 (i : Nat))]) (fun _ => [])
   (fun i => i ≤ s.length ∧ zEa I Z 0 s = zEa I Z i (s.drop i)) (fun i => s.length - i) 0 ⟨⟨rfl, rfl, rfl, rfl, rfl, rfl, trivial⟩, rfl, Nat.zero_le _, by rw [List.drop_zero]⟩ ?_
 rintro i ⟨hi, hE⟩
 repeat (first | refine zB ?_ | refine zA ?_ | refine zG ?_ | refine zC rfl ?_ | refine zD (zAQ rfl rfl) ?_)
 refine zK rfl (fun h => ?_) (fun h => ?_)
 · have hi' : i < s.length := by omega
   have hc := hs.each _ (zA6 ch0 hi')
   rw [zKP hi'] at hE
   have co := zLQ (s.getD i ch0).odds hc.odds hc.each
   have hol := hc.odds
   repeat (first | refine zD (zF rfl) ?_ | refine zD (zE rfl) ?_ | refine zA ?_ | refine zG ?_ | refine zC rfl ?_ | refine zT ?_ | refine zP ?_ | refine zD (zY rfl rfl rfl rfl (by first | (simp only [Nat.zero_add, Int.toNat_natCast, Int.toNat_zero]; exact rfl) | exact rfl) (by omega)) ?_ | refine zD (zAS rfl rfl rfl rfl rfl rfl) ?_ | refine z8 rfl rfl rfl ?_)
   refine zU 29 (.agg (cellsC (s.getD i ch0))) rfl (AEq.of_eq rfl) ?_
   generalize s.getD i ch0 = x at *
   obtain ⟨nf, od⟩ := x
   simp only at *
   refine zl (c' := .box [.int .i64 nf, .ro (.strs od) 0 od.length]) rfl rfl rfl rfl rfl Nat.zero_lt_one rfl rfl (fun i' j' hi' hj' => ?_) ?_
   · rw [if_pos (Nat.lt_one_iff.1 hi')]; rfl
   have hiI : i < I.length := by omega
   have hiZ : i < Z.length := by omega
   repeat (first | refine zB ?_ | refine zA ?_ | refine zG ?_)
   refine zAI (by kernel_rfl) ?_
   by_cases g1 : nf = I.getD i 0
   case neg =>
     rw [if_pos (.inl g1)] at hE
     rw [hE] at hR
     refine zAR (fuel := 0) [0, 1, 2, 3, 4, 5, 6, 7, 8, 9, 10, 11, 12, 13, 14, 15, 16] [(0, .ro (z7 t) 0 t.length), (7, .ro (.ints .i64 I) 0 I.length), (8, .ro (.ints .i64 Z) 0 Z.length), (23, .ro (zBX s) 0 s.length), (24, .int .i64 (s.length : Nat)), (25, .int .i64 (i : Nat)), (9, .int .i64 (i : Nat)), (10, .ptr 0 0 0)] ⟨rfl, rfl, rfl, rfl, rfl, rfl, rfl, rfl, trivial⟩ (by kernel_rfl) (by decide) rfl rfl ?_
     refine zn rfl rfl (zL rfl rfl rfl rfl rfl rfl) ?_
     refine zn rfl rfl (zI rfl rfl rfl rfl rfl) ?_
     refine zn rfl rfl (zF rfl) ?_
     refine zn rfl rfl (zF rfl) ?_
     refine zn rfl rfl (zY rfl rfl rfl rfl (by first | (simp only [Nat.zero_add, Int.toNat_natCast, Int.toNat_zero]; exact rfl) | exact rfl) (by omega)) ?_
     refine zn rfl rfl (z6 rfl rfl rfl) ?_
     refine zn rfl rfl (zAb rfl rfl) ?_
     rw [decide_eq_true g1]
     refine zn rfl rfl (zF rfl) ?_
     refine zB5 rfl rfl rfl rfl rfl ?_
     refine zB5 rfl rfl rfl rfl rfl ?_
     refine zB5 rfl rfl rfl rfl rfl ?_
     refine zB5 rfl rfl rfl rfl rfl ?_
     refine zB5 rfl rfl rfl rfl rfl ?_
     refine zB5 rfl rfl rfl rfl rfl ?_
     refine zB5 rfl rfl rfl rfl rfl ?_
     refine zB5 rfl rfl rfl rfl rfl ?_
     refine zn rfl rfl (zr rfl rfl) ?_
     refine zAs ?_
     refine zAB (by kernel_rfl) ?_
     repeat (first | refine zD (zE rfl) ?_ | refine zB ?_ | refine zA ?_ | refine zG ?_ | refine zC rfl ?_ | refine zf rfl ?_ | refine zH ?_ | refine zQ ?_ | refine zo ?_ | refine zAf ?_)
     exact zR hR rfl rfl
   refine zAR (fuel := 0) [0, 1, 2, 3, 4, 5, 6, 7, 8, 9, 10, 11, 12, 13, 14, 15, 16] [(0, .ro (z7 t) 0 t.length), (7, .ro (.ints .i64 I) 0 I.length), (8, .ro (.ints .i64 Z) 0 Z.length), (23, .ro (zBX s) 0 s.length), (24, .int .i64 (s.length : Nat)), (25, .int .i64 (i : Nat)), (9, .int .i64 (i : Nat)), (10, .ptr 0 0 0)] ⟨rfl, rfl, rfl, rfl, rfl, rfl, rfl, rfl, trivial⟩ (by kernel_rfl) (by decide) rfl rfl ?_
   refine zn rfl rfl (zL rfl rfl rfl rfl rfl rfl) ?_
   refine zn rfl rfl (zI rfl rfl rfl rfl rfl) ?_
   refine zn rfl rfl (zF rfl) ?_
   refine zn rfl rfl (zF rfl) ?_
   refine zn rfl rfl (zY rfl rfl rfl rfl (by first | (simp only [Nat.zero_add, Int.toNat_natCast, Int.toNat_zero]; exact rfl) | exact rfl) (by omega)) ?_
   refine zn rfl rfl (z6 rfl rfl rfl) ?_
   refine zn rfl rfl (zAb rfl rfl) ?_
   rw [decide_eq_false (fun q => q g1)]
   refine zn rfl rfl (zF rfl) ?_
   refine zBs rfl rfl rfl rfl (zL rfl rfl rfl rfl rfl rfl) ?_
   refine zBs rfl rfl rfl rfl (zI rfl rfl rfl rfl rfl) ?_
   refine zBs rfl rfl rfl rfl (zw rfl rfl rfl) ?_
   refine zBs rfl rfl rfl rfl (zF rfl) ?_
   refine zBs rfl rfl rfl rfl (zF rfl) ?_
   refine zBs rfl rfl rfl rfl (zY rfl rfl rfl rfl (by first | (simp only [Nat.zero_add, Int.toNat_natCast, Int.toNat_zero]; exact rfl) | exact rfl) (by omega)) ?_
   refine zBs rfl rfl rfl rfl (z6 rfl rfl rfl) ?_
   refine zBs rfl rfl rfl rfl (zAb rfl rfl) ?_
   refine zn rfl rfl (zr rfl rfl) ?_
   refine zAs ?_
   refine zAB (by kernel_rfl) ?_
   repeat (refine zA ?_)
   refine zK rfl (fun g2 => ?_) (fun g2 => ?_)
   · rw [if_pos (.inr g2)] at hE
     rw [hE] at hR
     repeat (first | refine zD (zE rfl) ?_ | refine zB ?_ | refine zA ?_ | refine zG ?_ | refine zC rfl ?_ | refine zH ?_ | refine zQ ?_ | refine zo ?_ | refine zAf ?_)
     exact zR hR rfl rfl
   rw [if_neg (by
     rintro (q | q)
     · exact q g1
     · exact g2 q)] at hE
   repeat (first | refine zA ?_ | refine zG ?_ | refine zC rfl ?_ | refine zP ?_ | refine zD (zI rfl rfl rfl rfl rfl) ?_ | refine zD (zL rfl rfl rfl rfl rfl rfl) ?_)
   refine zM rfl rfl rfl co ?_
   repeat (first | refine zD (zF rfl) ?_ | refine zD (zE rfl) ?_ | refine zB ?_ | refine zA ?_ | refine zG ?_ | refine zC rfl ?_ | refine zD (zAb rfl rfl) ?_)
   refine zK rfl (fun g3 => ?_) (fun g3 => ?_)
   · rw [if_pos g3] at hE
     rw [hE] at hR
     repeat (first | refine zD (zF rfl) ?_ | refine zD (zE rfl) ?_ | refine zB ?_ | refine zA ?_ | refine zG ?_ | refine zC rfl ?_ | refine zH ?_ | refine zQ ?_ | refine zo ?_ | refine zAf ?_)
     exact zR hR rfl rfl
   rw [if_neg g3] at hE
   repeat (first | refine zZ ?_ | refine zP ?_)
   refine zA ?_
   refine zAy [] [some ⟨176, .box [.int .i64 nf, .ro (.strs od) 0 od.length]⟩] [(0, .ro (z7 t) 0 t.length), (7, .ro (.ints .i64 I) 0 I.length), (8, .ro (.ints .i64 Z) 0 Z.length), (23, .ro (zBX s) 0 s.length), (24, .int .i64 (s.length : Nat)), (25, .int .i64 (i : Nat))] rfl ⟨rfl, rfl, rfl, rfl, rfl, rfl, trivial⟩ (fun h hh => by rw [hfix] at hh; exact absurd hh id) (fun h o ho => by simp at ho) rfl ?_
   repeat (first | refine zD (zF rfl) ?_ | refine zB ?_ | refine zC rfl ?_ | refine zD (zAK rfl rfl (by omega)) ?_)
   exact zd ⟨i + 1, ⟨by omega, hE⟩, by omega, ⟨rfl, rfl, rfl, rfl, rfl, rfl, trivial⟩, rfl⟩
 · have hie : i = s.length := by omega
   subst hie
   rw [List.drop_length] at hE
   rw [hE] at hR
   repeat (first | refine zD (zE rfl) ?_ | refine zB ?_ | refine zA ?_ | refine zG ?_ | refine zC rfl ?_ | refine zx ?_ | refine zW ?_ | refine zX ?_ | refine zi ?_ | refine zH ?_)
   exact zR hR rfl rfl
end Go.Proofs.YtgmleamhjnlknaaGreatDoor
namespace Go.Ax
variable [Pins]
open Go.RowKit
/-- Does operation j wait, at last, for operation i? -/
def needs (all : Array Oper) (idx : List Nat) : Nat → Nat → Nat → Bool
 | 0, _, _ => false
 | n + 1, j, i => match all[j]? with
   | some o => o.after.toList.any (fun e => Region.binds .any e && Nat.beq e.on i) || o.after.toList.any (fun e => Region.binds .any e && (idx.contains e.on && needs all idx n e.on i))
   | none => false
theorem zIi {cur : Array Bool} {i : Nat} (h : cur.getD i false = true) : cur.getD i true = true := by
 have _pin := (inferInstance : Pins)
 unfold Array.getD at h ⊢
 split at h
 · rename_i q
   rw [dif_pos q]; exact h
 · cases h
theorem zHV {all : Array Oper} {idx : List Nat} {cur : Array Bool} (hcl : ∀ m' ∈ idx, cur.getD m' true = true → ∀ o, all[m']? = some o → ∀ e ∈ o.after, Region.binds .any e = true → cur.getD e.on false = true) :
   ∀ (n j i : Nat), needs all idx n j i = true → (∀ o, all[j]? = some o → ∀ e ∈ o.after, Region.binds .any e = true → cur.getD e.on false = true) → cur.getD i true = true
 | 0, _, _, h, _ => by cases h
 | n + 1, j, i, h, hd => by
   have _pin := (inferInstance : Pins)
   rw [needs] at h
   split at h
   · rename_i o ho
     rw [Bool.or_eq_true] at h
     rcases h with h | h
     · obtain ⟨e, he1, he2⟩ := List.any_eq_true.1 h
       rw [Bool.and_eq_true] at he2
       have h3 := hd o ho e (Array.mem_toList_iff.1 he1) he2.1
       rw [Nat.eq_of_beq_eq_true he2.2] at h3
       exact zIi h3
     · obtain ⟨e, he1, he2⟩ := List.any_eq_true.1 h
       simp only [Bool.and_eq_true] at he2
       have h3 := zIi (hd o ho e (Array.mem_toList_iff.1 he1) he2.1)
       have hm : e.on ∈ idx := by simpa using he2.2.1
       exact zHV hcl n e.on i he2.2.2 (hcl e.on hm h3)
   · cases h
theorem zJY {cur : Array Bool} {i j : Nat} (h : cur.getD j false = true) : (cur.setIfInBounds i true).getD j false = true := by
 have _pin := (inferInstance : Pins)
 simp only [Array.getD_eq_getD_getElem?, Array.getElem?_setIfInBounds] at h ⊢
 split
 · split
   · rfl
   · rename_i h1 h2
     subst h1
     rw [Array.getElem?_eq_none (by omega)] at h
     cases h
 · exact h
theorem zMl {all : Array Oper} {idx : List Nat} {cur : Array Bool} {i : Nat} (_hi : i ∈ idx) (hcl : ∀ m' ∈ idx, cur.getD m' true = true → ∀ o, all[m']? = some o → ∀ e ∈ o.after, Region.binds .any e = true → cur.getD e.on false = true)
   (hd : ∀ o, all[i]? = some o → ∀ e ∈ o.after, Region.binds .any e = true → cur.getD e.on false = true) :
   ∀ m' ∈ idx, (cur.setIfInBounds i true).getD m' true = true → ∀ o, all[m']? = some o → ∀ e ∈ o.after, Region.binds .any e = true → (cur.setIfInBounds i true).getD e.on false = true := by
 have _pin := (inferInstance : Pins)
 intro m' hm' hu o ho e he hb
 by_cases h : m' = i
 · subst h
   exact zJY (hd o ho e he hb)
 · refine zJY (hcl m' hm' ?_ o ho e he hb)
   have h' : ¬ i = m' := fun q => h q.symm
   simpa [Array.getD_eq_getD_getElem?, Array.getElem?_setIfInBounds, h'] using hu
/-- May these operations run in any order, ahead of all others? -/
def okRunT (all : Array Oper) (listed : Array Bool) (idx : List Nat) (k0 : List Nat) : Bool :=
 (idx.all fun i => !listed.getD i true && (match all[i]? with
   | some o => (match o.dst with | some d => !k0.contains d | none => false) && o.after.toList.all (fun e => !Region.binds .any e || (Nat.blt e.on i && (idx.contains e.on || listed.getD e.on false)))
   | none => false)) &&
 ((List.range all.size).all fun j => idx.contains j || listed.getD j true || idx.all (fun i => needs all idx (idx.length + 1) j i)) &&
 (idx.all fun i => idx.all fun j => Nat.beq i j || !(match all[i]?, all[j]? with | some o, some o' => o.dst == o'.dst | _, _ => false))
section
variable {P : Program} {fn : Func} {c : Ctx} {fr : Fr} {H : zg} {k : List It}
theorem zJw {all : Array Oper} {fuel : Nat} {listed listed' : Array Bool} (idx : List Nat) (K0 : Fr) (hK : zB8 fr K0) (hok : okRunT all listed idx (K0.map (·.1)) = true) (hnd : idx.Nodup) (hd : zCQ fn.ntmps all.toList = true) (hl : zFA listed idx = listed')
   (h : zF3 P fn c H all K0 idx [] (fun st => Ax P fn c (.any all fuel listed' k) (st.map (·.2) ++ K0) H)) : Ax P fn c (.any all (fuel + idx.length) listed k) fr H := by
 obtain ⟨st, hG, hidx, hst⟩ := zFt h (fun s hs => by simp at hs)
 rw [List.map_nil, List.append_nil] at hidx
 clear h
 unfold okRunT at hok
 simp only [Bool.and_eq_true] at hok
 obtain ⟨⟨ok1, ok2⟩, ok3⟩ := hok
 rw [List.all_eq_true] at ok1 ok2 ok3
 have hmem : ∀ i, i ∈ idx ↔ ∃ s ∈ st, s.1 = i := fun i => by
   have : i ∈ idx.reverse ↔ ∃ s ∈ st, s.1 = i := by rw [← hidx]; simp
   rw [← this, List.mem_reverse]
 have hlen : st.length = idx.length := by
   have := congrArg List.length hidx
   simpa using this
 have hnd' : (st.map (·.1)).Nodup := by rw [hidx]; exact (List.reverse_perm idx).nodup_iff.2 hnd
 have hlt : ∀ i ∈ idx, i < listed.size := fun i hi => by
   have := ok1 i hi
   simp only [Bool.and_eq_true, Bool.not_eq_true'] at this
   rcases Nat.lt_or_ge i listed.size with q | q
   · exact q
   · have h1 := this.1
     simp only [Array.getD, show ¬ i < listed.size by omega, dite_false] at h1
     cases h1
 -- the induction
 have key : ∀ (m : Nat) (cur : Array Bool) (fr : Fr), cur.size = listed.size → (∀ j, j ∉ idx → cur[j]? = listed[j]?) → unl cur st = m → (∀ s ∈ st, cur.getD s.1 true = true → zAt s.2.1 fr = some s.2.2) → zB8 fr K0 → (∀ m' ∈ idx, cur.getD m' true = true → ∀ o, all[m']? = some o → ∀ e ∈ o.after, Region.binds .any e = true → cur.getD e.on false = true) → Ax P fn c (.any all (fuel + m) cur k) fr H := by
   intro m
   induction m with
   | zero =>
     intro cur fr hcs hco hcm hck hk0 hcl
     have hall : ∀ s ∈ st, cur.getD s.1 true = true := fun s hs => by
       cases hq : cur.getD s.1 true with
       | true => rfl
       | false =>
         exfalso
         have h0 : st.filter (fun s => !cur.getD s.1 true) = [] := List.length_eq_zero_iff.1 hcm
         have : s ∈ st.filter (fun s => !cur.getD s.1 true) := List.mem_filter.2 ⟨hs, by rw [hq]; rfl⟩
         rw [h0] at this; simp at this
     have hcur : cur = listed' := by
       rw [← hl]
       apply Array.ext_getElem?
       intro j
       rcases Nat.lt_or_ge j listed.size with q | q
       · rw [zFm idx listed j q]
         by_cases hj : j ∈ idx
         · rw [if_pos hj]
           obtain ⟨s, hs1, hs2⟩ := (hmem j).1 hj
           have := hall s hs1
           rw [hs2] at this
           simp only [Array.getD, show j < cur.size by omega, dite_true] at this
           rw [Array.getElem?_eq_getElem (by omega)]
           exact congrArg some this
         · rw [if_neg hj]; exact hco j hj
       · rw [Array.getElem?_eq_none (by omega), Array.getElem?_eq_none (by rw [zEt]; omega)]
     subst hcur
     intro w a σ S hr
     refine hG w a σ S (hr.weaken (zDS fun p hp => ?_))
     rcases List.mem_append.1 hp with q | q
     · obtain ⟨s, q1, q2⟩ := List.mem_map.1 q
       rw [← q2]; exact hck s q1 (hall s q1)
     · exact zDV hk0 p q
   | succ m ih =>
     intro cur fr hcs hco hcm hck hk0 hcl
     -- some step is left
     obtain ⟨s0, hs0, hs0u⟩ : ∃ s ∈ st, cur.getD s.1 true = false := by
       rcases hq : st.filter (fun s => !cur.getD s.1 true) with _ | ⟨s, r⟩
       · unfold unl at hcm; rw [hq] at hcm; simp at hcm
       · have : s ∈ st.filter (fun s => !cur.getD s.1 true) := by rw [hq]; simp
         obtain ⟨h1, h2⟩ := List.mem_filter.1 this
         exact ⟨s, h1, by simpa using h2⟩
     have hsub : ∀ i ∈ Region.ready .any all cur, i ∈ idx ∧ cur.getD i true = false := by
       intro i hi
       obtain ⟨h1, o, ho, hdeps⟩ := mem_ready.1 hi
       refine ⟨?_, h1⟩
       apply Classical.byContradiction
       intro hni
       have hjs : i < all.size := (Array.getElem?_eq_some_iff.1 ho).1
       have := ok2 i (List.mem_range.2 hjs)
       simp only [Bool.or_eq_true, ho] at this
       rcases this with (q | q) | q
       · exact hni (by simpa using q)
       · have hco' := hco i hni
         have h2 : listed.getD i true = cur.getD i true := by
           simp only [Array.getD_eq_getD_getElem?, hco']
         rw [h2, h1] at q; cases q
       · rw [List.all_eq_true] at q
         have h3 := zHV hcl _ i s0.1 (q s0.1 ((hmem s0.1).2 ⟨s0, hs0, rfl⟩)) (fun o' ho' e he hb => by
           rw [ho] at ho'
           obtain rfl := Option.some.inj ho'
           exact hdeps e he hb)
         rw [h3] at hs0u; cases hs0u
     have hne : Region.ready .any all cur ≠ [] := by
       intro h0
       -- the least one that is left
       have hex : ∃ i, i ∈ idx ∧ cur.getD i true = false := ⟨s0.1, (hmem s0.1).2 ⟨s0, hs0, rfl⟩, hs0u⟩
       have least : ∀ n i, i ≤ n → i ∈ idx → cur.getD i true = false → False := by
         intro n
         induction n with
         | zero =>
           intro i hi him hiu
           have h1 := ok1 i him
           simp only [Bool.and_eq_true] at h1
           cases hoo : all[i]? with
           | none => rw [hoo] at h1; exact absurd h1.2 (by simp)
           | some o =>
             rw [hoo] at h1
             simp only [Bool.and_eq_true] at h1
             have h2 := List.all_eq_true.1 h1.2.2
             have : i ∈ Region.ready .any all cur := mem_ready.2 ⟨hiu, o, hoo, fun e he hb => by
               have := h2 e (Array.mem_toList_iff.2 he)
               rw [hb] at this
               simp only [Bool.not_true, Bool.false_or, Bool.and_eq_true] at this
               have := Nat.le_of_ble_eq_true this.1
               omega⟩
             rw [h0] at this; simp at this
         | succ n ihn =>
           intro i hi him hiu
           have h1 := ok1 i him
           simp only [Bool.and_eq_true] at h1
           cases hoo : all[i]? with
           | none => rw [hoo] at h1; exact absurd h1.2 (by simp)
           | some o =>
             rw [hoo] at h1
             simp only [Bool.and_eq_true] at h1
             have h2 := List.all_eq_true.1 h1.2.2
             have : i ∈ Region.ready .any all cur := mem_ready.2 ⟨hiu, o, hoo, fun e he hb => by
               have h3 := h2 e (Array.mem_toList_iff.2 he)
               rw [hb] at h3
               simp only [Bool.not_true, Bool.false_or, Bool.and_eq_true, Bool.or_eq_true] at h3
               have hlt' : e.on < i := Nat.le_of_ble_eq_true h3.1
               by_cases hei : e.on ∈ idx
               · cases hq : cur.getD e.on true with
                 | false => exact (ihn e.on (by omega) hei hq).elim
                 | true =>
                   have hsz := hlt e.on hei
                   simp only [Array.getD, show e.on < cur.size by omega, dite_true] at hq ⊢
                   exact hq
               · rcases h3.2 with q | q
                 · exact absurd (by simpa using q) hei
                 · have h2 : cur.getD e.on false = listed.getD e.on false := by simp only [Array.getD_eq_getD_getElem?, hco e.on hei]
                   rw [h2]; exact q⟩
             rw [h0] at this; simp at this
       obtain ⟨i, hi1, hi2⟩ := hex
       exact least i i (Nat.le_refl _) hi1 hi2
     refine zO rfl hne hd (zI1 (fun i hi o ho => ?_))
     obtain ⟨him, hiu⟩ := hsub i hi
     obtain ⟨s, hs1, hs2⟩ := (hmem i).1 him
     obtain ⟨o', K, g1, g2, g3, g4⟩ := hst s hs1
     rw [hs2, ho] at g1
     obtain rfl := Option.some.inj g1
     obtain ⟨_, o2, ho2, hdeps⟩ := mem_ready.1 hi
     rw [ho] at ho2
     obtain rfl := Option.some.inj ho2
     refine g3 _ fr (zDS fun p hp => ?_) (zB (zJ ?_))
     · rcases g4 p hp with q | ⟨s', q1, ⟨e, q2, q3, q4⟩, q5⟩
       · exact zDV hk0 p q
       · have h1 := hdeps e q2 q3
         rw [q4] at h1
         rw [← q5]
         refine hck s' q1 ?_
         have hsz := hlt s'.1 ((hmem s'.1).2 ⟨s', q1, rfl⟩)
         simp only [Array.getD, show s'.1 < cur.size by omega, dite_true] at h1 ⊢
         exact h1
     · have hisz := hlt i him
       refine ih (cur.setIfInBounds i true) _ (by simpa using hcs) (fun j hj => ?_) ?_ (fun s' hs' hu => ?_) ?_ (zMl him hcl (fun o' ho' e he hb => by rw [ho] at ho'; obtain rfl := Option.some.inj ho'; exact hdeps e he hb))
       · rw [Array.getElem?_setIfInBounds_ne (show i ≠ j from fun e => hj (e ▸ him))]; exact hco j hj
       · -- one less
         have hf : st.filter (fun s' => !(cur.setIfInBounds i true).getD s'.1 true) = (st.filter (fun s' => !cur.getD s'.1 true)).filter (fun s' => decide (s'.1 ≠ i)) := by
           rw [List.filter_filter]
           congr 1
           funext s'
           by_cases hq : s'.1 = i
           · rw [hq]; simp [Array.getD, show i < cur.size by omega]
           · have hq' : ¬ i = s'.1 := fun e => hq e.symm
             simp [Array.getD_eq_getD_getElem?, Array.getElem?_setIfInBounds, hq, hq']
         unfold unl at hcm ⊢
         rw [hf]
         have hmemf : s ∈ st.filter (fun s' => !cur.getD s'.1 true) := List.mem_filter.2 ⟨hs1, by rw [hs2, hiu]; rfl⟩
         have hndf : ((st.filter (fun s' => !cur.getD s'.1 true)).map (·.1)).Nodup := List.Nodup.sublist (List.Sublist.map _ List.filter_sublist) hnd'
         revert hcm hmemf hndf
         generalize st.filter (fun s' => !cur.getD s'.1 true) = L
         intro hcm hmemf hndf
         have gen : ∀ (L : Steps) (n : Nat), L.length = n + 1 → s ∈ L → (L.map (·.1)).Nodup → (L.filter (fun s' => decide (s'.1 ≠ i))).length = n := by
           intro L
           induction L with
           | nil => intro n h; simp at h
           | cons x r ihL =>
             intro n hn hm hnd
             simp only [List.map_cons, List.nodup_cons] at hnd
             rcases List.mem_cons.1 hm with rfl | hm
             · have hno : ∀ y ∈ r, y.1 ≠ i := fun y hy e => hnd.1 (List.mem_map.2 ⟨y, hy, by rw [e, hs2]⟩)
               have : (r.filter (fun s' => decide (s'.1 ≠ i))) = r := List.filter_eq_self.2 (fun y hy => by simpa using hno y hy)
               rw [List.filter_cons_of_neg (by simp [hs2]), this]
               simpa using hn
             · have hx : x.1 ≠ i := fun e => hnd.1 (List.mem_map.2 ⟨s, hm, by rw [hs2, e]⟩)
               have hr0 : 0 < r.length := List.length_pos_iff.2 (by rintro rfl; simp at hm)
               obtain ⟨n', rfl⟩ : ∃ n', n = n' + 1 := ⟨n - 1, by simp at hn; omega⟩
               rw [List.filter_cons_of_pos (by simpa using hx), List.length_cons, ihL n' (by simpa using hn) hm hnd.2]
         exact gen L m hcm hmemf hndf
       · by_cases hq : s'.1 = i
         · have : s' = s := by
             have h1 : s ∈ st := hs1
             have hinj : ∀ (L : Steps), (L.map (·.1)).Nodup → ∀ x ∈ L, ∀ y ∈ L, x.1 = y.1 → x = y := by
               intro L
               induction L with
               | nil => intro _ x hx; simp at hx
               | cons z r ihL =>
                 intro hnd x hx y hy hxy
                 simp only [List.map_cons, List.nodup_cons] at hnd
                 rcases List.mem_cons.1 hx with hx | hx <;> rcases List.mem_cons.1 hy with hy | hy
                 · rw [hx, hy]
                 · exact absurd (List.mem_map.2 ⟨y, hy, by rw [← hxy, hx]⟩) hnd.1
                 · exact absurd (List.mem_map.2 ⟨x, hx, by rw [hxy, hy]⟩) hnd.1
                 · exact ihL hnd.2 x hx y hy hxy
             exact hinj st hnd' s' hs' s hs1 (by rw [hq, hs2])
           rw [this]
           exact zLT _ _ _
         · have h1 : cur.getD s'.1 true = true := by
             have hq' : ¬ i = s'.1 := fun e => hq e.symm
             simpa [Array.getD_eq_getD_getElem?, Array.getElem?_setIfInBounds, hq'] using hu
           have h2 := hck s' hs' h1
           -- another slot
           have hne2 : s'.2.1 ≠ s.2.1 := by
             intro e
             obtain ⟨o3, _, f1, f2, _, _⟩ := hst s' hs'
             have h3 := List.all_eq_true.1 (ok3 s'.1 ((hmem s'.1).2 ⟨s', hs', rfl⟩)) i him
             rw [f1, ho] at h3
             simp only [Bool.or_eq_true, Bool.not_eq_true', f2, g2] at h3
             rcases h3 with h3 | h3
             · exact hq (Nat.eq_of_beq_eq_true h3)
             · rw [e] at h3; simp at h3
           show (bif Nat.beq s'.2.1 s.2.1 then some s.2.2 else zAt s'.2.1 fr) = _
           rw [zBM hne2]; exact h2
       · refine zDS fun p hp => ?_
         have h1 := ok1 i him
         simp only [Bool.and_eq_true] at h1
         rw [ho] at h1
         simp only [g2, Bool.and_eq_true, Bool.not_eq_true'] at h1
         have hne3 : p.1 ≠ s.2.1 := by
           intro e
           have : (K0.map (·.1)).contains s.2.1 = true := by
             rw [List.contains_iff_mem]
             exact List.mem_map.2 ⟨p, hp, e⟩
           rw [h1.2.1] at this; cases this
         show (bif Nat.beq p.1 s.2.1 then some s.2.2 else zAt p.1 fr) = _
         rw [zBM hne3]; exact zDV hk0 p hp
 have hm0 : unl listed st = idx.length := by
   unfold unl
   rw [List.filter_eq_self.2 (fun s hs => ?_), hlen]
   have := ok1 s.1 ((hmem s.1).2 ⟨s, hs, rfl⟩)
   simp only [Bool.and_eq_true] at this
   exact this.1
 have := key idx.length listed fr rfl (fun _ _ => rfl) hm0 (fun s hs hu => by
   have h1 := ok1 s.1 ((hmem s.1).2 ⟨s, hs, rfl⟩)
   simp only [Bool.and_eq_true, Bool.not_eq_true'] at h1
   rw [h1.1] at hu; cases hu) hK (fun m' hm' hu => by
   have h1 := ok1 m' hm'
   simp only [Bool.and_eq_true, Bool.not_eq_true'] at h1
   rw [h1.1] at hu; cases hu)
 exact this
/-- A constant of which nothing is said (a map that is nil). -/
theorem zIy {ind : Bool} {d : Option Nat} {ty : TypeId} {pos : String} {after : Array Edge} {g : Option (Nat × Bool)} {x : Operand} : QOp ind P fn c fr H ⟨d, .assign x, ty, pos, after, g⟩ .any :=
 fun _ a _ _ _ => ⟨a.eval x, .any _ _, fun _ _ => rfl⟩
end
end Go.Ax
namespace Go.Proofs.YtgmleamhjnlknaaGreatDoor
open Go.Ax Go.Ax.Bg Go.Ax.Rt Go.RowKit Go.Ax.Idx Go.Ax.Cd
attribute [local irreducible] Ax zAV QOp zV zAJ
set_option maxRecDepth 100000
set_option maxHeartbeats 4000000
def zHr (c : TChoice) : AV := .int .i64 c.info
def valC (c : TChoice) : AV := .ro (qsC (c.odds.map zAi)) 0 (c.odds.map zAi).length
abbrev oddC (s : zBf) : Cells := .mp (s.map zHr) (s.map valC)
theorem keysC (s : zBf) : ∀ x ∈ s.map zHr, zCc (.int .i64) x = true := by
 intro x hx
 obtain ⟨e, _, rfl⟩ := List.mem_map.1 hx
 rfl
theorem zMS (s : zBf) (n : Nat) : zBB n (oddC s) := by
 exact ⟨zCE (fun _ => rfl) s, zCE (fun _ => rfl) s⟩
theorem zJ7 (s : zBf) : zAO (oddC s) := ⟨zF2 (fun _ => rfl) s, zF2 (fun _ => rfl) s⟩
theorem odds_ok' (s : zBf) (hs : ShortS s) (hn : (s.map TChoice.info).Nodup) (hv : ∀ c ∈ s, c.odds.length ≤ 256 ∧ ∀ r ∈ c.odds, zCW r = 0) : zk Tryz.prog 117 [.ro (zBX s) 0 s.length] (.rom (s.map zHr) (s.map valC)) := by
 have hsl := hs.len
 refine zV.value (K := fun r H => r = .mp 0 ∧ H = [some ⟨171, oddC s⟩]) (zN (P := Tryz.prog) (fn := Tryz.f117) rfl rfl (by kernel_rfl) rfl (fun c hR hfix => ?_)) (fix := fun _ => False) (fun _ h => h) rfl ?_
 · repeat (first | refine zG ?_ | refine zC rfl ?_)
   refine zD zIy ?_
   repeat (first | refine zB ?_ | refine zA ?_ | refine zG ?_ | refine zC rfl ?_)
   refine zES ?_
   repeat (first | refine zD (zF rfl) ?_ | refine zD (zE rfl) ?_ | refine zB ?_ | refine zA ?_ | refine zG ?_ | refine zC rfl ?_ | refine zT ?_ | refine zD (zw rfl rfl rfl) ?_)
   refine zAC (ι := Nat) (fun i => [(3, .mp 0), (7, .ro (zBX s) 0 s.length), (8, .int .i64 (s.length : Nat)), (9, .int .i64 (i : Nat))]) (fun i => [some ⟨171, oddC (s.take i)⟩])
     (fun i => i ≤ s.length) (fun i => s.length - i) 0 ⟨⟨rfl, rfl, rfl, rfl, trivial⟩, rfl, Nat.zero_le _⟩ ?_
   intro i hi
   repeat (first | refine zB ?_ | refine zA ?_ | refine zG ?_ | refine zC rfl ?_ | refine zD (zAQ rfl rfl) ?_)
   refine zK rfl (fun h => ?_) (fun h => ?_)
   · have hi' : i < s.length := by omega
     have hm := zA6 ch0 hi'
     have hc := hs.each _ hm
     obtain ⟨v1, v2⟩ := hv _ hm
     have cin := in_ok' (s.getD i ch0).odds (by omega) (fun r hr => ⟨hc.each r hr, v2 r hr⟩)
     have hol := hc.odds
     have htk : s.take (i + 1) = s.take i ++ [s.getD i ch0] := by rw [List.take_succ_eq_append_getElem hi', zBW ch0 hi']
     have hnew : AV.int .i64 (s.getD i ch0).info ∉ (s.take i).map zHr := by
       intro hmem
       obtain ⟨c, hc1, hc2⟩ := List.mem_map.1 hmem
       injection hc2 with e1 e2
       obtain ⟨j, hj, rfl⟩ := List.getElem_of_mem hc1
       rw [List.length_take] at hj
       rw [List.getElem_take] at e2
       have hp := List.pairwise_iff_getElem.1 hn j i (by simpa using (show j < s.length by omega)) (by simpa using hi') (by omega)
       rw [List.getElem_map, List.getElem_map] at hp
       rw [zBW ch0 hi'] at e2
       exact hp e2
     repeat (first | refine zA ?_ | refine zG ?_ | refine zC rfl ?_ | refine zT ?_ | refine zP ?_ | refine zD (zY rfl rfl rfl rfl (by first | (simp only [Nat.zero_add, Int.toNat_natCast, Int.toNat_zero]; exact rfl) | exact rfl) (by omega)) ?_ | refine zD (zAS rfl rfl rfl rfl rfl rfl) ?_ | refine z8 rfl rfl rfl ?_)
     refine zU 12 (.agg (cellsC (s.getD i ch0))) rfl (AEq.of_eq rfl) ?_
     generalize s.getD i ch0 = x at *
     obtain ⟨nf, od⟩ := x
     simp only at *
     refine zl (c' := .box [.int .i64 nf, .ro (.strs od) 0 od.length]) rfl rfl rfl rfl rfl Nat.zero_lt_one rfl rfl (fun i' j' hi' hj' => ?_) ?_
     · rw [if_pos (Nat.lt_one_iff.1 hi')]; rfl
     repeat (first | refine zB ?_ | refine zA ?_)
     refine zAI (by kernel_rfl) ?_
     refine zAR (fuel := 1) [0, 1, 2, 3, 4, 5] [(3, .mp 0), (5, .ptr 1 0 0), (7, .ro (zBX s) 0 s.length), (8, .int .i64 (s.length : Nat)), (9, .int .i64 (i : Nat))] ⟨rfl, rfl, rfl, rfl, rfl, trivial⟩ (by kernel_rfl) (by decide) rfl rfl ?_
     refine zn rfl rfl (zF rfl) ?_
     refine zn rfl rfl (zL rfl rfl rfl rfl rfl rfl) ?_
     refine zn rfl rfl (zI rfl rfl rfl rfl rfl) ?_
     refine zn rfl rfl (zL rfl rfl rfl rfl rfl rfl) ?_
     refine zn rfl rfl (zI rfl rfl rfl rfl rfl) ?_
     refine zCb rfl rfl rfl rfl rfl cin ?_
     refine zAs ?_
     refine zO (is := [6]) (by kernel_rfl) (by simp) rfl ⟨fun o ho => ?_, trivial⟩
     all_goals (cases ho)
     refine zCP rfl (.int rfl) rfl rfl rfl rfl rfl (keysC _) hnew ?_
     repeat (first | refine zB ?_ | refine zJ ?_)
     refine zAB (by kernel_rfl) ?_
     repeat (refine zZ ?_)
     refine zA ?_
     refine zCo [some ⟨171, oddC (s.take (i + 1))⟩, some ⟨176, .box [.int .i64 nf, .ro (.strs od) 0 od.length]⟩] (by rw [htk]; unfold oddC; rw [List.map_append, List.map_append]; rfl) ?_
     refine zAy [some ⟨171, oddC (s.take (i + 1))⟩] [some ⟨176, .box [.int .i64 nf, .ro (.strs od) 0 od.length]⟩] [(3, .mp 0), (7, .ro (zBX s) 0 s.length), (8, .int .i64 (s.length : Nat)), (9, .int .i64 (i : Nat))] rfl ⟨rfl, rfl, rfl, rfl, trivial⟩ (fun h hh => by rw [hfix] at hh; exact absurd hh id) (zDj (zMS _ _)) rfl ?_
     repeat (first | refine zD (zF rfl) ?_ | refine zB ?_ | refine zC rfl ?_ | refine zD (zAK rfl rfl (by omega)) ?_)
     exact zd ⟨i + 1, by omega, by omega, ⟨rfl, rfl, rfl, rfl, trivial⟩, rfl⟩
   · have hie : i = s.length := by omega
     subst hie
     rw [List.take_length]
     repeat (first | refine zD (zF rfl) ?_ | refine zD (zE rfl) ?_ | refine zB ?_ | refine zA ?_ | refine zG ?_ | refine zC rfl ?_ | refine zx ?_ | refine zW ?_ | refine zX ?_ | refine zi ?_ | refine zH ?_)
     exact zR hR rfl ⟨rfl, rfl⟩
 · rintro r H ⟨rfl, rfl⟩
   exact ⟨rfl, trivial, fun h o ho => zGp (zJ7 s) h o ho⟩
end Go.Proofs.YtgmleamhjnlknaaGreatDoor
namespace Go.Proofs.YtgmleamhjnlknaaGreatDoor
open Go.Ax Go.Ax.Bg Go.Ax.Rt Go.RowKit Go.Ax.Idx Go.Ax.Cd
attribute [local irreducible] Ax zAV QOp zV zAJ
set_option maxRecDepth 100000
set_option maxHeartbeats 4000000
theorem zL4 {s : zBf} {c : TChoice} (hc : c ∈ s) : ∃ j : Nat, (s.map zHr)[j]? = some (.int .i64 c.info) ∧ (s.map valC)[j]? = some (.ro (qsC (c.odds.map zAi)) 0 (c.odds.map zAi).length) := by
 obtain ⟨j, hj⟩ := List.getElem?_of_mem hc
 exact ⟨j, by rw [List.getElem?_map, hj]; rfl, by rw [List.getElem?_map, hj]; rfl⟩
theorem zKF (l : List Rat) (n : Nat) : zBB n (qsC l) := by
 intro i j _ hj
 have hj : j < 3 := hj
 match j, hj with
 | 0, _ => rfl
 | 1, _ => rfl
 | 2, _ => rfl
theorem zLc (t : zAD) (p : Int) (s : zBf) (hT : ShortT t) (hs : ShortS s) : zk Tryz.prog 48 [.ro (z7 t) 0 t.length, .int .i64 p, .ro (zBX s) 0 s.length] (vecP (zEl t p s)) := by
 have cc := zK4 t p hT
 have cst := zGv t p s hT.len hs
 refine zV.value0 (zN (P := Tryz.prog) (fn := Tryz.f48) rfl rfl (by kernel_rfl) rfl (fun c hR hfix => ?_)) (fix := fun _ => False) (fun _ h => h) rfl rfl
 unfold zEl at hR
 repeat (first | refine zD (zF rfl) ?_ | refine zD (zE rfl) ?_ | refine zB ?_ | refine zA ?_ | refine zG ?_ | refine zC rfl ?_)
 refine zM rfl rfl rfl cc ?_
 repeat (first | refine zD (zF rfl) ?_ | refine zD (zE rfl) ?_ | refine zB ?_ | refine zA ?_ | refine zG ?_ | refine zC rfl ?_ | refine zD (zAb rfl rfl) ?_)
 refine zK rfl (fun h1 => ?_) (fun h1 => ?_)
 · rw [if_pos h1] at hR
   repeat (first | refine zD (zF rfl) ?_ | refine zD (zE rfl) ?_ | refine zB ?_ | refine zA ?_ | refine zG ?_ | refine zC rfl ?_)
   refine zAv 6 (.ro (.strs []) 0 0) rfl AEq.nil ?_
   repeat (first | refine zH ?_ | refine zQ ?_)
   exact zR hR rfl rfl
 rw [if_neg h1] at hR
 obtain ⟨hv, hpf, _⟩ := zEi (Classical.not_not.1 h1)
 repeat (first | refine zD (zF rfl) ?_ | refine zA ?_ | refine zG ?_ | refine zC rfl ?_ | refine zP ?_)
 refine zM rfl rfl rfl cst ?_
 repeat (first | refine zD (zF rfl) ?_ | refine zD (zE rfl) ?_ | refine zB ?_ | refine zA ?_ | refine zG ?_ | refine zC rfl ?_ | refine zD (zAb rfl rfl) ?_)
 refine zK rfl (fun h2 => ?_) (fun h2 => ?_)
 · rw [if_pos h2] at hR
   repeat (first | refine zD (zF rfl) ?_ | refine zD (zE rfl) ?_ | refine zB ?_ | refine zA ?_ | refine zG ?_ | refine zC rfl ?_)
   refine zAv 6 (.ro (.strs []) 0 0) rfl AEq.nil ?_
   repeat (first | refine zH ?_ | refine zQ ?_)
   exact zR hR rfl rfl
 rw [if_neg h2] at hR
 have hO := zHT (Classical.not_not.1 h2)
 have hSt := hO.strat
 have hn : (s.map TChoice.info).Nodup := by rw [hO.infos]; exact zFD t p
 have co := odds_ok' s hs hn (fun c hc => ⟨(zEP (hO.odds c hc)).1, (zEP (hO.odds c hc)).2.1⟩)
 have cof := of_ok t p hT hv
 have hfew := zGB hv p
 have hpD := plan_D hv hSt
 have hpl : (zBL t p (zBY s)).length = (zt t p).length := zDP _ _ _
 repeat (first | refine zD (zF rfl) ?_ | refine zA ?_ | refine zG ?_ | refine zC rfl ?_ | refine zP ?_)
 refine zM rfl rfl rfl co ?_
 repeat (first | refine zD (zF rfl) ?_ | refine zD (zE rfl) ?_ | refine zB ?_ | refine zA ?_ | refine zG ?_ | refine zC rfl ?_)
 refine zFH rfl rfl rfl cof (fun h hh => absurd hh (Nat.not_lt_zero _)) (fun h hh => absurd hh id) ?_
 rintro r' H' ⟨rfl, rfl⟩
 repeat (first | refine zD (zF rfl) ?_ | refine zB ?_ | refine zA ?_ | refine zD (zI rfl rfl rfl rfl rfl) ?_ | refine zD (zw rfl rfl rfl) ?_ | refine zD (zAT rfl) ?_ | refine zD (zL rfl rfl rfl rfl rfl rfl) ?_)
 refine zA4 0 34 (zt t p).length [(10, .rom (s.map zHr) (s.map valC)), (11, .nil), (35, .int .i64 ((zt t p).length : Nat)), (36, .int .i64 0)] rfl (zGM _) rfl (by show (zAz t p t.length).seqs.length ≤ (zAz t p t.length).seqs.length; exact Nat.le_refl _) ⟨rfl, rfl, rfl, rfl, trivial⟩ ?_
 refine zAy [] _ [(10, .rom (s.map zHr) (s.map valC)), (11, .nil), (34, .ro (zBG (zt t p)) 0 (zt t p).length), (35, .int .i64 ((zt t p).length : Nat)), (36, .int .i64 0)] rfl ⟨rfl, rfl, rfl, rfl, rfl, trivial⟩ (fun h hh => by rw [hfix] at hh; exact absurd hh id) (fun h o ho => by simp at ho) rfl ?_
 refine zBn 11 ⟨108, qsC (zBk (zt t p) (zBY s) 0)⟩ rfl rfl ?_
 repeat (refine zT ?_)
 refine zAC (ι := Nat) (fun k => [(10, .rom (s.map zHr) (s.map valC)), (11, .sl 0 0 k), (34, .ro (zBG (zt t p)) 0 (zt t p).length), (35, .int .i64 ((zt t p).length : Nat)), (36, .int .i64 (k : Nat))]) (fun k => [some ⟨108, qsC (zBk (zt t p) (zBY s) k)⟩])
   (fun k => k ≤ (zt t p).length) (fun k => (zt t p).length - k) 0 ⟨⟨rfl, rfl, rfl, rfl, rfl, trivial⟩, rfl, Nat.zero_le _⟩ ?_
 intro k hk
 repeat (first | refine zB ?_ | refine zA ?_ | refine zG ?_ | refine zC rfl ?_ | refine zD (zAQ rfl rfl) ?_)
 refine zK rfl (fun h => ?_) (fun h => ?_)
 · have hk' : k < (zt t p).length := by omega
   have hpn : zBk (zt t p) (zBY s) (k + 1) = zBk (zt t p) (zBY s) k ++ [zB6 (zBY s) ((zt t p).getD k zAn) (zBk (zt t p) (zBY s) k)] := rfl
   have hml : (zBk (zt t p) (zBY s) k).length = k := zDP _ _ _
   have hstay : ∀ b, b < k → (zBk (zt t p) (zBY s) k).getD b 0 = (zBL t p (zBY s)).getD b 0 := fun b hb => zFy _ _ hb (by omega)
   have hat := fun (h1 : 1 ≤ k) => zHU hv h1 hk'
   have h00 := (zAm hv p).2.1
   generalize hP2 : zBk (zt t p) (zBY s) (k + 1) = P2 at *
   generalize zBk (zt t p) (zBY s) k = P at *
   repeat (first | refine zA ?_ | refine zG ?_ | refine zC rfl ?_ | refine zT ?_ | refine zP ?_ | refine zD (zY rfl rfl rfl rfl (by first | (simp only [Nat.zero_add, Int.toNat_natCast, Int.toNat_zero]; exact rfl) | exact rfl) (by omega)) ?_ | refine zD (zAS rfl rfl rfl rfl rfl rfl) ?_ | refine z8 rfl rfl rfl ?_)
   refine zU 39 (.agg (zCe ((zt t p).getD k zAn))) rfl (AEq.of_eq rfl) ?_
   by_cases hk0 : k = 0
   · subst hk0
     rw [h00] at hpn
     have hpn : P2 = P ++ [1] := hpn
     refine zU 39 (.agg (zCe zAn)) rfl (AEq.of_eq (by rw [h00])) ?_
     refine zl (c' := .box [.int .i64 (-1), .int .i64 (-1), .int .i64 (-1)]) rfl rfl rfl rfl rfl Nat.zero_lt_one rfl rfl (fun i' j' hi' hj' => ?_) ?_
     · rw [if_pos (Nat.lt_one_iff.1 hi')]; rfl
     repeat (first | refine zD (zF rfl) ?_ | refine zB ?_ | refine zA ?_ | refine zG ?_ | refine zC rfl ?_ | refine zf rfl ?_ | refine zD (zI rfl rfl rfl rfl rfl) ?_ | refine zD (zAQ rfl rfl) ?_ | refine zD (zL rfl rfl rfl rfl rfl rfl) ?_)
     refine zM rfl rfl rfl zKr ?_
     unfold qA
     repeat (refine zS rfl rfl rfl rfl rfl rfl rfl rfl rfl rfl rfl ?_)
     refine zAE rfl rfl rfl rfl rfl rfl rfl rfl rfl hml rfl rfl (by show 0 + 1 ≤ 1; omega) rfl (by show (0 + 1) * 56 ≤ _ ∧ _; omega) ?_ (by rw [hfix]; exact fun h => h) ?_
     · intro i' j hi hj
       exact zEZ 0 3 zAg zEU P 1 _ (zIj _) 0 i' j hi hj
     refine zA5 [some ⟨108, qsC P2⟩, some ⟨80, .box [.int .i64 (-1), .int .i64 (-1), .int .i64 (-1)]⟩] ?_ ?_
     · rw [hpn]
       exact zAk.eqv (zDL 0 3 zAg P 1 _ (zIj _)) (zAk.eqv (CEq.refl _) zAk.nil)
     repeat (first | refine zD (zE rfl) ?_ | refine zB ?_ | refine zZ ?_)
     refine zA ?_
     refine zAy [some ⟨108, qsC P2⟩] [some ⟨80, .box [.int .i64 (-1), .int .i64 (-1), .int .i64 (-1)]⟩] [(10, .rom (s.map zHr) (s.map valC)), (11, .sl 0 0 1), (34, .ro (zBG (zt t p)) 0 (zt t p).length), (35, .int .i64 ((zt t p).length : Nat)), (36, .int .i64 (0 : Nat))] rfl ⟨rfl, rfl, rfl, rfl, rfl, trivial⟩ (fun h hh => by rw [hfix] at hh; exact absurd hh id) (zDj (zKF _ _)) rfl ?_
     repeat (first | refine zD (zF rfl) ?_ | refine zB ?_ | refine zC rfl ?_ | refine zD (zAK rfl rfl (by omega)) ?_)
     exact zd ⟨1, by omega, by omega, ⟨rfl, rfl, rfl, rfl, rfl, trivial⟩, by rw [hP2]⟩
   · obtain ⟨x, b, x0, x1, x2, x3, x4, x5, x6, x7⟩ := hat (by omega)
     have hs1 := x7 (k - x.2) (by omega)
     rw [show x.2 + (k - x.2) = k by omega] at hs1
     rw [hs1] at hpn
     obtain ⟨ch, c1, c2, c3, c4, c5⟩ := hO.at' x1
     obtain ⟨jj, i1, i2⟩ := zL4 c1
     rw [c2] at i1
     have hbk : b < P.length := by omega
     have hcl : k - x.2 < (ch.odds.map zAi).length := by rw [List.length_map]; omega
     have hpn : P2 = P ++ [P.getD b 0 * (ch.odds.map zAi).getD (k - x.2) 0] := by
       rw [hpn]
       unfold zB6
       simp only
       rw [if_neg (by omega), Int.toNat_natCast, Int.toNat_natCast, c3]
     have cmul := qmul_ok (P.getD b 0) ((ch.odds.map zAi).getD (k - x.2) 0) (by
       rw [hstay b (by omega)]
       refine sz_D ((hpD b (by omega)).mono ?_)
       have : 2000 * b ≤ 2000 * 61 := Nat.mul_le_mul_left _ (by omega)
       omega) (sz_D (((zEP c5).2.2.2 _ (zBp 0 hcl)).2.mono (by omega)))
     generalize hS : ch.odds.map zAi = O at *
     refine zU 39 (.agg (zCe ⟨x.1, ((k - x.2 : Nat) : Int), (b : Int)⟩)) rfl (AEq.of_eq (by rw [hs1])) ?_
     refine zl (c' := .box [.int .i64 x.1, .int .i64 (k - x.2 : Nat), .int .i64 (b : Nat)]) rfl rfl rfl rfl rfl Nat.zero_lt_one rfl rfl (fun i' j' hi' hj' => ?_) ?_
     · rw [if_pos (Nat.lt_one_iff.1 hi')]; rfl
     repeat (first | refine zB ?_ | refine zA ?_ | refine zG ?_ | refine zC rfl ?_ | refine ze rfl ?_ | refine zD (zI rfl rfl rfl rfl rfl) ?_ | refine zD (zAQ rfl rfl) ?_ | refine zD (zL rfl rfl rfl rfl rfl rfl) ?_)
     refine zCo [some ⟨108, qsC P⟩, some ⟨80, .box [.int .i64 x.1, .int .i64 (k - x.2 : Nat), .int .i64 (b : Nat)]⟩] rfl ?_
     refine zAv 13 (.ptr 1 0 0) rfl (AEq.of_eq rfl) ?_
     refine zAI (by kernel_rfl) ?_
     refine zc 0 rfl (by kernel_rfl) (by kernel_rfl) (by kernel_rfl) rfl (zF rfl) rfl ?_
     refine zJw (fuel := 3) [1, 2, 3, 4, 5, 6, 7, 8, 9, 10, 11, 12, 13, 14] [(10, .rom (s.map zHr) (s.map valC)), (11, .sl 0 0 k), (13, .ptr 1 0 0), (34, .ro (zBG (zt t p)) 0 (zt t p).length), (35, .int .i64 ((zt t p).length : Nat)), (36, .int .i64 (k : Nat)), (47, .sl 0 0 k)] ⟨rfl, rfl, rfl, rfl, rfl, rfl, rfl, trivial⟩ (by kernel_rfl) (by decide) rfl rfl ?_
     refine zn rfl rfl (zF rfl) ?_
     refine zn rfl rfl (zL rfl rfl rfl rfl rfl rfl) ?_
     refine zn rfl rfl (zI rfl rfl rfl rfl rfl) ?_
     refine zn rfl rfl (zu rfl rfl rfl rfl rfl (by first | (simp only [Nat.zero_add, Int.toNat_natCast, Int.toNat_zero]; exact rfl) | exact rfl) (by omega)) ?_
     refine zn rfl rfl (zq rfl rfl rfl rfl rfl rfl rfl (by first | exact Nat.zero_lt_one | assumption | omega)) ?_
     refine zn rfl rfl (zF rfl) ?_
     refine zn rfl rfl (zL rfl rfl rfl rfl rfl rfl) ?_
     refine zn rfl rfl (zI rfl rfl rfl rfl rfl) ?_
     refine zn rfl rfl (zB3 rfl (.int rfl) rfl rfl rfl rfl (keysC s) jj i1 i2) ?_
     refine zn rfl rfl (zL rfl rfl rfl rfl rfl rfl) ?_
     refine zn rfl rfl (zI rfl rfl rfl rfl rfl) ?_
     refine zn rfl rfl (zY rfl rfl rfl rfl (by first | (simp only [Nat.zero_add, Int.toNat_natCast, Int.toNat_zero]; exact rfl) | exact rfl) (by omega)) ?_
     refine zn rfl rfl (zAS rfl rfl rfl rfl rfl rfl) ?_
     refine zCb rfl rfl rfl rfl rfl cmul ?_
     refine zAs ?_
     unfold qA
     refine zO (is := [15]) (by kernel_rfl) (by simp) rfl ⟨fun o ho => ?_, trivial⟩
     all_goals (cases ho)
     repeat (first | refine zB ?_ | refine zJ ?_ | refine zS rfl rfl rfl rfl rfl rfl rfl rfl rfl rfl rfl ?_)
     refine zO (is := [16]) (by kernel_rfl) (by simp) rfl ⟨fun o ho => ?_, trivial⟩
     all_goals (cases ho)
     refine zAE rfl rfl rfl rfl rfl rfl rfl rfl rfl hml rfl rfl (by show 0 + 1 ≤ 1; omega) rfl (by show (k + 1) * 56 ≤ _ ∧ _; omega) ?_ (by rw [hfix]; exact fun h => h) ?_
     · intro i' j hi hj
       exact zEZ 0 3 zAg zEU P _ _ (zIj _) 0 i' j hi hj
     refine zA5 [some ⟨108, qsC P2⟩, some ⟨80, .box [.int .i64 x.1, .int .i64 (k - x.2 : Nat), .int .i64 (b : Nat)]⟩] ?_ ?_
     · rw [hpn]
       exact zAk.eqv (zDL 0 3 zAg P _ _ (zIj _)) (zAk.eqv (CEq.refl _) zAk.nil)
     repeat (first | refine zB ?_ | refine zJ ?_)
     refine zc 17 rfl (by kernel_rfl) (by kernel_rfl) (by kernel_rfl) rfl (zE rfl) rfl ?_
     refine zAB (by kernel_rfl) ?_
     repeat (refine zZ ?_)
     refine zA ?_
     refine zAy [some ⟨108, qsC P2⟩] [some ⟨80, .box [.int .i64 x.1, .int .i64 (k - x.2 : Nat), .int .i64 (b : Nat)]⟩] [(10, .rom (s.map zHr) (s.map valC)), (11, .sl 0 0 (k + 1)), (34, .ro (zBG (zt t p)) 0 (zt t p).length), (35, .int .i64 ((zt t p).length : Nat)), (36, .int .i64 (k : Nat))] rfl ⟨rfl, rfl, rfl, rfl, rfl, trivial⟩ (fun h hh => by rw [hfix] at hh; exact absurd hh id) (zDj (zKF _ _)) rfl ?_
     repeat (first | refine zD (zF rfl) ?_ | refine zB ?_ | refine zC rfl ?_ | refine zD (zAK rfl rfl (by omega)) ?_)
     exact zd ⟨k + 1, by omega, by omega, ⟨rfl, rfl, rfl, rfl, rfl, trivial⟩, by rw [hP2]⟩
 · have hke : k = (zt t p).length := by omega
   subst hke
   obtain ⟨r, hfin, hrq⟩ := zMg (zBL t p (zBY s)) (by omega) (fun q hq => by
     obtain ⟨i, hi, rfl⟩ := List.getElem_of_mem hq
     have h5 := hpD i (by omega)
     rw [zBW 0 hi] at h5
     refine sz_D (h5.mono ?_)
     have : 2000 * i ≤ 2000 * 61 := Nat.mul_le_mul_left _ (by omega)
     omega)
   have hpo : zBk (zt t p) (zBY s) (zt t p).length = zBL t p (zBY s) := rfl
   rw [hpo]
   generalize zBL t p (zBY s) = R at *
   repeat (first | refine zA ?_ | refine zG ?_ | refine zx ?_ | refine zW ?_ | refine zX ?_ | refine zi ?_)
   refine zA4 0 11 (zt t p).length [] rfl (zHo _) rfl (by show _ ≤ R.length; omega) trivial ?_
   refine zAv 11 (.ro (qsC R) 0 R.length) rfl (AEq.of_eq (by rw [hpl])) ?_
   repeat (first | refine zD (zF rfl) ?_ | refine zC rfl ?_)
   refine zM rfl rfl rfl hfin ?_
   repeat (first | refine zD (zE rfl) ?_ | refine zB ?_ | refine zA ?_ | refine zD (zz rfl rfl) ?_)
   refine zAv 6 (.ro (.strs (zAq R).1) 0 (zAq R).1.length) rfl hrq ?_
   repeat (refine zH ?_)
   exact zR hR rfl rfl
end Go.Proofs.YtgmleamhjnlknaaGreatDoor
namespace Go.Ax.Rt
open Go.Ax.Bg Go.Ax.Dt
set_option maxRecDepth 100000
def allV : List zAZ → List Rat → Bool
 | [], [] => true
 | s :: r, q :: t => decide (IsQ s q) && allV r t
 | _, _ => false
theorem zHh : ∀ {s : List zAZ} {l : List Rat}, allV s l = true → l.map zAM = s ∧ l.all zBd = true
 | [], [], _ => ⟨rfl, rfl⟩
 | [], _ :: _, h => by cases h
 | _ :: _, [], h => by cases h
 | a :: r, q :: t, h => by
   simp only [allV, Bool.and_eq_true, decide_eq_true_eq] at h
   obtain ⟨h1, h2⟩ := zHh h.2
   refine ⟨by rw [List.map_cons, h.1.text, h1], ?_⟩
   rw [List.all_cons, h.1.fit, h2]; rfl
theorem allV_f {s : List zAZ} {l : List Rat} (h : allV s l = true) : zAq l = (s, 0) := by
 unfold zAq
 rw [if_pos (zHh h).2, (zHh h).1]
def allM : List (List zAZ) → List (List Rat) → Bool
 | [], [] => true
 | s :: r, q :: t => allV s q && allM r t
 | _, _ => false
def fourT : List (List zAZ) := [[[49], [50]], [[51], [52]]]
def signT : List (List zAZ) := [[[49], [49]], [[49], [45, 49]]]
theorem zH1 {q : List (List Rat)} : ∀ r ∈ (outM q).1, ∀ s ∈ r, s.length ≤ 9223372036854775807 := by
 intro r hr s hs
 unfold outM at hr
 split at hr
 · rename_i h
   obtain ⟨x, hx, rfl⟩ := List.mem_map.1 hr
   obtain ⟨y, hy, rfl⟩ := List.mem_map.1 hs
   have h2 := List.all_eq_true.1 (List.all_eq_true.1 h x hx) y hy
   unfold zBd at h2
   rw [Bool.and_eq_true, decide_eq_true_eq, decide_eq_true_eq] at h2
   unfold zAM
   rw [List.length_append, List.length_append]
   have h1 : (if y.num < 0 then [45] else [] : List UInt8).length ≤ 1 := by split <;> simp
   have h3 : (if y.den = 1 then [] else 47 :: Lib.decDigits y.den : List UInt8).length ≤ 2001 := by
     split
     · simp
     · rw [List.length_cons]; omega
   omega
 · simp at hr
abbrev MaxL : Nat := 9223372036854775807
structure ShortM (m : List (List zAZ)) : Prop where
 len : m.length ≤ MaxL
 row : ∀ r ∈ m, r.length ≤ MaxL ∧ ∀ s ∈ r, s.length ≤ MaxL
structure ShortV (v : List zAZ) : Prop where
 len : v.length ≤ MaxL
 each : ∀ s ∈ v, s.length ≤ MaxL
theorem ShortM.wid {m : List (List zAZ)} (h : ShortM m) : zDC m ≤ MaxL := by
 unfold zDC
 cases m with
 | nil => exact Nat.zero_le _
 | cons x _ => exact (h.row x (by simp)).1
theorem ShortM.nil : ShortM [] := ⟨Nat.zero_le _, fun r hr => by simp at hr⟩
theorem ShortV.nil : ShortV [] := ⟨Nat.zero_le _, fun r hr => by simp at hr⟩
theorem ShortM.out {q : List (List Rat)} (h1 : q.length ≤ MaxL) (h2 : ∀ r ∈ q, r.length ≤ MaxL) : ShortM (outM q).1 := by
 have h3 := @zH1 q
 refine ⟨?_, fun r hr => ⟨?_, h3 r hr⟩⟩
 · unfold outM
   split
   · simpa using h1
   · exact Nat.zero_le _
 · unfold outM at hr
   split at hr
   · obtain ⟨x, hx, rfl⟩ := List.mem_map.1 hr
     rw [List.length_map]; exact h2 x hx
   · simp at hr
theorem ShortM.mul {a b : List (List zAZ)} (ha : ShortM a) (hb : ShortM b) : ShortM (mulR a b).1 := by
 unfold mulR
 split
 · exact ShortM.nil
 split
 · exact ShortM.nil
 split
 · refine ShortM.out (by simpa [mulQ, inM] using ha.len) (fun r hr => ?_)
   obtain ⟨x, hx, rfl⟩ := List.mem_map.1 hr
   rw [List.length_map, zMm]; exact hb.wid
 · exact ShortM.nil
theorem ShortM.trans {a : List (List zAZ)} (ha : ShortM a) : ShortM (transR a).1 := by
 unfold transR
 split
 · exact ShortM.nil
 · refine ⟨by simpa [transT] using ha.wid, fun r hr => ?_⟩
   obtain ⟨k, hk, rfl⟩ := List.mem_map.1 hr
   refine ⟨by simpa using ha.len, fun s hs => ?_⟩
   obtain ⟨x, hx, rfl⟩ := List.mem_map.1 hs
   rcases Nat.lt_or_ge k x.length with q | q
   · exact (ha.row x hx).2 _ (by rw [zBW [] q]; exact List.getElem_mem q)
   · have : x.getD k [] = [] := by simp [List.getD, q]
     rw [this]; exact Nat.zero_le _
theorem ShortV.out {l : List Rat} (h : l.length ≤ MaxL) : ShortV (zAq l).1 := by
 have h3 := zH1 (q := [l])
 refine ⟨?_, fun s hs => ?_⟩
 · unfold zAq
   split
   · simpa using h
   · exact Nat.zero_le _
 · unfold zAq at hs
   split at hs
   · rename_i h1
     have e : (outM [l]).1 = [l.map zAM] := by
       unfold outM
       rw [if_pos (by simpa using h1)]
       rfl
     rw [e] at h3
     exact h3 _ (by simp) s hs
   · simp at hs
theorem ShortM.apply {a : List (List zAZ)} (ha : ShortM a) (v : List zAZ) : ShortV (applyR a v).1 := by
 unfold applyR
 split
 · exact ShortV.nil
 split
 · exact ShortV.nil
 split
 · exact ShortV.nil
 · exact ShortV.out (by simpa [applyQ, inM] using ha.len)
end Go.Ax.Rt
namespace Go.Ax.Rt
open Go.Ax.Bg Go.Ax.Idx
set_option maxRecDepth 100000
def zBq : zAD := [⟨2, 0, 0, [1, 2], [], []⟩, ⟨2, 1, 3, [3, 4], [], []⟩, ⟨2, 1, 3, [5, 6], [], []⟩, ⟨0, 0, 0, [], [], [45, 49]⟩, ⟨0, 0, 0, [], [], [49]⟩, ⟨0, 0, 0, [], [], [49]⟩, ⟨0, 0, 0, [], [], [45, 49]⟩]
def zJq (n : Int) : zBf := [⟨n, [[49, 47, 50], [49, 47, 50]]⟩]
theorem g_check (p : Int) (h : p = 0 ∨ p = 1) : zCC zBq p = 0 := by
 rcases h with rfl | rfl <;> decide +kernel
theorem g_perf0 : zGT zBq 0 = true := by decide +kernel
theorem g_plan1 : zEN zBq 1 = 0 := by decide +kernel
theorem g_seqs : zHP zBq 1 = ([zAn, ⟨3, 0, 0⟩, ⟨3, 1, 0⟩], 0) := by decide +kernel
theorem g_pos : zHn zBq 1 = [0, 0, 0, 1, 2, 1, 2] := by decide +kernel
theorem g_strat0 : zEr zBq 1 [] = 3 := by decide +kernel
theorem g_planR : zEl zBq 1 (zJq 3) = ([[49], [49, 47, 50], [49, 47, 50]], 0) := by
 unfold zEl
 rw [if_neg (by decide +kernel), if_neg (by decide +kernel)]
 exact allV_f (by decide +kernel)
end Go.Ax.Rt
namespace Go.Proofs.YtgmleamhjnlknaaGreatDoor
open Go.Ax Go.Ax.Bg Go.Ax.Rt Go.RowKit Go.Ax.Idx Go.Ax.Cd
attribute [local irreducible] Ax zAV QOp zV zAJ
set_option maxRecDepth 100000
set_option maxHeartbeats 4000000
theorem equalS (a b : List RSeq) (hlen : a.length ≤ 9223372036854775807) (hlb : b.length ≤ 9223372036854775807) : zk Tryz.prog 108 [.ro (zBG a) 0 a.length, .ro (zBG b) 0 b.length] (.bool (decide (a = b))) := by
 refine zV.value0 (zN (P := Tryz.prog) (fn := Tryz.f108) rfl rfl (by kernel_rfl) rfl (fun c hR hfix => ?_)) (fix := fun _ => False) (fun _ h => h) rfl rfl
 repeat (first | refine zD (zF rfl) ?_ | refine zD (zE rfl) ?_ | refine zB ?_ | refine zA ?_ | refine zG ?_ | refine zC rfl ?_ | refine zD (zAb rfl rfl) ?_ | refine zD (zw rfl rfl rfl) ?_)
 refine zK rfl (fun h => ?_) (fun h => ?_)
 · repeat (first | refine zD (zE rfl) ?_ | refine zB ?_ | refine zA ?_ | refine zG ?_ | refine zC rfl ?_ | refine zH ?_ | refine zQ ?_)
   refine zR hR rfl ?_
   have : ¬ a = b := by rintro rfl; exact h rfl
   simp [zA1, this]
 have hab : a.length = b.length := by omega
 repeat (first | refine zD (zF rfl) ?_ | refine zB ?_ | refine zA ?_ | refine zG ?_ | refine zC rfl ?_ | refine zT ?_ | refine zP ?_ | refine zD (zw rfl rfl rfl) ?_)
 refine zAC (ι := Nat) (fun k => [(0, .ro (zBG a) 0 a.length), (1, .ro (zBG b) 0 b.length), (12, .int .i64 (a.length : Nat)), (13, .int .i64 (k : Nat))]) (fun _ => [])
   (fun k => k ≤ a.length ∧ a.take k = b.take k) (fun k => a.length - k) 0 ⟨⟨rfl, rfl, rfl, rfl, trivial⟩, rfl, Nat.zero_le _, rfl⟩ ?_
 intro k ⟨hk, heq⟩
 repeat (first | refine zB ?_ | refine zA ?_ | refine zG ?_ | refine zC rfl ?_ | refine zD (zAQ rfl rfl) ?_)
 refine zK rfl (fun h2 => ?_) (fun h2 => ?_)
 · have hk' : k < a.length := by omega
   have hkb : k < b.length := by omega
   have ha := zAU a zAn k hk'
   have hb := zAU b zAn k hkb
   repeat (first | refine zD (zF rfl) ?_ | refine zD (zE rfl) ?_ | refine zB ?_ | refine zA ?_ | refine zG ?_ | refine zC rfl ?_ | refine zT ?_ | refine zP ?_)
   refine zAI (by kernel_rfl) ?_
   refine zAR (fuel := 0) [0, 1, 2, 3, 4, 5, 6, 7, 8] [(0, .ro (zBG a) 0 a.length), (1, .ro (zBG b) 0 b.length), (5, .int .i64 (k : Nat)), (12, .int .i64 (a.length : Nat)), (13, .int .i64 (k : Nat))] ⟨rfl, rfl, rfl, rfl, rfl, trivial⟩ (by kernel_rfl) (by decide) rfl rfl ?_
   refine zn rfl rfl (zF rfl) ?_
   refine zn rfl rfl (zF rfl) ?_
   refine zn rfl rfl (zY rfl rfl rfl rfl (by first | (simp only [Nat.zero_add, Int.toNat_natCast, Int.toNat_zero]; exact rfl) | exact rfl) (by omega)) ?_
   refine zn rfl rfl (zAS rfl rfl rfl rfl rfl rfl) ?_
   refine zn rfl rfl (zF rfl) ?_
   refine zn rfl rfl (zF rfl) ?_
   refine zn rfl rfl (zY rfl rfl rfl rfl (by first | (simp only [Nat.zero_add, Int.toNat_natCast, Int.toNat_zero]; exact rfl) | exact rfl) (by omega)) ?_
   refine zn rfl rfl (zAS rfl rfl rfl rfl rfl rfl) ?_
   refine zn rfl rfl (zJU (L := zCe (a.getD k zAn)) (M := zCe (b.getD k zAn)) (b := decide ((a.getD k zAn).info = (b.getD k zAn).info) && (decide ((a.getD k zAn).choice = (b.getD k zAn).choice) && (decide ((a.getD k zAn).before = (b.getD k zAn).before) && true))) rfl rfl rfl rfl (by kernel_rfl) (by kernel_rfl) rfl) ?_
   refine zAs ?_
   refine zAB (by kernel_rfl) ?_
   repeat (refine zA ?_)
   by_cases h3 : a.getD k zAn = b.getD k zAn
   · rw [h3, decide_eq_true rfl, decide_eq_true rfl, decide_eq_true rfl]
     repeat (first | refine zD (zF rfl) ?_ | refine zB ?_ | refine zA ?_ | refine zC rfl ?_ | refine ze rfl ?_ | refine zZ ?_ | refine zP ?_ | refine zD (zAK rfl rfl (by omega)) ?_)
     exact zd ⟨k + 1, ⟨by omega, by rw [ha, hb, heq, h3]⟩, by omega, ⟨rfl, rfl, rfl, rfl, trivial⟩, rfl⟩
   · have h4 : (decide ((a.getD k zAn).info = (b.getD k zAn).info) && (decide ((a.getD k zAn).choice = (b.getD k zAn).choice) && (decide ((a.getD k zAn).before = (b.getD k zAn).before) && true))) = false := by
       rw [Bool.and_true, ← Bool.not_eq_true, Bool.and_eq_true, Bool.and_eq_true, decide_eq_true_eq, decide_eq_true_eq, decide_eq_true_eq]
       rintro ⟨e1, e2, e3⟩
       apply h3
       generalize a.getD k zAn = x at *
       generalize b.getD k zAn = y at *
       obtain ⟨x1, x2, x3⟩ := x
       obtain ⟨y1, y2, y3⟩ := y
       simp only at e1 e2 e3
       rw [e1, e2, e3]
     rw [h4]
     repeat (first | refine zD (zE rfl) ?_ | refine zB ?_ | refine zA ?_ | refine zG ?_ | refine zC rfl ?_ | refine zf rfl ?_ | refine zH ?_ | refine zQ ?_ | refine zo ?_ | refine zAf ?_)
     refine zR hR rfl ?_
     have : ¬ a = b := by rintro rfl; exact h3 rfl
     simp [zA1, this]
 · have hk' : k = a.length := by omega
   subst hk'
   rw [List.take_length, hab, List.take_length] at heq
   repeat (first | refine zD (zE rfl) ?_ | refine zB ?_ | refine zA ?_ | refine zG ?_ | refine zC rfl ?_ | refine zx ?_ | refine zW ?_ | refine zX ?_ | refine zi ?_ | refine zH ?_)
   refine zR hR rfl ?_
   simp [zA1, heq]
theorem seven {d : Nat} (h : d < 7) : d = 0 ∨ d = 1 ∨ d = 2 ∨ d = 3 ∨ d = 4 ∨ d = 5 ∨ d = 6 := by omega
theorem zFN : zk Tryz.prog 105 [] (.ro (z7 zBq) 0 7) := by
 refine zV.value0 (zN (P := Tryz.prog) (fn := Tryz.f105) rfl rfl (by kernel_rfl) rfl (fun c hR hfix => ?_)) (fix := fun _ => False) (fun _ h => h) rfl rfl
 repeat (first | refine zD (zE rfl) ?_ | refine zB ?_ | refine zA ?_ | refine zG ?_ | refine zC rfl ?_ | refine zD (zAa rfl rfl rfl rfl rfl rfl) ?_ | refine zS rfl rfl rfl rfl rfl rfl rfl rfl rfl rfl rfl ?_)
 refine zAv 0 (.ro (z7 zBq) 0 7) rfl (AEq.ro_in rfl (fun d j hd hj => ?_)) ?_
 · have hj : j < 6 := hj
   have hj3 : j = 0 ∨ j = 1 ∨ j = 2 ∨ j = 3 ∨ j = 4 ∨ j = 5 := by omega
   rcases seven hd with rfl | rfl | rfl | rfl | rfl | rfl | rfl <;> rcases hj3 with rfl | rfl | rfl | rfl | rfl | rfl <;> first | exact AEq.rfl' | exact AEq.nil
 repeat (refine zH ?_)
 exact zR hR rfl rfl
theorem half_ok (n : Int) : zk Tryz.prog 107 [.int .i64 n] (.ro (zBX (zJq n)) 0 1) := by
 refine zV.value0 (zN (P := Tryz.prog) (fn := Tryz.f107) rfl rfl (by kernel_rfl) rfl (fun c hR hfix => ?_)) (fix := fun _ => False) (fun _ h => h) rfl rfl
 repeat (first | refine zD (zF rfl) ?_ | refine zD (zE rfl) ?_ | refine zB ?_ | refine zA ?_ | refine zG ?_ | refine zC rfl ?_ | refine zD (zAa rfl rfl rfl rfl rfl rfl) ?_ | refine zS rfl rfl rfl rfl rfl rfl rfl rfl rfl rfl rfl ?_)
 refine zAv 2 (.ro (zBX (zJq n)) 0 1) rfl (AEq.ro_in rfl (fun d j hd hj => ?_)) ?_
 · have hj : j < 2 := hj
   have hj3 : j = 0 ∨ j = 1 := by omega
   obtain rfl : d = 0 := by omega
   rcases hj3 with rfl | rfl <;> exact AEq.rfl'
 repeat (refine zH ?_)
 exact zR hR rfl rfl
end Go.Proofs.YtgmleamhjnlknaaGreatDoor
namespace Go.Proofs.YtgmleamhjnlknaaGreatDoor
open Go.Ax Go.Ax.Bg Go.Ax.Rt Go.RowKit Go.Ax.Idx Go.Ax.Cd
attribute [local irreducible] Ax zAV QOp zV zAJ
set_option maxRecDepth 100000
set_option maxHeartbeats 4000000
theorem zI8 : ShortT zBq := ⟨by decide, fun n hn => by
 simp only [zBq, List.mem_cons, List.not_mem_nil, or_false] at hn
 rcases hn with rfl | rfl | rfl | rfl | rfl | rfl | rfl <;> exact ⟨by decide, by decide, by decide, by decide⟩⟩
theorem hShort : ShortS (zJq 3) := ⟨by decide, fun c hc => by
 rw [List.mem_singleton.1 hc]; exact ⟨by decide, by decide⟩⟩
theorem fine4 : zk Tryz.prog 29 [.ro (.ints .i64 [0, 0, 0, 0]) 0 4] (.bool true) := fineI [0, 0, 0, 0] (by decide)
theorem zH6 : zk Tryz.prog 43 [] (.bool true) := by
 have c1 := zKo zBq 0 zI8
 rw [show zJj zBq 0 = (true, 0) by unfold zJj; rw [if_neg (by rw [g_check 0 (.inl rfl)]; exact fun h => h rfl), g_perf0]] at c1
 have c2 := zGA zBq 1 zI8
 rw [g_seqs] at c2
 have c3 := at_ok zBq 1 zI8
 rw [g_plan1, if_neg (by decide), g_pos] at c3
 have c4 := zLc zBq 1 (zJq 3) zI8 hShort
 rw [g_planR] at c4
 have c5 := zGv zBq 1 [] (by decide) ⟨by decide, fun c hc => by simp at hc⟩
 rw [g_strat0] at c5
 have c5' : zk Tryz.prog 110 [.ro (z7 zBq) 0 7, .int .i64 1, .nil] (.int .i64 3) := fun H => zV.args (c5 H) ⟨AEq.rfl', AEq.rfl', AEq.nil, trivial⟩
 have v1 := equalS [zAn, ⟨3, 0, 0⟩, ⟨3, 1, 0⟩] [zAn, ⟨3, 0, 0⟩, ⟨3, 1, 0⟩] (by decide) (by decide)
 have v2 := equalI [0, 0, 0, 1, 2, 1, 2] [0, 0, 0, 1, 2, 1, 2] (by decide) (by decide)
 have v3 := equalV [[49], [49, 47, 50], [49, 47, 50]] [[49], [49, 47, 50], [49, 47, 50]] (by decide) (by decide)
 rw [decide_eq_true rfl] at v1 v2 v3
 refine zV.value0 (zN (P := Tryz.prog) (fn := Tryz.f43) rfl rfl (by kernel_rfl) rfl (fun c hR hfix => ?_)) (fix := fun _ => False) (fun _ h => h) rfl rfl
 repeat (first | refine zD (zE rfl) ?_ | refine zB ?_ | refine zA ?_ | refine zG ?_ | refine zC rfl ?_)
 refine zM rfl rfl rfl zFN ?_
 skip
 refine zM rfl rfl rfl c1 ?_
 repeat (first | refine zD (zF rfl) ?_ | refine zD (zE rfl) ?_ | refine zB ?_ | refine zA ?_ | refine zG ?_ | refine zC rfl ?_ | refine zD (zz rfl rfl) ?_)
 refine zM rfl rfl rfl zFN ?_
 skip
 refine zM rfl rfl rfl c2 ?_
 repeat (first | refine zD (zF rfl) ?_ | refine zD (zE rfl) ?_ | refine zB ?_ | refine zA ?_ | refine zG ?_ | refine zC rfl ?_ | refine zD (zz rfl rfl) ?_)
 refine zM rfl rfl rfl zFN ?_
 skip
 refine zM rfl rfl rfl c3 ?_
 repeat (first | refine zD (zF rfl) ?_ | refine zD (zE rfl) ?_ | refine zB ?_ | refine zA ?_ | refine zG ?_ | refine zC rfl ?_ | refine zD (zz rfl rfl) ?_)
 refine zM rfl rfl rfl zFN ?_
 skip
 refine zM rfl rfl rfl (half_ok 3) ?_
 skip
 refine zM rfl rfl rfl c4 ?_
 unfold vecP
 repeat (first | refine zD (zF rfl) ?_ | refine zD (zE rfl) ?_ | refine zB ?_ | refine zA ?_ | refine zG ?_ | refine zC rfl ?_ | refine zD (zz rfl rfl) ?_ | refine zS rfl rfl rfl rfl rfl rfl rfl rfl rfl rfl rfl ?_)
 refine zM rfl rfl rfl fine4 ?_
 repeat (first | refine zD (zF rfl) ?_ | refine zj rfl rfl ?_ | refine zD (zr rfl rfl) ?_ | refine zD (zAa rfl rfl rfl rfl rfl rfl) ?_ | refine zS rfl rfl rfl rfl rfl rfl rfl rfl rfl rfl rfl ?_)
 refine zU 44 (.ro (zBG [zAn, ⟨3, 0, 0⟩, ⟨3, 1, 0⟩]) 0 3) rfl (AEq.ro rfl (fun d j hd hj => ?_)) ?_
 · have hd2 : d = 0 ∨ d = 1 ∨ d = 2 := by omega
   have hj3 : j = 0 ∨ j = 1 ∨ j = 2 := by have hj : j < 3 := hj; omega
   rcases hd2 with rfl | rfl | rfl <;> rcases hj3 with rfl | rfl | rfl <;> rfl
 refine zM rfl rfl rfl v1 ?_
 repeat (first | refine zD (zF rfl) ?_ | refine zj rfl rfl ?_ | refine zD (zr rfl rfl) ?_ | refine zS rfl rfl rfl rfl rfl rfl rfl rfl rfl rfl rfl ?_)
 refine zM rfl rfl rfl v2 ?_
 repeat (first | refine zD (zF rfl) ?_ | refine zj rfl rfl ?_ | refine zD (zr rfl rfl) ?_ | refine zS rfl rfl rfl rfl rfl rfl rfl rfl rfl rfl rfl ?_)
 refine zM rfl rfl rfl v3 ?_
 repeat (first | refine zD (zF rfl) ?_ | refine zj rfl rfl ?_ | refine zD (zr rfl rfl) ?_)
 refine zM rfl rfl rfl zFN ?_
 repeat (refine zj rfl rfl ?_)
 refine zM rfl rfl rfl c5' ?_
 repeat (first | refine zD (zE rfl) ?_ | refine zB ?_ | refine zA ?_ | refine zj rfl rfl ?_ | refine zH ?_ | refine zD (zA0 rfl rfl) ?_ | refine zD (zr rfl rfl) ?_)
 exact zR hR rfl rfl
end Go.Proofs.YtgmleamhjnlknaaGreatDoor
namespace Go.Proofs.YtgmleamhjnlknaaGreatDoor
open Go.Ax Go.Ax.Bg Go.Ax.Rt Go.RowKit Go.Ax.Idx Go.Ax.Cd
attribute [local irreducible] Ax zAV QOp zV zAJ
set_option maxRecDepth 100000
set_option maxHeartbeats 4000000
def metL (t : zAD) (p : Int) (i : Nat) : List Int := ((t.take i).filter (own p)).map TNode.info
end Go.Proofs.YtgmleamhjnlknaaGreatDoor
namespace Go.Proofs.YtgmleamhjnlknaaGreatDoor
open Go.Ax Go.Ax.Bg Go.Ax.Rt Go.RowKit Go.Ax.Idx Go.Ax.Cd
attribute [local irreducible] Ax zAV QOp zV zAJ
set_option maxRecDepth 100000
set_option maxHeartbeats 4000000
theorem zJI (c : TChoice) (j h : Nat) (hj : j < 2) : ((cellsC c).getD j .any).forget h = (cellsC c).getD j .any := by
 match j, hj with
 | 0, _ => rfl
 | 1, _ => rfl
theorem zEj (s : zBf) : zAO (zBX s) := by
 intro i j _ hj
 have hj : j < 2 := hj
 match j, hj with
 | 0, _ => rfl
 | 1, _ => rfl
theorem growC (n : Int) (h0 : 0 ≤ n) (h1 : n ≤ 1000000) : zIp Tryz.prog 164 [.nil, .int .i64 n] (fun N => .sl N 0 0) ⟨176, zBX []⟩ := by
 refine zV.fresh (K := fun r H => r = .sl 0 0 0 ∧ H = [some ⟨176, zBX []⟩]) (zN (P := Tryz.prog) (fn := Tryz.f164) rfl rfl (by kernel_rfl) rfl (fun c hR hfix => ?_)) (fix := fun _ => False) (fun _ h => h) rfl (fun H => ⟨rfl, by simp [zGV, inB]⟩) ?_
 · repeat (first | refine zD (zF rfl) ?_ | refine zD (zE rfl) ?_ | refine zB ?_ | refine zA ?_ | refine zG ?_ | refine zC rfl ?_ | refine zD (zAQ rfl rfl) ?_)
   refine zK rfl (fun h => absurd h (by omega)) (fun h => ?_)
   repeat (first | refine zD (zF rfl) ?_ | refine zD (zE rfl) ?_ | refine zB ?_ | refine zA ?_ | refine zG ?_ | refine zC rfl ?_ | refine zP ?_ | refine zD (zBU rfl rfl) ?_ | refine zD (zw rfl rfl rfl) ?_ | refine zD (zBa rfl rfl (by omega)) ?_ | refine zD (zJo rfl rfl) ?_)
   refine zK rfl (fun h => ?_) (fun h => ?_)
   rotate_left
   · repeat (first | refine zD (zF rfl) ?_ | refine zD (zE rfl) ?_ | refine zB ?_ | refine zA ?_ | refine zG ?_ | refine zC rfl ?_ | refine zP ?_)
     refine zBn 4 ⟨176, zBX []⟩ rfl rfl ?_
     repeat (refine zH ?_)
     exact zR hR rfl ⟨rfl, rfl⟩
   repeat (first | refine zD (zF rfl) ?_ | refine zC rfl ?_ | refine zD (zJo rfl rfl) ?_ | refine zD (zKt rfl rfl rfl rfl rfl rfl rfl) ?_)
   refine ax_growz rfl rfl rfl rfl rfl rfl rfl rfl rfl (by show 0 < _ ∧ _ * 32 ≤ _ ∧ _; omega) ?_
   repeat (first | refine zD (zF rfl) ?_ | refine zD (zw rfl rfl rfl) ?_)
   refine zD (zGs rfl rfl rfl rfl rfl rfl rfl rfl (by omega)) ?_
   refine zF5 0 (zBX []) rfl ⟨Nat.zero_le _, rfl, fun i j hi => absurd hi (Nat.not_lt_zero _)⟩ ?_
   repeat (first | refine zD (zF rfl) ?_ | refine zD (zE rfl) ?_ | refine zB ?_ | refine zA ?_ | refine zG ?_ | refine zC rfl ?_ | refine zH ?_)
   exact zR hR rfl ⟨rfl, rfl⟩
 · rintro r H ⟨rfl, rfl⟩
   refine ⟨?_, fun h o ho => zGp (zEj _) h o ho, 0, rfl, fun n => rfl⟩
   intro o ho; simp at ho; subst ho; exact Nat.zero_le _
def cellL (s : zBf) : List AV := [.ro (zBX s) 0 s.length]
abbrev zGb (l : List zBf) : Cells := zCN [] 1 cellL l
def zCD (ls : List zBf) : Int := (ls.map fun l => (l.length : Int)).sum
theorem zGH (ls : List zBf) (k : Nat) (h : k < ls.length) : zCD (ls.take (k + 1)) = zCD (ls.take k) + ((ls.getD k []).length : Int) := by
 unfold zCD
 rw [zAU ls [] k h, List.map_append, List.sum_append]
 simp
theorem zBi (ls : List zBf) : zCD ls = (ls.flatten.length : Int) := by
 induction ls with
 | nil => rfl
 | cons l r ih => unfold zCD at ih ⊢; simp [ih]
theorem zEW (ls : List zBf) (k : Nat) : 0 ≤ zCD (ls.take k) ∧ zCD (ls.take k) ≤ zCD ls := by
 have h : ls.flatten = (ls.take k).flatten ++ (ls.drop k).flatten := by rw [← List.flatten_append, List.take_append_drop]
 rw [zBi, zBi, h, List.length_append]; omega
theorem zID (ls : List zBf) (k : Nat) (h : k < ls.length) : (ls.take (k + 1)).flatten = (ls.take k).flatten ++ ls.getD k [] := by
 rw [zAU ls [] k h, List.flatten_append]; simp
theorem concatC (ls : List zBf) (hlen : ls.length ≤ 1000000) (hs : zCD ls ≤ 1000000) :
   zIp Tryz.prog 120 [.ro (zGb ls) 0 ls.length] (fun N => .sl N 0 ls.flatten.length) ⟨176, zBX ls.flatten⟩ := by
 refine zV.fresh (K := fun r H => r = .sl 0 0 ls.flatten.length ∧ H = [some ⟨176, zBX ls.flatten⟩]) (zN (P := Tryz.prog) (fn := Tryz.f120) rfl rfl (by kernel_rfl) rfl (fun c hR hfix => ?_)) (fix := fun _ => False) (fun _ h => h) rfl (fun H => ⟨rfl, by simp [zGV, inB]⟩) ?_
 · repeat (first | refine zD (zF rfl) ?_ | refine zD (zE rfl) ?_ | refine zB ?_ | refine zA ?_ | refine zG ?_ | refine zC rfl ?_ | refine zT ?_ | refine zD (zw rfl rfl rfl) ?_)
   refine zAC (ι := Nat) (fun k => [(0, .ro (zGb ls) 0 ls.length), (3, .int .i64 (zCD (ls.take k))), (9, .ro (zGb ls) 0 ls.length), (10, .int .i64 (ls.length : Nat)), (11, .int .i64 (k : Nat))]) (fun _ => [])
     (fun k => k ≤ ls.length) (fun k => ls.length - k) 0 ⟨⟨rfl, rfl, rfl, rfl, rfl, trivial⟩, rfl, Nat.zero_le _⟩ ?_
   intro k hk
   repeat (first | refine zB ?_ | refine zA ?_ | refine zG ?_ | refine zC rfl ?_ | refine zD (zAQ rfl rfl) ?_)
   refine zK rfl (fun h1 => ?_) (fun h1 => ?_)
   · have hk' : k < ls.length := by omega
     have hsum := zGH ls k hk'
     have hb := zEW ls (k + 1)
     have hb0 := zEW ls k
     repeat (first | refine zD (zF rfl) ?_ | refine zD (zE rfl) ?_ | refine zB ?_ | refine zA ?_ | refine zG ?_ | refine zC rfl ?_ | refine zT ?_ | refine zP ?_ | refine zD (zBD rfl rfl rfl rfl) ?_ | refine zD (zAQ rfl rfl) ?_ | refine zD (zw rfl rfl rfl) ?_ | refine zD (zAK rfl rfl (by omega)) ?_ | refine zD (zY rfl rfl rfl rfl (by first | (simp only [Nat.zero_add, Int.toNat_natCast, Int.toNat_zero]; exact rfl) | exact rfl) (by omega)) ?_)
     refine zK rfl (fun h2 => absurd h2 (by omega)) (fun h2 => ?_)
     repeat (first | refine zD (zF rfl) ?_ | refine zB ?_ | refine zA ?_ | refine zC rfl ?_ | refine zZ ?_ | refine zP ?_ | refine zD (zAK rfl rfl (by omega)) ?_)
     exact zd ⟨k + 1, by omega, by omega, ⟨rfl, by rw [hsum]; rfl, rfl, rfl, rfl, trivial⟩, rfl⟩
   · have hk' : k = ls.length := by omega
     subst hk'
     simp only [List.take_length] at *
     have hfl := zBi ls
     repeat (first | refine zD (zF rfl) ?_ | refine zA ?_ | refine zG ?_ | refine zC rfl ?_ | refine zx ?_ | refine zW ?_ | refine zX ?_ | refine zi ?_)
     refine zB9 rfl rfl rfl (growC (zCD ls) (by omega) hs) ?_
     repeat (first | refine zD (zF rfl) ?_ | refine zD (zE rfl) ?_ | refine zB ?_ | refine zA ?_ | refine zG ?_ | refine zC rfl ?_ | refine zT ?_ | refine zD (zw rfl rfl rfl) ?_)
     refine zAC (ι := Nat) (fun k => [(6, .sl 0 0 (ls.take k).flatten.length), (25, .ro (zGb ls) 0 ls.length), (26, .int .i64 (ls.length : Nat)), (27, .int .i64 (k : Nat))]) (fun k => [some ⟨176, zBX (ls.take k).flatten⟩])
       (fun k => k ≤ ls.length) (fun k => ls.length - k) 0 ⟨⟨rfl, rfl, rfl, rfl, trivial⟩, rfl, Nat.zero_le _⟩ ?_
     intro k hk
     repeat (first | refine zB ?_ | refine zA ?_ | refine zG ?_ | refine zC rfl ?_ | refine zD (zAQ rfl rfl) ?_)
     refine zK rfl (fun h1 => ?_) (fun h1 => ?_)
     · have hk' : k < ls.length := by omega
       have hfs := zID ls k hk'
       have hb := zEW ls (k + 1)
       have hsl := zGH ls k hk'
       have hb0 := zEW ls k
       have hfl0 := zBi (ls.take k)
       repeat (first | refine zD (zF rfl) ?_ | refine zD (zE rfl) ?_ | refine zB ?_ | refine zA ?_ | refine zG ?_ | refine zC rfl ?_ | refine zT ?_ | refine zP ?_ | refine zD (zBD rfl rfl rfl rfl) ?_ | refine zD (zY rfl rfl rfl rfl (by first | (simp only [Nat.zero_add, Int.toNat_natCast, Int.toNat_zero]; exact rfl) | exact rfl) (by omega)) ?_)
       refine zAE rfl rfl rfl rfl rfl rfl rfl rfl rfl rfl rfl rfl (by show 0 + (ls.getD k []).length ≤ (ls.getD k []).length; omega) rfl (by show ((ls.take k).flatten.length + (ls.getD k []).length) * 32 ≤ _ ∧ _; omega) ?_ (by rw [hfix]; exact fun h => h) ?_
       · intro i' j' hi' hj'
         have q := (zGQ ch0 2 cellsC (ls.take k).flatten (ls.getD k [])).2.2 i' j' hi' hj'
         exact (congrArg (AV.forget 0) q.symm).trans ((zJI _ j' 0 hj').trans q)
       refine zA5 [some ⟨176, zBX (ls.take (k + 1)).flatten⟩] ?_ ?_
       · rw [hfs]
         exact zAk.eqv (zGQ ch0 2 cellsC (ls.take k).flatten (ls.getD k [])) zAk.nil
       repeat (first | refine zD (zF rfl) ?_ | refine zD (zE rfl) ?_ | refine zB ?_ | refine zA ?_ | refine zC rfl ?_ | refine zZ ?_ | refine zD (zAK rfl rfl (by omega)) ?_)
       refine zd ⟨k + 1, by omega, by omega, ⟨?_, rfl, rfl, rfl, trivial⟩, rfl⟩
       show some (AV.sl 0 0 ((ls.take k).flatten.length + (ls.getD k []).length)) = _
       rw [hfs, List.length_append]
     · have hk' : k = ls.length := by omega
       subst hk'
       simp only [List.take_length] at *
       repeat (first | refine zD (zF rfl) ?_ | refine zD (zE rfl) ?_ | refine zB ?_ | refine zA ?_ | refine zG ?_ | refine zC rfl ?_ | refine zx ?_ | refine zW ?_ | refine zX ?_ | refine zi ?_ | refine zH ?_)
       exact zR hR rfl ⟨rfl, rfl⟩
 · rintro r H ⟨rfl, rfl⟩
   refine ⟨?_, fun h o ho => zGp (zEj _) h o ho, 0, rfl, fun n => rfl⟩
   intro o ho; simp at ho; subst ho; show 0 + ls.flatten.length ≤ ls.flatten.length; omega
theorem zK7 (l : zBf) (g : FuncId) (caps : List AV) (p : TChoice → Bool) (hc : noRef.noRefs caps = true) (hlen : l.length ≤ 9223372036854775807) (hp : ∀ x ∈ l, zk Tryz.prog g ([.agg (cellsC x)] ++ caps) (.bool (p x))) :
   zk Tryz.prog 163 [.ro (zBX l) 0 l.length, .fn g caps] (.int .i64 (zCa p l)) := by
 refine zV.value0 (zN (P := Tryz.prog) (fn := Tryz.f163) rfl rfl (by kernel_rfl) rfl (fun c hR hfix => ?_)) (fix := fun _ => False) (fun _ h => h) (by simp [noRef.noRefs, noRef, hc]) rfl
 repeat (first | refine zD (zF rfl) ?_ | refine zD (zE rfl) ?_ | refine zB ?_ | refine zA ?_ | refine zG ?_ | refine zC rfl ?_ | refine zT ?_ | refine zD (zw rfl rfl rfl) ?_)
 refine zAC (ι := Nat) (fun k => [(0, .ro (zBX l) 0 l.length), (1, .fn g caps), (7, .int .i64 (l.length : Nat)), (8, .int .i64 (k : Nat))]) (fun _ => [])
   (fun k => k ≤ l.length ∧ (l.take k).any p = false) (fun k => l.length - k) 0 ⟨⟨rfl, rfl, rfl, rfl, trivial⟩, rfl, Nat.zero_le _, rfl⟩ ?_
 intro k ⟨hk, hany⟩
 repeat (first | refine zB ?_ | refine zA ?_ | refine zG ?_ | refine zC rfl ?_ | refine zD (zAQ rfl rfl) ?_)
 refine zK rfl (fun h => ?_) (fun h => ?_)
 · have hk' : k < l.length := by omega
   have hanys := zCA p l ch0 k hk'
   repeat (first | refine zD (zF rfl) ?_ | refine zD (zE rfl) ?_ | refine zB ?_ | refine zA ?_ | refine zG ?_ | refine zC rfl ?_ | refine zT ?_ | refine zP ?_ | refine zD (zY rfl rfl rfl rfl (by first | (simp only [Nat.zero_add, Int.toNat_natCast, Int.toNat_zero]; exact rfl) | exact rfl) (by omega)) ?_ | refine zD (zAS rfl rfl rfl rfl rfl rfl) ?_)
   refine zU 15 (.agg (cellsC (l.getD k ch0))) rfl (AEq.of_eq rfl) ?_
   refine zM rfl rfl rfl (hp _ (zA6 ch0 hk')) ?_
   repeat (first | refine zB ?_ | refine zA ?_)
   refine zCv rfl (fun h2 => ?_) (fun h2 => ?_)
   · repeat (first | refine zD (zF rfl) ?_ | refine zD (zE rfl) ?_ | refine zB ?_ | refine zA ?_ | refine zG ?_ | refine zC rfl ?_ | refine zH ?_ | refine zQ ?_ | refine zo ?_ | refine zAf ?_)
     refine zR hR rfl ?_
     have := zBo p l k hany hk
     rw [zBm l ch0 k hk'] at this
     simp only [zCa, h2, if_true] at this
     rw [this]; simp [zA1]
   · repeat (first | refine zD (zF rfl) ?_ | refine zB ?_ | refine zA ?_ | refine zC rfl ?_ | refine zZ ?_ | refine zP ?_ | refine zD (zAK rfl rfl (by omega)) ?_)
     refine zd ⟨k + 1, ⟨by omega, by rw [hanys, hany, h2]; rfl⟩, by omega, ⟨rfl, rfl, rfl, rfl, trivial⟩, rfl⟩
 · have hk' : k = l.length := by omega
   subst hk'
   repeat (first | refine zD (zE rfl) ?_ | refine zB ?_ | refine zA ?_ | refine zG ?_ | refine zC rfl ?_ | refine zx ?_ | refine zW ?_ | refine zX ?_ | refine zi ?_ | refine zH ?_)
   refine zR hR rfl ?_
   have := zBo p l l.length hany hk
   rw [List.drop_length] at this
   rw [this]; rfl
theorem zME (l : zBf) (g : FuncId) (caps : List AV) (p : TChoice → Bool) (hc : noRef.noRefs caps = true) (hlen : l.length ≤ 9223372036854775807) (hp : ∀ x ∈ l, zk Tryz.prog g ([.agg (cellsC x)] ++ caps) (.bool (p x))) :
   zk Tryz.prog 119 [.ro (zBX l) 0 l.length, .fn g caps] (.bool (l.any p)) := by
 refine zV.value0 (zN (P := Tryz.prog) (fn := Tryz.f119) rfl rfl (by kernel_rfl) rfl (fun c hR hfix => ?_)) (fix := fun _ => False) (fun _ h => h) (by simp [noRef.noRefs, noRef, hc]) rfl
 repeat (first | refine zD (zF rfl) ?_ | refine zD (zE rfl) ?_ | refine zB ?_ | refine zA ?_ | refine zG ?_ | refine zC rfl ?_)
 refine zM rfl rfl rfl (zK7 l g caps p hc hlen hp) ?_
 repeat (first | refine zD (zE rfl) ?_ | refine zB ?_ | refine zA ?_ | refine zH ?_ | refine zD (zC2 rfl rfl) ?_)
 refine zR hR rfl ?_
 simp only [zA1, zEz]
def zJV (c : TChoice) : Bool := c.odds.any (fun s => decide (12 < (s.length : Int)))
theorem plain11 (s : zAZ) (hs : s.length ≤ 9223372036854775807) : zk Tryz.prog 123 [.str s] (.bool (decide (12 < (s.length : Int)))) := by
 refine zV.value0 (zN (P := Tryz.prog) (fn := Tryz.f123) rfl rfl (by kernel_rfl) rfl (fun c hR hfix => ?_)) (fix := fun _ => False) (fun _ h => h) rfl rfl
 repeat (first | refine zD (zF rfl) ?_ | refine zD (zE rfl) ?_ | refine zB ?_ | refine zA ?_ | refine zG ?_ | refine zC rfl ?_ | refine zH ?_ | refine zD (zBU rfl rfl) ?_ | refine zD (zAl rfl rfl) ?_)
 exact zR hR rfl rfl
theorem plain1 (c : TChoice) (hc : ShortC c) : zk Tryz.prog 121 [.agg (cellsC c)] (.bool (zJV c)) := by
 obtain ⟨h1, h2⟩ := hc
 have cc := zIK c.odds 123 [] (fun s => decide (12 < (s.length : Int))) rfl h1 (fun s hs => plain11 s (h2 s hs))
 refine zV.value0 (zN (P := Tryz.prog) (fn := Tryz.f121) rfl rfl (by kernel_rfl) rfl (fun c hR hfix => ?_)) (fix := fun _ => False) (fun _ h => h) rfl rfl
 obtain ⟨nf, od⟩ := c
 unfold zJV at hR
 unfold cellsC
 simp only at *
 repeat (first | refine zD (zE rfl) ?_ | refine zB ?_ | refine zA ?_ | refine zG ?_ | refine zC rfl ?_ | refine zD (zI rfl rfl rfl rfl rfl) ?_ | refine zD (zL rfl rfl rfl rfl rfl rfl) ?_ | refine zA8 rfl rfl ?_)
 refine zM rfl rfl rfl cc ?_
 repeat (first | refine zD (zE rfl) ?_ | refine zB ?_ | refine zA ?_ | refine zH ?_)
 exact zR hR rfl rfl
def zIu (ls : List zBf) : Bool := !(ls.flatten.any zJV)
theorem plain_ok (ls : List zBf) (hlen : ls.length ≤ 1000000) (hs : zCD ls ≤ 1000000) (hc : ∀ s ∈ ls, ∀ c ∈ s, ShortC c) : zk Tryz.prog 49 [.ro (zGb ls) 0 ls.length] (.bool (zIu ls)) := by
 have hfl := zBi ls
 have cc := zME ls.flatten 121 [] zJV rfl (by omega) (fun c hm => by
   obtain ⟨s, h1, h2⟩ := List.mem_flatten.1 hm
   exact plain1 c (hc s h1 c h2))
 refine zV.value0 (zN (P := Tryz.prog) (fn := Tryz.f49) rfl rfl (by kernel_rfl) rfl (fun c hR hfix => ?_)) (fix := fun _ => False) (fun _ h => h) rfl rfl
 unfold zIu at hR
 repeat (first | refine zD (zF rfl) ?_ | refine zD (zE rfl) ?_ | refine zB ?_ | refine zA ?_ | refine zG ?_ | refine zC rfl ?_)
 refine zB9 rfl rfl rfl (concatC ls hlen hs) ?_
 skip
 refine zEs rfl rfl rfl rfl cc (zGp (o1 := ⟨176, zBX ls.flatten⟩) (zEj _)) ⟨fun o ho => by simp at ho; subst ho; show 0 + ls.flatten.length ≤ ls.flatten.length; omega, trivial, trivial⟩ rfl rfl rfl ?_
 repeat (first | refine zD (zE rfl) ?_ | refine zB ?_ | refine zA ?_ | refine zH ?_ | refine zD (zAw rfl) ?_)
 exact zR hR rfl rfl
end Go.Proofs.YtgmleamhjnlknaaGreatDoor
namespace Go.Proofs.YtgmleamhjnlknaaGreatDoor
open Go.Ax Go.Ax.Bg Go.Ax.Rt Go.RowKit Go.Ax.Idx Go.Ax.Cd
attribute [local irreducible] Ax zAV QOp zV zAJ
set_option maxRecDepth 100000
set_option maxHeartbeats 4000000
def factT : List (List zAZ) := [[[49], [48]], [[51], [48]]]
end Go.Proofs.YtgmleamhjnlknaaGreatDoor
namespace Go.Proofs.YtgmleamhjnlknaaGreatDoor
open Go.Ax Go.Ax.Idx
attribute [local irreducible] Ax zAV QOp zV
set_option maxRecDepth 100000
set_option maxHeartbeats 4000000
def zJi (a n : Int) : Int := IntKind.u64.wrap a % n
theorem pickF_bd (a n : Int) (hn : 0 < n) : 0 ≤ zJi a n ∧ zJi a n < n := ⟨Int.emod_nonneg _ (by omega), Int.emod_lt_of_pos _ hn⟩
theorem pick (a n : Int) (hn : 0 < n ∧ n ≤ 1000000) : zk Tryz.prog 17 [.int .i64 a, .int .i64 n] (.int .i64 (zJi a n)) := by
 refine zV.value0 (zN (P := Tryz.prog) (fn := Tryz.f17) rfl rfl (by kernel_rfl) rfl (fun c hR hfix => ?_)) (fix := fun _ => False) (fun _ h => h) rfl rfl
 have hw : 0 ≤ IntKind.u64.wrap a := by rw [IntKind.wrap_u64]; omega
 have hwn : IntKind.u64.wrap n = n := by rw [IntKind.wrap_u64]; omega
 have hb := pickF_bd a n hn.1
 repeat (first | refine zD (zF rfl) ?_ | refine zD (zE rfl) ?_ | refine zB ?_ | refine zA ?_ | refine zG ?_ | refine zC rfl ?_)
 refine zD (zHY (k' := .u64) rfl rfl rfl) ?_
 repeat (refine zD (zF rfl) ?_)
 refine zD (zHY (k' := .u64) rfl rfl rfl) ?_
 rw [hwn]
 generalize hz : IntKind.u64.wrap a = z at *
 have hpf : zJi a n = z % n := by unfold zJi; rw [hz]
 refine zD (q_rem rfl rfl (by omega)) ?_
 rw [← hpf]
 refine zD (zDo rfl rfl rfl (by omega)) ?_
 repeat (first | refine zD (zE rfl) ?_ | refine zB ?_ | refine zA ?_ | refine zH ?_)
 exact zR hR rfl rfl
end Go.Proofs.YtgmleamhjnlknaaGreatDoor
namespace Go.Proofs.YtgmleamhjnlknaaGreatDoor
open Go.Ax Go.Ax.Bg Go.Ax.Rt Go.RowKit Go.Ax.Idx Go.Ax.Cd
attribute [local irreducible] Ax zAV QOp zV zAJ
set_option maxRecDepth 100000
set_option maxHeartbeats 4000000
end Go.Proofs.YtgmleamhjnlknaaGreatDoor
namespace Go.Proofs.YtgmleamhjnlknaaGreatDoor
open Go.Ax Go.Ax.Bg Go.Ax.Rt Go.RowKit Go.Ax.Idx Go.Ax.Cd
attribute [local irreducible] Ax zAV QOp zV zAJ
set_option maxRecDepth 100000
set_option maxHeartbeats 4000000
def spos (s : zAZ) : Bool := decide (0 < (signR s).1)
theorem zFv {q : Rat} (h : zBd q = true) : (zAM q).length ≤ 9223372036854775807 := by
 unfold zBd at h
 rw [Bool.and_eq_true, decide_eq_true_eq, decide_eq_true_eq] at h
 unfold zAM
 rw [List.length_append, List.length_append]
 have h1 : (if q.num < 0 then [45] else [] : List UInt8).length ≤ 1 := by split <;> simp
 have h2 : (if q.den = 1 then [] else 47 :: Lib.decDigits q.den : List UInt8).length ≤ 2001 := by
   split
   · simp
   · rw [List.length_cons]; omega
 omega
end Go.Proofs.YtgmleamhjnlknaaGreatDoor
namespace Go.Proofs.YtgmleamhjnlknaaGreatDoor
open Go.Ax Go.Ax.Bg Go.Ax.Rt Go.RowKit Go.Ax.Idx Go.Ax.Cd
attribute [local irreducible] Ax zAV QOp zV zAJ
set_option maxRecDepth 100000
set_option maxHeartbeats 4000000
theorem zJu {l : List Rat} (h : (zAq l).2 ≠ 0) : (zAq l).1 = [] := by
 unfold zAq at *
 split
 · rename_i h1; rw [if_pos h1] at h; exact absurd rfl h
 · rfl
theorem zMO {t : zAD} {p : Int} {s : zBf} (h : (zEl t p s).2 ≠ 0) : (zEl t p s).1 = [] := by
 unfold zEl at *
 split
 · rfl
 split
 · rfl
 rename_i h1 h2
 rw [if_neg h1, if_neg h2] at h
 exact zJu h
theorem zKT {t : zAD} {p : Int} {s : zBf} (h : (zEl t p s).2 = 0) : zEN t p = 0 ∧ zEr t p s = 0 ∧ zEl t p s = ((zBL t p (zBY s)).map zAM, 0) ∧ ∀ q ∈ zBL t p (zBY s), zBd q = true := by
 unfold zEl at h ⊢
 split at h
 · rename_i h1; exact absurd h h1
 split at h
 · rename_i h1; exact absurd h h1
 rename_i h1 h2
 rw [if_neg h1, if_neg h2]
 have hf := zJZ h
 exact ⟨Classical.not_not.1 h1, Classical.not_not.1 h2, zK3 hf, hf⟩
theorem zH8 (t : zAD) (p : Int) (s : zBf) (hT : t.length ≤ 9223372036854775807 ∧ ∀ n ∈ t, ShortN n) (hs : s.length ≤ 9223372036854775807 ∧ ∀ c ∈ s, ShortC c) : zk Tryz.prog 11 [.ro (z7 t) 0 t.length, .int .i64 p, .ro (zBX s) 0 s.length] (.bool true) := by
 have hS : ShortT t := ⟨hT.1, hT.2⟩
 have hSs : ShortS s := ⟨hs.1, hs.2⟩
 have c1 := zLc t p s hS hSs
 have c2 := zGA t p hS
 refine zV.value0 (zN (P := Tryz.prog) (fn := Tryz.f11) rfl rfl (by kernel_rfl) rfl (fun c hR hfix => ?_)) (fix := fun _ => False) (fun _ h => h) rfl rfl
 repeat (first | refine zD (zE rfl) ?_ | refine zB ?_ | refine zA ?_ | refine zG ?_ | refine zC rfl ?_)
 refine zM rfl rfl rfl zH6 ?_
 unfold vecP at c1
 by_cases he : (zEl t p s).2 = 0
 case neg =>
   have hb := zMO he
   generalize zEl t p s = r at *
   obtain ⟨r1, r2⟩ := r
   simp only at hb he c1
   subst hb
   repeat (first | refine zD (zF rfl) ?_ | refine zB ?_ | refine zA ?_ | refine zG ?_ | refine zC rfl ?_ | refine ze rfl ?_ | refine zP ?_ | refine zD (zAw rfl) ?_)
   refine zM rfl rfl rfl c1 ?_
   repeat (first | refine zD (zF rfl) ?_ | refine zD (zE rfl) ?_ | refine zB ?_ | refine zA ?_ | refine zG ?_ | refine zC rfl ?_ | refine zD (zz rfl rfl) ?_)
   refine zM rfl rfl rfl c2 ?_
   repeat (first | refine zD (zF rfl) ?_ | refine zD (zE rfl) ?_ | refine zB ?_ | refine zA ?_ | refine zG ?_ | refine zC rfl ?_ | refine zD (zAb rfl rfl) ?_ | refine zD (zz rfl rfl) ?_)
   refine zAH rfl rfl (fun h => ?_) (fun h => absurd he h)
   repeat (first | refine zD (zF rfl) ?_ | refine zD (zE rfl) ?_ | refine zB ?_ | refine zA ?_ | refine zG ?_ | refine zC rfl ?_ | refine zp rfl rfl rfl ?_ | refine zf rfl ?_ | refine zH ?_ | refine zQ ?_ | refine zD (zA0 rfl rfl) ?_ | refine zD (zr rfl rfl) ?_ | refine zD (zw rfl rfl rfl) ?_)
   exact zR hR rfl rfl
 obtain ⟨hp, hst, hpr, hfit⟩ := zKT he
 rw [hpr] at c1
 rw [show zHP t p = (zt t p, 0) by unfold zHP; rw [if_neg (fun q => q hp)]] at c2
 simp only at c1 c2
 obtain ⟨hv, hpf, hpl⟩ := zEi hp
 have hO := zHT hst
 have hsl : s.length ≤ 10 := by
   have h1 := congrArg List.length hO.infos
   rw [List.length_map] at h1
   have := zH3 t p 10
   rw [zHs] at this
   omega
 have cp := plain_ok [s] (by show 1 ≤ 1000000; decide) (by show ((s.length : Nat) : Int) + 0 ≤ 1000000; omega) (fun x hx => by rw [List.mem_singleton.1 hx]; exact hs.2)
 have hPl : (zBL t p (zBY s)).length = (zt t p).length := zDP _ _ _
 have hfew := zGB hv p
 have h0 := zMY hv p (zBY s)
 have hlaw := fun (h12 : ∀ c ∈ s, ∀ r ∈ c.odds, r.length ≤ 12) (k : Nat) (hk : k < (zt t p).length) => sums_law hv (hO.strat12 h12) hk
 have hn3 := (zAm hv p).2.2.1
 generalize zBL t p (zBY s) = P at *
 generalize zt t p = l at *
 have hptl : (P.map zAM).length = l.length := by rw [List.length_map]; exact hPl
 have hpt : ∀ i, i < l.length → (P.map zAM).getD i [] = zAM (P.getD i 0) := fun i hi => zHc _ _ 0 _ _ (by omega)
 have hps : ∀ i, i < l.length → IsQ (zAM (P.getD i 0)) (P.getD i 0) := fun i hi => zHI (hfit _ (zBp 0 (by omega)))
 have hpss : ∀ i, i < l.length → (zAM (P.getD i 0)).length ≤ 9223372036854775807 := fun i hi => zFv (hfit _ (zBp 0 (by omega)))
 generalize hptd : P.map zAM = pt at *
 repeat (first | refine zD (zF rfl) ?_ | refine zB ?_ | refine zA ?_ | refine zG ?_ | refine zC rfl ?_ | refine ze rfl ?_ | refine zP ?_ | refine zD (zAw rfl) ?_)
 refine zM rfl rfl rfl c1 ?_
 repeat (first | refine zD (zF rfl) ?_ | refine zD (zE rfl) ?_ | refine zB ?_ | refine zA ?_ | refine zG ?_ | refine zC rfl ?_ | refine zD (zz rfl rfl) ?_)
 refine zM rfl rfl rfl c2 ?_
 repeat (first | refine zD (zF rfl) ?_ | refine zD (zE rfl) ?_ | refine zB ?_ | refine zA ?_ | refine zG ?_ | refine zC rfl ?_ | refine zj rfl rfl ?_ | refine ze rfl ?_ | refine zP ?_ | refine zD (zAb rfl rfl) ?_ | refine zD (zr rfl rfl) ?_ | refine zD (zz rfl rfl) ?_ | refine zS rfl rfl rfl rfl rfl rfl rfl rfl rfl rfl rfl ?_)
 refine zU 46 (.ro (zGb [s]) 0 1) rfl (AEq.ro rfl (fun d j hd hj => ?_)) ?_
 · have hd2 : d = 0 := by omega
   have hj3 : j = 0 := by have hj : j < 1 := hj; omega
   subst hd2; subst hj3; rfl
 refine zM rfl rfl rfl cp ?_
 cases hpb : zIu [s]
 · repeat (first | refine zD (zE rfl) ?_ | refine zB ?_ | refine zA ?_ | refine zG ?_ | refine zC rfl ?_ | refine zf rfl ?_ | refine zH ?_ | refine zQ ?_ | refine zD (zAw rfl) ?_)
   exact zR hR rfl rfl
 have h12 : ∀ c ∈ s, ∀ r ∈ c.odds, r.length ≤ 12 := fun c hc r hr => by
   unfold zIu at hpb
   rw [Bool.not_eq_true', List.any_eq_false] at hpb
   have h1 := hpb c (by simpa using hc)
   unfold zJV at h1
   rw [Bool.not_eq_true, List.any_eq_false] at h1
   have := h1 r hr
   simp at this; omega
 have hlaw := hlaw h12
 repeat (first | refine zD (zF rfl) ?_ | refine zB ?_ | refine zA ?_ | refine zG ?_ | refine zC rfl ?_ | refine ze rfl ?_ | refine zP ?_ | refine zD (zAb rfl rfl) ?_ | refine zD (zAw rfl) ?_ | refine zD (zw rfl rfl rfl) ?_)
 refine zAH rfl rfl (fun h => absurd (congrArg (fun n : Nat => (n : Int)) hptl) h) (fun h => ?_)
 have hpl0 : 0 < pt.length := by omega
 repeat (first | refine zD (zF rfl) ?_ | refine zB ?_ | refine zA ?_ | refine zj rfl rfl ?_ | refine zD (zBx rfl rfl rfl) ?_ | refine zD (zr rfl rfl) ?_ | refine zD (zY rfl rfl rfl rfl (by first | (simp only [Nat.zero_add, Int.toNat_natCast, Int.toNat_zero]; exact rfl) | exact rfl) (by omega)) ?_ | refine zD (zCz rfl rfl) ?_)
 refine zK rfl (fun h => absurd (show pt.getD 0 [] = [49] by rw [hpt 0 hn3, h0]; decide +kernel) h) (fun h => ?_)
 repeat (first | refine zD (zF rfl) ?_ | refine zB ?_ | refine zA ?_ | refine zG ?_ | refine zC rfl ?_ | refine zT ?_ | refine zP ?_ | refine zD (zw rfl rfl rfl) ?_)
 refine zAC (ι := Nat) (fun k => [(7, .ro (.strs pt) 0 pt.length), (9, .ro (zBG l) 0 l.length), (60, .ro (zBG l) 0 l.length), (61, .int .i64 (l.length : Nat)), (62, .int .i64 (k : Nat))]) (fun _ => [])
   (fun k => k ≤ l.length) (fun k => l.length - k) 0 ⟨⟨rfl, rfl, rfl, rfl, rfl, trivial⟩, rfl, Nat.zero_le _⟩ ?_
 intro k hk
 repeat (first | refine zB ?_ | refine zA ?_ | refine zG ?_ | refine zC rfl ?_ | refine zD (zAQ rfl rfl) ?_)
 refine zK rfl (fun h2 => ?_) (fun h2 => ?_)
 · have hk' : k < l.length := by omega
   have hlk := hlaw k hk'
   repeat (first | refine zD (zF rfl) ?_ | refine zD (zE rfl) ?_ | refine zA ?_ | refine zG ?_ | refine zC rfl ?_ | refine zT ?_ | refine zP ?_ | refine zD (zY rfl rfl rfl rfl (by first | (simp only [Nat.zero_add, Int.toNat_natCast, Int.toNat_zero]; exact rfl) | exact rfl) (by omega)) ?_ | refine zD (zAS rfl rfl rfl rfl rfl rfl) ?_ | refine z8 rfl rfl rfl ?_)
   refine zU 66 (.agg (zCe (l.getD k zAn))) rfl (AEq.of_eq rfl) ?_
   generalize hq : l.getD k zAn = q at hlk ⊢
   obtain ⟨nf, ch, bf⟩ := q
   simp only at hlk
   refine zl (c' := .box [.int .i64 nf, .int .i64 ch, .int .i64 bf]) rfl rfl rfl rfl rfl Nat.zero_lt_one rfl rfl (fun i' j' hi' hj' => ?_) ?_
   · rw [if_pos (Nat.lt_one_iff.1 hi')]; rfl
   repeat (first | refine zB ?_ | refine zA ?_ | refine zG ?_ | refine zC rfl ?_ | refine zD (zI rfl rfl rfl rfl rfl) ?_ | refine zD (zAb rfl rfl) ?_ | refine zD (zL rfl rfl rfl rfl rfl rfl) ?_)
   refine zK rfl (fun hc => ?_) (fun hc => ?_)
   · repeat (first | refine zx ?_ | refine zW ?_ | refine zX ?_)
     refine zA ?_
     refine zAy [] [some ⟨80, .box [.int .i64 nf, .int .i64 ch, .int .i64 bf]⟩] [(7, .ro (.strs pt) 0 pt.length), (9, .ro (zBG l) 0 l.length), (60, .ro (zBG l) 0 l.length), (61, .int .i64 (l.length : Nat)), (62, .int .i64 (k : Nat))] rfl ⟨rfl, rfl, rfl, rfl, rfl, trivial⟩ (fun h hh => by rw [hfix] at hh; exact absurd hh id) (fun h o ho => by simp at ho) rfl ?_
     repeat (first | refine zD (zF rfl) ?_ | refine zB ?_ | refine zC rfl ?_ | refine zD (zAK rfl rfl (by omega)) ?_)
     exact zd ⟨k + 1, by omega, by omega, ⟨rfl, rfl, rfl, rfl, rfl, trivial⟩, rfl⟩
   have hc := Classical.not_not.1 hc
   subst hc
   obtain ⟨w, b, w1, w2, w3, w4, w5, w6, w7, w8⟩ := hlk rfl
   subst w5
   repeat (first | refine zD (zF rfl) ?_ | refine zD (zE rfl) ?_ | refine zB ?_ | refine zA ?_ | refine zG ?_ | refine zC rfl ?_ | refine zP ?_)
   refine zAv 12 (.ptr 0 0 0) rfl (AEq.of_eq rfl) ?_
   refine zAv 13 (.str (zAM (zCK (fun c => P.getD (k + c) 0) 0))) rfl (AEq.of_eq (by rw [show zAM (zCK (fun c => P.getD (k + c) 0) 0) = [48] from by show zAM 0 = [48]; decide +kernel])) ?_
   refine zCo [some ⟨80, .box [.int .i64 nf, .int .i64 0, .int .i64 (b : Nat)]⟩] rfl ?_
   repeat (refine zT ?_)
   refine zAC (ι := Nat) (fun m => [(7, .ro (.strs pt) 0 pt.length), (9, .ro (zBG l) 0 l.length), (60, .ro (zBG l) 0 l.length), (61, .int .i64 (l.length : Nat)), (62, .int .i64 (k : Nat)), (12, .ptr 0 0 0), (13, .str (zAM (zCK (fun c => P.getD (k + c) 0) m))), (14, .int .i64 ((k + m : Nat) : Int))]) (fun _ => [some ⟨80, .box [.int .i64 nf, .int .i64 0, .int .i64 (b : Nat)]⟩])
     (fun m => m ≤ w) (fun m => w - m) 0 ⟨⟨rfl, rfl, rfl, rfl, rfl, rfl, rfl, rfl, trivial⟩, rfl, Nat.zero_le _⟩ ?_
   intro m hm
   repeat (refine zG ?_)
   by_cases hmw : m < w
   · have hkm : k + m < l.length := by omega
     have hin := w3 m hmw
     refine zAI (by kernel_rfl) ?_
     refine zAR (fuel := 0) [0, 1, 2, 3, 4, 5, 6, 7, 8, 9, 10, 11, 12, 13] [(7, .ro (.strs pt) 0 pt.length), (9, .ro (zBG l) 0 l.length), (60, .ro (zBG l) 0 l.length), (61, .int .i64 (l.length : Nat)), (62, .int .i64 (k : Nat)), (12, .ptr 0 0 0), (13, .str (zAM (zCK (fun c => P.getD (k + c) 0) m))), (14, .int .i64 ((k + m : Nat) : Int))] ⟨rfl, rfl, rfl, rfl, rfl, rfl, rfl, rfl, trivial⟩ (by kernel_rfl) (by decide) rfl rfl ?_
     refine zn rfl rfl (zF rfl) ?_
     refine zn rfl rfl (zF rfl) ?_
     refine zn rfl rfl (zw rfl rfl rfl) ?_
     refine zn rfl rfl (zAQ rfl rfl) ?_
     rw [decide_eq_true (show ((k + m : Nat) : Int) < (l.length : Nat) by omega)]
     refine zn rfl rfl (zF rfl) ?_
     refine zBs rfl rfl rfl rfl (zF rfl) ?_
     refine zBs rfl rfl rfl rfl (zF rfl) ?_
     refine zBs rfl rfl rfl rfl (zY rfl rfl rfl rfl (by first | (simp only [Nat.zero_add, Int.toNat_natCast, Int.toNat_zero]; exact rfl) | exact rfl) (by omega)) ?_
     refine zBs rfl rfl rfl rfl (zDh rfl rfl rfl rfl rfl rfl) ?_
     refine zBs rfl rfl rfl rfl (zBD rfl rfl rfl rfl) ?_
     refine zBs rfl rfl rfl rfl (zL rfl rfl rfl rfl rfl rfl) ?_
     refine zBs rfl rfl rfl rfl (zI rfl rfl rfl rfl rfl) ?_
     refine zBs rfl rfl rfl rfl (zA0 rfl rfl) ?_
     rw [decide_eq_true hin]
     refine zn rfl rfl (zr rfl rfl) ?_
     refine zAs ?_
     refine zAB (by kernel_rfl) ?_
     have ca := radd_ok (zAM (zCK (fun c => P.getD (k + c) 0) m)) (zAM (P.getD (k + m) 0)) (zFv (w7 m (by omega))) (zFv (hfit _ (zBp 0 (by omega))))
     rw [IsQ.two (fun x y => x + y) (zHI (w7 m (by omega))) (hps (k + m) hkm)] at ca
     have e9 : zCK (fun c => P.getD (k + c) 0) m + P.getD (k + m) 0 = zCK (fun c => P.getD (k + c) 0) (m + 1) := rfl
     rw [e9, (zHI (w7 (m + 1) (by omega))).out] at ca
     unfold zIZ at ca
     have hkp : k + m < pt.length := by omega
     have hpk := hpt (k + m) hkm
     generalize hT2 : zAM (zCK (fun c => P.getD (k + c) 0) (m + 1)) = T2 at *
     repeat (first | refine zD (zF rfl) ?_ | refine zA ?_ | refine zG ?_ | refine zC rfl ?_ | refine zf rfl ?_ | refine zT ?_ | refine zP ?_ | refine zD (zBx rfl rfl rfl) ?_ | refine zD (zY rfl rfl rfl rfl (by first | (simp only [Nat.zero_add, Int.toNat_natCast, Int.toNat_zero]; exact rfl) | exact rfl) (by omega)) ?_)
     refine zU 92 (.str (zAM (P.getD (k + m) 0))) rfl (AEq.of_eq (by rw [← hpk])) ?_
     refine zM rfl rfl rfl ca ?_
     repeat (first | refine zD (zF rfl) ?_ | refine zD (zE rfl) ?_ | refine zB ?_ | refine zA ?_ | refine zG ?_ | refine zC rfl ?_ | refine ze rfl ?_ | refine zZ ?_ | refine zP ?_ | refine zD (zAb rfl rfl) ?_ | refine zD (zz rfl rfl) ?_ | refine zD (zAK rfl rfl (by omega)) ?_)
     exact zd ⟨m + 1, by omega, by omega, ⟨rfl, rfl, rfl, rfl, rfl, rfl, by rw [hT2]; rfl, rfl, trivial⟩, rfl⟩
   · have hme : m = w := by omega
     subst hme
     rw [w8]
     have hbp : b < pt.length := by omega
     refine zAI (by kernel_rfl) ?_
     refine zAR (fuel := 0) [0, 1, 2, 3, 4, 5, 6, 7, 8, 9, 10, 11, 12, 13] [(7, .ro (.strs pt) 0 pt.length), (9, .ro (zBG l) 0 l.length), (60, .ro (zBG l) 0 l.length), (61, .int .i64 (l.length : Nat)), (62, .int .i64 (k : Nat)), (12, .ptr 0 0 0), (13, .str (zAM (P.getD b 0))), (14, .int .i64 ((k + m : Nat) : Int))] ⟨rfl, rfl, rfl, rfl, rfl, rfl, rfl, rfl, trivial⟩ (by kernel_rfl) (by decide) rfl rfl ?_
     refine zn rfl rfl (zF rfl) ?_
     refine zn rfl rfl (zF rfl) ?_
     refine zn rfl rfl (zw rfl rfl rfl) ?_
     refine zn rfl rfl (zAQ rfl rfl) ?_
     by_cases hlt : k + m < l.length
     · rw [decide_eq_true (show ((k + m : Nat) : Int) < (l.length : Nat) by omega)]
       refine zn rfl rfl (zF rfl) ?_
       refine zBs rfl rfl rfl rfl (zF rfl) ?_
       refine zBs rfl rfl rfl rfl (zF rfl) ?_
       refine zBs rfl rfl rfl rfl (zY rfl rfl rfl rfl (by first | (simp only [Nat.zero_add, Int.toNat_natCast, Int.toNat_zero]; exact rfl) | exact rfl) (by omega)) ?_
       refine zBs rfl rfl rfl rfl (zDh rfl rfl rfl rfl rfl rfl) ?_
       refine zBs rfl rfl rfl rfl (zBD rfl rfl rfl rfl) ?_
       refine zBs rfl rfl rfl rfl (zL rfl rfl rfl rfl rfl rfl) ?_
       refine zBs rfl rfl rfl rfl (zI rfl rfl rfl rfl rfl) ?_
       refine zBs rfl rfl rfl rfl (zA0 rfl rfl) ?_
       rw [decide_eq_false (w4 hlt)]
       refine zn rfl rfl (zr rfl rfl) ?_
       refine zAs ?_
       refine zAB (by kernel_rfl) ?_
       repeat (first | refine zD (zF rfl) ?_ | refine zB ?_ | refine zA ?_ | refine zG ?_ | refine zC rfl ?_ | refine ze rfl ?_ | refine zx ?_ | refine zW ?_ | refine zX ?_ | refine zi ?_ | refine zD (zBx rfl rfl rfl) ?_ | refine zD (zI rfl rfl rfl rfl rfl) ?_ | refine zD (zY rfl rfl rfl rfl (by first | (simp only [Nat.zero_add, Int.toNat_natCast, Int.toNat_zero]; exact rfl) | exact rfl) (by omega)) ?_ | refine zD (zCz rfl rfl) ?_ | refine zD (zL rfl rfl rfl rfl rfl rfl) ?_)
       refine zK rfl (fun h => absurd (show zAM (P.getD b 0) = pt.getD b [] from (hpt b (by omega)).symm) h) (fun h => ?_)
       repeat (first | refine zZ ?_ | refine zP ?_)
       refine zA ?_
       refine zAy [] [some ⟨80, .box [.int .i64 nf, .int .i64 0, .int .i64 (b : Nat)]⟩] [(7, .ro (.strs pt) 0 pt.length), (9, .ro (zBG l) 0 l.length), (60, .ro (zBG l) 0 l.length), (61, .int .i64 (l.length : Nat)), (62, .int .i64 (k : Nat))] rfl ⟨rfl, rfl, rfl, rfl, rfl, trivial⟩ (fun h hh => by rw [hfix] at hh; exact absurd hh id) (fun h o ho => by simp at ho) rfl ?_
       repeat (first | refine zD (zF rfl) ?_ | refine zB ?_ | refine zC rfl ?_ | refine zD (zAK rfl rfl (by omega)) ?_)
       exact zd ⟨k + 1, by omega, by omega, ⟨rfl, rfl, rfl, rfl, rfl, trivial⟩, rfl⟩
     · rw [decide_eq_false (show ¬ ((k + m : Nat) : Int) < (l.length : Nat) by omega)]
       refine zn rfl rfl (zF rfl) ?_
       refine zB5 rfl rfl rfl rfl rfl ?_
       refine zB5 rfl rfl rfl rfl rfl ?_
       refine zB5 rfl rfl rfl rfl rfl ?_
       refine zB5 rfl rfl rfl rfl rfl ?_
       refine zB5 rfl rfl rfl rfl rfl ?_
       refine zB5 rfl rfl rfl rfl rfl ?_
       refine zB5 rfl rfl rfl rfl rfl ?_
       refine zB5 rfl rfl rfl rfl rfl ?_
       refine zn rfl rfl (zr rfl rfl) ?_
       refine zAs ?_
       refine zAB (by kernel_rfl) ?_
       repeat (first | refine zD (zF rfl) ?_ | refine zB ?_ | refine zA ?_ | refine zG ?_ | refine zC rfl ?_ | refine ze rfl ?_ | refine zx ?_ | refine zW ?_ | refine zX ?_ | refine zi ?_ | refine zD (zBx rfl rfl rfl) ?_ | refine zD (zI rfl rfl rfl rfl rfl) ?_ | refine zD (zY rfl rfl rfl rfl (by first | (simp only [Nat.zero_add, Int.toNat_natCast, Int.toNat_zero]; exact rfl) | exact rfl) (by omega)) ?_ | refine zD (zCz rfl rfl) ?_ | refine zD (zL rfl rfl rfl rfl rfl rfl) ?_)
       refine zK rfl (fun h => absurd (show zAM (P.getD b 0) = pt.getD b [] from (hpt b (by omega)).symm) h) (fun h => ?_)
       repeat (first | refine zZ ?_ | refine zP ?_)
       refine zA ?_
       refine zAy [] [some ⟨80, .box [.int .i64 nf, .int .i64 0, .int .i64 (b : Nat)]⟩] [(7, .ro (.strs pt) 0 pt.length), (9, .ro (zBG l) 0 l.length), (60, .ro (zBG l) 0 l.length), (61, .int .i64 (l.length : Nat)), (62, .int .i64 (k : Nat))] rfl ⟨rfl, rfl, rfl, rfl, rfl, trivial⟩ (fun h hh => by rw [hfix] at hh; exact absurd hh id) (fun h o ho => by simp at ho) rfl ?_
       repeat (first | refine zD (zF rfl) ?_ | refine zB ?_ | refine zC rfl ?_ | refine zD (zAK rfl rfl (by omega)) ?_)
       exact zd ⟨k + 1, by omega, by omega, ⟨rfl, rfl, rfl, rfl, rfl, trivial⟩, rfl⟩
 · repeat (first | refine zD (zE rfl) ?_ | refine zB ?_ | refine zA ?_ | refine zG ?_ | refine zC rfl ?_ | refine zx ?_ | refine zW ?_ | refine zX ?_ | refine zi ?_ | refine zH ?_)
   exact zR hR rfl rfl
end Go.Proofs.YtgmleamhjnlknaaGreatDoor
namespace Go.Proofs.YtgmleamhjnlknaaGreatDoor
open Go.ChangeShapes Go.WideShapes
theorem ownIt : ownKnob Tryz.prog.godebug = none := by kernel_rfl
theorem laidIt : laidOutB Tryz.prog = true := by kernel_rfl
theorem zLJ : mapsRowed Tryz.prog = true := by kernel_rfl
theorem fullIt : ((List.range Tryz.prog.types.size).all fun t => match Tryz.prog.underlying t with | some (.slice e) => decide (0 < Tryz.prog.cellsOf e) | _ => true) = true := by kernel_rfl
theorem stopsIt : (Tryz.prog.stops == []) = true := by kernel_rfl
theorem knobsIt : (Tryz.prog.stopKnobs == []) = true := by kernel_rfl
theorem heardIt : Tryz.prog.stopsHeard = true := by kernel_rfl
theorem enterIt : Tryz.prog.mayEnter = true := by kernel_rfl
theorem liftIt : (Rows.regretContinuesRow.lifted == Tryz.prog.liftsFinal) = true := by kernel_rfl
theorem makeIt : (Tryz.prog.make == some Rows.regretContinuesRow.make) = true := by kernel_rfl
theorem plainIt : (Rows.regretContinuesRow.plainKeys == Tryz.prog.plainKeys) = true := by kernel_rfl
theorem zMe : Tryz.prog.mainIs = some (true, ("01fbb469cf8b0980b89ab124d6c951f307d4b37b82991b3a2bba3582623a25d4" : String).toList) := by kernel_rfl
theorem looksIt : true = Tryz.prog.looks [] := by kernel_rfl
end Go.Proofs.YtgmleamhjnlknaaGreatDoor
