import Derived.WalkKit
import Derived.Deep.Draws
import Derived.Deep.Quiet
import Derived.Scope
import Derived.WalkSpells
import Derived.ProofKit
import Derived.OpenShut
import Derived.ReadAgain
import Derived.ChangeSlices
import Derived.Lib.AppendZeros
import Derived.Lib.Strings
import Derived.Test.YtkhdfimdkjjimaaGreatDoorY1
set_option linter.unusedVariables false
set_option linter.unusedSimpArgs false
namespace Go.Ax
mutual
/-- An abstract value. -/
inductive AV where
 | int (k : IntKind) (n : Int)
 | bool (b : Bool)
 | str (s : List UInt8)
 | nil
 | ro (c : Cells) (i len : Nat)
 | sl (h i len : Nat)
 | rp (c : Cells) (i j : Nat)
 | ptr (h i j : Nat)
 | nilp
 | fn (f : FuncId) (cap : List AV)
 | nilfn
 | iface
 | nilif
 | agg (l : List AV)
 | tup (l : List AV)
 | mp (h : Nat)
 | rom (ks vs : List AV)
 | any
/-- What a row of memory holds. -/
inductive Cells where
 | ints (k : IntKind) (l : List Int)
 | strs (l : List (List UInt8))
 | box (l : List AV)
 | fn (n s : Nat) (f : Nat → Nat → AV)
 | mp (ks vs : List AV)
end
def Cells.len : Cells → Nat
 | .ints _ l => l.length
 | .strs l => l.length
 | .box _ => 1
 | .fn n _ _ => n
 | .mp _ _ => 0
def Cells.sz : Cells → Nat
 | .ints _ _ => 1
 | .strs _ => 1
 | .box l => l.length
 | .fn _ s _ => s
 | .mp _ _ => 0
def Cells.at : Cells → Nat → Nat → AV
 | .ints k l, i, _ => .int k (l.getD i 0)
 | .strs l, i, _ => .str (l.getD i [])
 | .box l, _, j => l.getD j .any
 | .fn _ _ f, i, j => f i j
 | .mp _ _, _, _ => .any
/-- The size of its elements; a map is its own kind. -/
def Cells.kd : Cells → Nat × Cells
 | .mp ks vs => (0, .mp ks vs)
 | .ints _ _ => (1, .strs [])
 | .strs _ => (1, .strs [])
 | .box l => (l.length, .strs [])
 | .fn _ s _ => (s, .strs [])
theorem zLx {a b : Cells} (h : b.kd = a.kd) : b.sz = a.sz := by
 cases a <;> cases b <;> simp_all [Cells.kd, Cells.sz]
theorem kd_mp {b : Cells} {ks vs : List AV} (h : b.kd = (Cells.mp ks vs).kd) : b = .mp ks vs := by
 cases b <;> simp_all [Cells.kd]
/-- An object of the abstract memory: its cells' type, and what it holds. -/
structure AObj where
 ty : TypeId
 c : Cells
abbrev zP := List (Option AObj)
abbrev Fr := List (Nat × AV)
/-- Where an object lies: a block and how many elements it has room for; or nowhere (a nil slice). -/
inductive Blk where
 | at (b s cap : Nat)
 | nowhere
def zGs (s : List UInt8) : Value := .string ⟨s.toArray⟩
/-- The value that an abstract value stands for, in a world, with a region of blocks that stay as they are. -/
inductive VR (w : World) (S : Nat → Prop) : (Nat → Option Blk) → AV → Value → Prop
 | int (σ k n) : VR w S σ (.int k n) (.int k n)
 | bool (σ b) : VR w S σ (.bool b) (.bool b)
 | str (σ s) : VR w S σ (.str s) (zGs s)
 | nil (σ) : VR w S σ .nil (.slice none 0 0)
 | ro0 (σ c i a cap) : VR w S σ (.ro c i 0) (.slice a 0 cap)
 | ro (σ c i len b o cap) (val : Nat → Nat → Value) (hS : S b) (hlen : len ≤ cap)
  (hc : ∀ d j, d < len → j < c.sz → w.cell? ⟨b, o + d * c.sz + j, none⟩ = some (val d j))
  (hv : ∀ d j, d < len → j < c.sz → VR w S (fun _ => none) (c.at (i + d) j) (val d j)) (h1 : ∀ d j, d < len → j < c.sz → (val d j).oneCell' = true) :
  VR w S σ (.ro c i len) (.slice (some ⟨b, o, none⟩) len cap)
 | sl (σ h i len b s C cap) (hσ : σ h = some (.at b s C)) (hlen : len ≤ cap) (hcap : i + cap = C) :
  VR w S σ (.sl h i len) (.slice (some ⟨b, i * s, none⟩) len cap)
 | sl0 (σ h) (hσ : σ h = some .nowhere) : VR w S σ (.sl h 0 0) (.slice none 0 0)
 | rp (σ c i j b o) (val : Nat → Value) (hS : S b)
  (hc : ∀ e, j + e < c.sz → w.cell? ⟨b, o + e, none⟩ = some (val e))
  (hv : ∀ e, j + e < c.sz → VR w S (fun _ => none) (c.at i (j + e)) (val e)) (h1 : ∀ e, j + e < c.sz → (val e).oneCell' = true) :
  VR w S σ (.rp c i j) (.pointer (some ⟨b, o, none⟩))
 | ptr (σ h i j b s C) (hσ : σ h = some (.at b s C)) : VR w S σ (.ptr h i j) (.pointer (some ⟨b, i * s + j, none⟩))
 | nilp (σ) : VR w S σ .nilp (.pointer none)
 | fn (σ f cap) (vs : Array Value) (hl : vs.size = cap.length) (hv : ∀ i, i < cap.length → VR w S σ (cap.getD i .any) (vs.getD i undef)) :
  VR w S σ (.fn f cap) (.func (.func f) #[] vs)
 | nilfn (σ) : VR w S σ .nilfn .nilFunc
 | iface (σ t v) : VR w S σ .iface (.iface t v)
 | nilif (σ) : VR w S σ .nilif .nilIface
 | agg (σ l) (vs : Array Value) (hl : vs.size = l.length) (hv : ∀ i, i < l.length → VR w S σ (l.getD i .any) (vs.getD i undef)) (h1 : ∀ i, i < l.length → (vs.getD i undef).oneCell' = true) :
  VR w S σ (.agg l) (.agg vs)
 | tup (σ l) (vs : Array Value) (hl : vs.size = l.length) (hv : ∀ i, i < l.length → VR w S σ (l.getD i .any) (vs.getD i undef)) :
  VR w S σ (.tup l) (.tuple vs)
 | mp (σ h b) (hσ : σ h = some (.at b 0 (maxLen + 1))) : VR w S σ (.mp h) (.map (some b))
 | rom (σ ks vs b es clock) (e : Nat → MapEntry) (hS : S b) (hb : w.heap[b]? = some (.map es clock)) (hn : es.size = ks.length) (hl : vs.length = ks.length) (hd : es.toList.Pairwise (fun x y => x.key ≠ y.key))
  (he : ∀ i, i < ks.length → es[i]? = some (e i)) (hk : ∀ i, i < ks.length → VR w S (fun _ => none) (ks.getD i .any) (e i).key) (hv : ∀ i, i < ks.length → VR w S (fun _ => none) (vs.getD i .any) (e i).val) :
  VR w S σ (.rom ks vs) (.map (some b))
 | any (σ v) : VR w S σ .any v
/-- A later world, a larger region, more objects: a value that was represented still is. -/
theorem VR.mono {w w' : World} {S S' : Nat → Prop} (hS : ∀ b, S b → S' b) (hb : ∀ b, S b → w'.heap[b]? = w.heap[b]?) {σ : Nat → Option Blk} {x : AV} {v : Value}
 (h : VR w S σ x v) : ∀ σ', (∀ h B, σ h = some B → σ' h = some B) → VR w' S' σ' x v := by
 have hcell : ∀ b o, S b → w'.cell? ⟨b, o, none⟩ = w.cell? ⟨b, o, none⟩ := fun b o hs => World.cell?_of_block (hb b hs)
 induction h with
 | int => intros; constructor
 | bool => intros; constructor
 | str => intros; constructor
 | nil => intros; constructor
 | ro0 => intros; constructor
 | ro σ c i len b o cap val hSb hlen hc hv h1 ih =>
  intro σ' hσ
  refine .ro _ _ _ _ _ _ _ val (hS _ hSb) hlen (fun d j hd hj => by rw [hcell _ _ hSb]; exact hc d j hd hj) (fun d j hd hj => ih d j hd hj _ (fun _ _ h => h)) h1
 | sl σ h i len b s C cap hσh hlen hcap => intro σ' hσ; exact .sl _ _ _ _ _ _ _ _ (hσ _ _ hσh) hlen hcap
 | sl0 σ h hσh => intro σ' hσ; exact .sl0 _ _ (hσ _ _ hσh)
 | rp σ c i j b o val hSb hc hv h1 ih =>
  intro σ' hσ
  exact .rp _ _ _ _ _ _ val (hS _ hSb) (fun e he => by rw [hcell _ _ hSb]; exact hc e he) (fun e he => ih e he _ (fun _ _ h => h)) h1
 | ptr σ h i j b s C hσh => intro σ' hσ; exact .ptr _ _ _ _ _ _ _ (hσ _ _ hσh)
 | nilp => intros; constructor
 | fn σ f cap vs hl hv ih => intro σ' hσ; exact .fn _ _ _ _ hl (fun i hi => ih i hi _ hσ)
 | nilfn => intros; constructor
 | iface => intros; constructor
 | nilif => intros; constructor
 | agg σ l vs hl hv h1 ih => intro σ' hσ; exact .agg _ _ _ hl (fun i hi => ih i hi _ hσ) h1
 | tup σ l vs hl hv ih => intro σ' hσ; exact .tup _ _ _ hl (fun i hi => ih i hi _ hσ)
 | mp σ h b hσh => intro σ' hσ; exact .mp _ _ _ (hσ _ _ hσh)
 | rom σ ks vs b es clock e hSb hbb hn hl hd he hk hv ihk ihv =>
  intro σ' hσ
  exact .rom _ _ _ b es clock e (hS _ hSb) (by rw [hb _ hSb]; exact hbb) hn hl hd he (fun i hi => ihk i hi _ (fun _ _ h => h)) (fun i hi => ihv i hi _ (fun _ _ h => h))
 | any => intros; constructor
/-- An object's block: a row of cells (its mark, if it has one, lies behind the cells), or a map. -/
inductive Lays (w : World) (S : Nat → Prop) (σ : Nat → Option Blk) (o : AObj) (b : Nat) (cur : Array Value) (C : Nat) : Prop
 | row (mk : Nat × Nat) (h : w.heap[b]? = some (.cells cur o.ty mk)) (hm : mk.2 ≤ mk.1 ∨ cur.size ≤ mk.1) (hC : C ≤ maxLen)
 | map (ks vs : List AV) (es : Array MapEntry) (clock : Nat) (hc : o.c = .mp ks vs) (hC : C = maxLen + 1) (h : w.heap[b]? = some (.map es clock)) (hn : es.size = ks.length) (hl : vs.length = ks.length) (hd : es.toList.Pairwise (fun x y => x.key ≠ y.key))
  (he : ∀ i, i < ks.length → ∃ e, es[i]? = some e ∧ VR w S σ (ks.getD i .any) e.key ∧ VR w S σ (vs.getD i .any) e.val)
theorem Lays.lt {w : World} {S : Nat → Prop} {σ : Nat → Option Blk} {o : AObj} {b : Nat} {cur : Array Value} {C : Nat} (h : Lays w S σ o b cur C) : b < w.heap.size := by
 cases h with
 | row mk h => exact (Array.getElem?_eq_some_iff.1 h).1
 | map ks vs es clock hc hC h => exact (Array.getElem?_eq_some_iff.1 h).1
theorem Lays.mono {w w' : World} {S S' : Nat → Prop} {σ σ' : Nat → Option Blk} {o : AObj} {b : Nat} {cur : Array Value} {C : Nat} (hb : w'.heap[b]? = w.heap[b]?) (hv : ∀ {x v}, VR w S σ x v → VR w' S' σ' x v)
 (h : Lays w S σ o b cur C) : Lays w' S' σ' o b cur C := by
 cases h with
 | row mk h hm hC => exact .row mk (by rw [hb]; exact h) hm hC
 | map ks vs es clock hc hC h hn hl hd he => exact .map ks vs es clock hc hC (by rw [hb]; exact h) hn hl hd (fun i hi => let ⟨e, e1, e2, e3⟩ := he i hi; ⟨e, e1, hv e2, hv e3⟩)
theorem Lays.kd {w : World} {S : Nat → Prop} {σ : Nat → Option Blk} {o o' : AObj} {b : Nat} {cur : Array Value} {C : Nat} (ht : o'.ty = o.ty) (hk : o'.c.kd = o.c.kd) (h : Lays w S σ o b cur C) : Lays w S σ o' b cur C := by
 cases h with
 | row mk h hm hC => exact .row mk (by rw [ht]; exact h) hm hC
 | map ks vs es clock hc hC h hn hl hd he => exact .map ks vs es clock (kd_mp (by rw [hk, hc])) hC h hn hl hd he
/-- The cells of a row that has some. -/
theorem Lays.cells {w : World} {S : Nat → Prop} {σ : Nat → Option Blk} {o : AObj} {b : Nat} {cur : Array Value} {C : Nat} (h : Lays w S σ o b cur C) (hs : o.c.sz ≠ 0) :
 ∃ mk, w.heap[b]? = some (.cells cur o.ty mk) ∧ (mk.2 ≤ mk.1 ∨ cur.size ≤ mk.1) ∧ C ≤ maxLen := by
 cases h with
 | row mk h hm hC => exact ⟨mk, h, hm, hC⟩
 | map ks vs es clock hc => rw [hc] at hs; exact absurd rfl hs
theorem Lays.cellsC {w : World} {S : Nat → Prop} {σ : Nat → Option Blk} {o : AObj} {b : Nat} {cur : Array Value} {C : Nat} (h : Lays w S σ o b cur C) (hC : C ≤ maxLen) :
 ∃ mk, w.heap[b]? = some (.cells cur o.ty mk) ∧ (mk.2 ≤ mk.1 ∨ cur.size ≤ mk.1) := by
 cases h with
 | row mk h hm _ => exact ⟨mk, h, hm⟩
 | map ks vs es clock hc hC' => omega
/-- The abstract memory is represented. -/
structure HR (w : World) (S : Nat → Prop) (σ : Nat → Option Blk) (H : zP) : Prop where
 live : ∀ h o, H[h]? = some (some o) →
  (σ h = some .nowhere ∧ o.c.len = 0) ∨
  ∃ b C cur, σ h = some (.at b o.c.sz C) ∧ Lays w S σ o b cur C ∧ cur.size = C * o.c.sz ∧ C ≤ maxLen + 1 ∧ o.c.len ≤ C ∧ ¬ S b ∧
   ∀ i j, i < o.c.len → j < o.c.sz → ∃ v, cur[i * o.c.sz + j]? = some v ∧ VR w S σ (o.c.at i j) v ∧ v.oneCell' = true
 dist : ∀ h h' o o' b s C s' C', H[h]? = some (some o) → H[h']? = some (some o') → σ h = some (.at b s C) → σ h' = some (.at b s' C') → h = h'
 small : ∀ b, S b → b < w.heap.size
 dom : ∀ h, H.length ≤ h → σ h = none
end Go.Ax
namespace Go.Ax
open Go.RowKit
theorem zBX {a b : Nat} (h : a ≠ b) : Nat.beq a b = false := by
 cases hb : Nat.beq a b with
 | false => rfl
 | true => exact absurd (Nat.eq_of_beq_eq_true hb) h
def zAa (t : Nat) : Fr → Option AV
 | [] => none
 | (u, v) :: r => bif Nat.beq t u then some v else zAa t r
/-- What the walks of a seat may know of the worlds: kept as long as the region's blocks and those that nobody owns stay as they are. -/
class Pins where
 G : World → (Nat → Prop) → Prop
variable [Pins]
/-- What a call began with, and what is asked of it. -/
structure Ctx where
 w0 : World
 S0 : Nat → Prop
 O : Nat → Prop
 σ0 : Nat → Option Blk
 fix : Nat → Prop
 R : AV → zP → Prop
 pin : ∀ (w : World) (S : Nat → Prop), (∀ b, S0 b → S b) → w0.heap.size ≤ w.heap.size → (∀ b, b < w0.heap.size → ¬ O b → w.heap[b]? = w0.heap[b]?) → Pins.G w S
structure Kp (c : Ctx) (w : World) (S : Nat → Prop) (σ : Nat → Option Blk) (H : zP) : Prop where
 os : w.os = c.w0.os
 output : w.output = c.w0.output
 tape : w.tape = c.w0.tape
 size : c.w0.heap.size ≤ w.heap.size
 block : ∀ b, b < c.w0.heap.size → ¬ c.O b → w.heap[b]? = c.w0.heap[b]?
 S1 : ∀ b, c.S0 b → S b
 S2 : ∀ b, S b → c.S0 b ∨ c.O b ∨ c.w0.heap.size ≤ b
 fixed : ∀ h, c.fix h → σ h = c.σ0 h
 fixlt : ∀ h, c.fix h → h < H.length
 own : ∀ h o b s C, H[h]? = some (some o) → σ h = some (.at b s C) → c.O b ∨ c.w0.heap.size ≤ b
structure Rep (c : Ctx) (w : World) (a : Act) (σ : Nat → Option Blk) (S : Nat → Prop) (n : Nat) (fr : Fr) (H : zP) : Prop where
 hr : HR w S σ H
 kp : Kp c w S σ H
 defers : a.defers = []
 size : a.tmps.size = n
 slots : ∀ t v, zAa t fr = some v → t < n ∧ VR w S σ v (a.tmps.getD t undef)
/-- What is left to do behind a piece of code. -/
inductive It where
 | code (c : Code)
 | blk (id : Nat)
 | scope
 | inv (G : Fr → zP → Prop)
 | any (all : Array Oper) (fuel : Nat) (listed : Array Bool)
def lift (c : Ctx) (n : Nat) (Q : Exit → Fr → zP → Prop) : Exit → Act → World → Prop := fun e a w => ∃ σ S fr H, Rep c w a σ S n fr H ∧ Q e fr H
/-- A result slot, read. -/
def ares1 (P : Program) (fr : Fr) (H : zP) : ResultVar → Option AV
 | .tmp t => zAa t fr
 | .cell t ty =>
  match zAa t fr with
  | some (.ptr h 0 0) =>
   match H[h]? with
   | some (some o) =>
    match o.c with
    | .box l =>
     match P.underlying ty, P.info? ty with
     | some (.struct _), some i => bif Nat.beq i.size l.length then some (.agg l) else none
     | some (.array _ _), some i => bif Nat.beq i.size l.length then some (.agg l) else none
     | some (.struct _), none => none
     | some (.array _ _), none => none
     | some _, _ => bif Nat.beq 1 l.length then l[0]? else none
     | none, _ => none
    | _ => none
   | _ => none
  | _ => none
def zGv (P : Program) (fr : Fr) (H : zP) : List ResultVar → Option (List AV)
 | [] => some []
 | r :: rs => match ares1 P fr H r with
  | some v => match zGv P fr H rs with
   | some vs => some (v :: vs)
   | none => none
  | none => none
def zDo : List AV → AV
 | [v] => v
 | vs => .tup vs
def zCT (P : Program) (fn : Func) (c : Ctx) : List It → Exit → Fr → zP → Prop
 | [], e, fr, H => (e = .normal ∨ e = .ret) ∧ ∃ vs, zGv P fr H fn.results.toList = some vs ∧ c.R (zDo vs) H
 | .code cd :: k, .normal, fr, H => ∀ w a σ S, Rep c w a σ S fn.ntmps fr H → cd.wp P (lift c fn.ntmps (zCT P fn c k)) a w
 | .code _ :: k, e, fr, H => zCT P fn c k e fr H
 | .blk id :: k, .exit id', fr, H => bif Nat.beq id' id then zCT P fn c k .normal fr H else zCT P fn c k (.exit id') fr H
 | .blk _ :: k, e, fr, H => zCT P fn c k e fr H
 | .scope :: k, e, fr, H => match e with
  | .goto _ => False
  | e => zCT P fn c k e fr H
 | .inv G :: k, e, fr, H => match e with
  | .normal => G fr H
  | e => zCT P fn c k e fr H
 | .any all fuel listed :: k, e, fr, H => match e with
  | .normal => ∀ w a σ S, Rep c w a σ S fn.ntmps fr H → wpAny P .any all (lift c fn.ntmps (zCT P fn c k)) fuel listed a w
  | e => zCT P fn c k e fr H
inductive M where
 | code (c : Code) (k : List It)
 | ops (q : Bool) (all : Array Oper) (rest : List Oper) (k : List It)
 | any (all : Array Oper) (fuel : Nat) (listed : Array Bool) (k : List It)
 | post (e : Exit) (k : List It)
def zCv (n : Nat) : List Oper → Bool
 | [] => true
 | o :: r => (match o.dst with | some d => Nat.blt d n | none => true) && zCv n r
/-- The goal of a symbolic walk. -/
def Ax (P : Program) (fn : Func) (c : Ctx) : M → Fr → zP → Prop
 | .code cd k, fr, H => ∀ w a σ S, Rep c w a σ S fn.ntmps fr H → cd.wp P (lift c fn.ntmps (zCT P fn c k)) a w
 | .ops false all rest k, fr, H => zCv fn.ntmps rest = true → ∀ w a σ S, Rep c w a σ S fn.ntmps fr H → wpList P all (lift c fn.ntmps (zCT P fn c k)) rest a w
 | .ops true all rest k, fr, H => zCv fn.ntmps rest = true → ∀ w a σ S, Rep c w a σ S fn.ntmps fr H →
  wpQuiet P all (fun w' => ∃ m, w' = w.drewN m) (fun a' => ∀ w', (∃ m, w' = w.drewN m) → lift c fn.ntmps (zCT P fn c k) .normal a' w') rest a
 | .any all fuel listed k, fr, H => ∀ w a σ S, Rep c w a σ S fn.ntmps fr H → wpAny P .any all (lift c fn.ntmps (zCT P fn c k)) fuel listed a w
 | .post e k, fr, H => zCT P fn c k e fr H
theorem zJt {P : Program} {Q : Exit → Act → World → Prop} {a : Act} {w : World} {c : Code} {ι : Type} (I : ι → Act → World → Prop) (μ : ι → Nat) (i0 : ι) (h₀ : I i0 a w)
 (round : ∀ i a w, I i a w → c.wp P (Exit.then (fun a' w' => ∃ j, I j a' w' ∧ μ j < μ i) Q) a w) : (Code.loop c).wp P Q a w := by
 have _p := ‹Pins›
 intro b k cs
 have key : ∀ n i a w, μ i = n → I i a w →
  ∃ e a' w', Q e a' w' ∧ Arrives P (lone (b.at a (.code c :: .inLoop c :: k)) cs w) b k cs e a' w' := by
  intro n
  induction n using Nat.strongRecOn with
  | _ n ih =>
   intro i a w hn hI
   obtain ⟨e, a₁, w₁, hq, harr⟩ := round i a w hI b (.inLoop c :: k) cs
   cases e with
   | normal =>
    obtain ⟨j, hI₁, hlt⟩ := hq
    obtain ⟨e₂, a₂, w₂, hq₂, harr₂⟩ := ih (μ j) (hn ▸ hlt) j a₁ w₁ rfl hI₁
    exact ⟨e₂, a₂, w₂, hq₂, .of_steps (Steps.trans harr (.one step_inLoop)) harr₂⟩
   | exit id => exact ⟨_, a₁, w₁, hq, .pass (x := .inLoop c) rfl (fun _ _ => .inl (by simp)) harr⟩
   | goto l => exact ⟨_, a₁, w₁, hq, .pass (x := .inLoop c) rfl (fun _ _ => .inl (by simp)) harr⟩
   | ret => exact ⟨_, a₁, w₁, hq, .pass (x := .inLoop c) rfl (fun _ _ => .inl (by simp)) harr⟩
   | panic ch => exact ⟨_, a₁, w₁, hq, .pass (x := .inLoop c) rfl (fun _ _ => .inl (by simp)) harr⟩
   | outgrown => exact ⟨_, a₁, w₁, hq, .pass (x := .inLoop c) rfl (fun _ _ => .inl (by simp)) harr⟩
 obtain ⟨e, a', w', hq, harr⟩ := key _ i0 a w rfl h₀
 exact ⟨e, a', w', hq, .of_steps (.one step_loop) harr⟩
section
variable {P : Program} {fn : Func} {c : Ctx} {fr : Fr} {H : zP} {k : List It}
theorem zY {x y : Code} (h : Ax P fn c (.code x (.code y :: k)) fr H) : Ax P fn c (.code (.seq x y) k) fr H := by
 intro w a σ S hr
 refine wp_seq (wp_mono (h w a σ S hr) ?_)
 rintro e a' w' ⟨σ', S', fr', H', hr', hp⟩
 cases e with
 | normal => exact hp w' a' σ' S' hr'
 | exit id => exact ⟨σ', S', fr', H', hr', hp⟩
 | goto l => exact ⟨σ', S', fr', H', hr', hp⟩
 | ret => exact ⟨σ', S', fr', H', hr', hp⟩
 | panic ch => exact ⟨σ', S', fr', H', hr', hp⟩
 | outgrown => exact ⟨σ', S', fr', H', hr', hp⟩
theorem zAP (h : Ax P fn c (.post .normal k) fr H) : Ax P fn c (.code .skip k) fr H :=
 fun _ _ _ _ hr => wp_skip ⟨_, _, _, _, hr, h⟩
theorem zCU {id : Nat} (h : Ax P fn c (.post (.exit id) k) fr H) : Ax P fn c (.code (.exit id) k) fr H :=
 fun _ _ _ _ hr => wp_exit ⟨_, _, _, _, hr, h⟩
theorem z6 (h : Ax P fn c (.post .ret k) fr H) : Ax P fn c (.code .ret k) fr H :=
 fun _ _ _ _ hr => wp_ret ⟨_, _, _, _, hr, h⟩
theorem zAX {id : Nat} {x : Code} (h : Ax P fn c (.code x (.blk id :: k)) fr H) : Ax P fn c (.code (.block id x) k) fr H := by
 intro w a σ S hr
 refine wp_block (wp_mono (h w a σ S hr) ?_)
 rintro e a' w' ⟨σ', S', fr', H', hr', hp⟩
 cases e with
 | exit id' =>
  simp only [Exit.inBlock]
  by_cases he : id' = id
  ·subst he
   have hp' : zCT P fn c k .normal fr' H' := by simpa [zCT] using hp
   simp only [if_true]
   exact ⟨σ', S', fr', H', hr', hp'⟩
  ·have hp' : zCT P fn c k (.exit id') fr' H' := by
    have hb : Nat.beq id' id = false := zBX he
    simpa [zCT, hb] using hp
   simp only [he, if_false]
   exact ⟨σ', S', fr', H', hr', hp'⟩
 | normal => exact ⟨σ', S', fr', H', hr', hp⟩
 | goto l => exact ⟨σ', S', fr', H', hr', hp⟩
 | ret => exact ⟨σ', S', fr', H', hr', hp⟩
 | panic ch => exact ⟨σ', S', fr', H', hr', hp⟩
 | outgrown => exact ⟨σ', S', fr', H', hr', hp⟩
theorem Rep.drewN {w : World} {a : Act} {σ : Nat → Option Blk} {S : Nat → Prop} {n m : Nat} (h : Rep c w a σ S n fr H) : Rep c (w.drewN m) a σ S n fr H := by
 have hv : ∀ {σ' : Nat → Option Blk} {x v}, VR w S σ' x v → VR (w.drewN m) S σ' x v := fun h => h.mono (w := w) (w' := w.drewN m) (fun _ h => h) (fun _ _ => rfl) _ (fun _ _ h => h)
 refine ⟨⟨fun h' o ho => ?_, h.hr.dist, h.hr.small, h.hr.dom⟩, ⟨h.kp.os, h.kp.output, h.kp.tape, h.kp.size, h.kp.block, h.kp.S1, h.kp.S2, h.kp.fixed, h.kp.fixlt, h.kp.own⟩, h.defers, h.size, fun t v hl => ⟨(h.slots t v hl).1, hv (h.slots t v hl).2⟩⟩
 rcases h.hr.live h' o ho with hn | ⟨b, C, cur, h1, h2, h3, h4, h5, h6, h7⟩
 ·exact .inl hn
 ·exact .inr ⟨b, C, cur, h1, h2.mono (w := w) (w' := w.drewN m) U hv, h3, h4, h5, h6, fun i j hi hj => let ⟨v, a1, a2, a3⟩ := h7 i j hi hj; ⟨v, a1, hv a2, a3⟩⟩
/-- A region that draws its order, all of whose operations only read. -/
theorem zMZ {id : Nat} {l : List Oper} (hm : P.follows .mixedOrders = true) (hB : Region.lexB .any l.toArray = true) (hd : zCv fn.ntmps l = true) (h : Ax P fn c (.ops true l.toArray l k) fr H) : Ax P fn c (.code (.region id l.toArray true) k) fr H :=
 fun w a σ S hr => wp_region_quiet_lit hm hB (h hd w a σ S hr)
theorem zJ {id : Nat} {l : List Oper} (hd : zCv fn.ntmps l = true) (h : Ax P fn c (.ops false l.toArray l k) fr H) : Ax P fn c (.code (.region id l.toArray false) k) fr H :=
 fun w a σ S hr => wp_region_list (by simpa using h hd w a σ S hr)
theorem zC {q : Bool} {all : Array Oper} (h : Ax P fn c (.post .normal k) fr H) : Ax P fn c (.ops q all [] k) fr H := by
 cases q with
 | false => exact fun _ _ _ _ _ hr => wpList_nil ⟨_, _, _, _, hr, h⟩
 | true => exact fun _ w a σ S hr => wpQuiet_nil (fun w' ⟨m, hw⟩ => ⟨σ, S, _, _, hw ▸ hr.drewN, h⟩)
theorem zB {x : Code} (h : Ax P fn c (.code x k) fr H) : Ax P fn c (.post .normal (.code x :: k)) fr H := h
theorem zAY {id : Nat} (h : Ax P fn c (.post .normal k) fr H) : Ax P fn c (.post .normal (.blk id :: k)) fr H := h
theorem zR {G : Fr → zP → Prop} (h : G fr H) : Ax P fn c (.post .normal (.inv G :: k)) fr H := h
theorem zAq {x : Code} {id : Nat} (h : Ax P fn c (.post (.exit id) k) fr H) : Ax P fn c (.post (.exit id) (.code x :: k)) fr H := h
theorem zAw {G : Fr → zP → Prop} {id : Nat} (h : Ax P fn c (.post (.exit id) k) fr H) : Ax P fn c (.post (.exit id) (.inv G :: k)) fr H := h
theorem zAr {id : Nat} (h : Ax P fn c (.post .normal k) fr H) : Ax P fn c (.post (.exit id) (.blk id :: k)) fr H := by
 show zCT P fn c _ _ _ _
 simp only [zCT, Nat.beq_refl, cond_true]
 exact h
theorem zFC {id id' : Nat} (hne : Nat.beq id' id = false) (h : Ax P fn c (.post (.exit id') k) fr H) : Ax P fn c (.post (.exit id') (.blk id :: k)) fr H := by
 show zCT P fn c _ _ _ _
 simp only [zCT, hne, cond_false]
 exact h
theorem zA9 {x : Code} (h : Ax P fn c (.post .ret k) fr H) : Ax P fn c (.post .ret (.code x :: k)) fr H := h
theorem zD5 {id : Nat} (h : Ax P fn c (.post .ret k) fr H) : Ax P fn c (.post .ret (.blk id :: k)) fr H := h
theorem zFD {G : Fr → zP → Prop} (h : Ax P fn c (.post .ret k) fr H) : Ax P fn c (.post .ret (.inv G :: k)) fr H := h
theorem zN {vs : List AV} {R : AV → zP → Prop} (hR : c.R = R) (hv : zGv P fr H fn.results.toList = some vs) (h : R (zDo vs) H) : Ax P fn c (.post .ret []) fr H :=
 ⟨.inr rfl, vs, hv, hR ▸ h⟩
theorem ax_end {vs : List AV} {R : AV → zP → Prop} (hR : c.R = R) (hv : zGv P fr H fn.results.toList = some vs) (h : R (zDo vs) H) : Ax P fn c (.post .normal []) fr H :=
 ⟨.inl rfl, vs, hv, hR ▸ h⟩
/-- A constant of one cell; any constant. -/
def scl : Value → Option AV
 | .int k n => some (.int k n)
 | .bool b => some (.bool b)
 | .string s => some (.str s.data.toList)
 | .slice none 0 0 => some .nil
 | .pointer none => some .nilp
 | .nilFunc => some .nilfn
 | .nilIface => some .nilif
 | _ => none
def scls : List Value → Option (List AV)
 | [] => some []
 | v :: r => match scl v with
  | some a => match scls r with
   | some l => some (a :: l)
   | none => none
  | none => none
def cst : Value → Option AV
 | .agg cs => match scls cs.toList with
  | some l => some (.agg l)
  | none => none
 | v => scl v
/-- What an operand is. -/
def ev (fr : Fr) : Operand → Option AV
 | .tmp t => zAa t fr
 | .const v => cst v
 | .global _ => none
 | .func f => some (.fn f [])
theorem zLM {w : World} {S : Nat → Prop} {σ : Nat → Option Blk} {x : Value} {v : AV} (h : scl x = some v) : VR w S σ v x ∧ x.oneCell' = true := by
 have _p := ‹Pins›
 cases x with
 | int k n => cases h; exact ⟨.int _ _ _, rfl⟩
 | bool b => cases h; exact ⟨.bool _ _, rfl⟩
 | string s => cases h; exact ⟨VR.str σ s.data.toList, rfl⟩
 | slice ad len cap =>
  cases ad with
  | none =>
   cases len with
   | zero => cases cap with
    | zero => cases h; exact ⟨.nil _, rfl⟩
    | succ _ => cases h
   | succ _ => cases h
  | some _ => cases h
 | pointer p => cases p with
  | none => cases h; exact ⟨.nilp _, rfl⟩
  | some _ => cases h
 | nilFunc => cases h; exact ⟨.nilfn _, rfl⟩
 | nilIface => cases h; exact ⟨.nilif _, rfl⟩
 | _ => cases h
theorem zNk {w : World} {S : Nat → Prop} {σ : Nat → Option Blk} : ∀ {cs : List Value} {l : List AV}, scls cs = some l → cs.length = l.length ∧ ∀ i, i < l.length → VR w S σ (l.getD i .any) (cs.getD i undef) ∧ (cs.getD i undef).oneCell' = true
 | [], l, h => by simp [scls] at h; subst h; exact ⟨rfl, fun i hi => by simp at hi⟩
 | v :: r, l, h => by
  simp only [scls] at h
  split at h
  ·rename_i a ha
   split at h
   ·rename_i q hq
    simp only [Option.some.injEq] at h
    subst h
    obtain ⟨i1, i2⟩ := zNk (w := w) (S := S) (σ := σ) hq
    refine ⟨by simp [i1], fun i hi => ?_⟩
    cases i with
    | zero => exact zLM ha
    | succ i => simpa using i2 i (by simpa using hi)
   ·cases h
  ·cases h
theorem vr_cst {w : World} {S : Nat → Prop} {σ : Nat → Option Blk} {x : Value} {v : AV} (h : cst x = some v) : VR w S σ v x := by
 unfold cst at h
 split at h
 ·rename_i cs
  split at h
  ·rename_i l hl
   simp only [Option.some.injEq] at h
   subst h
   obtain ⟨i1, i2⟩ := zNk (w := w) (S := S) (σ := σ) hl
   have hs : cs.size = l.length := by simpa using i1
   have e : ∀ i, i < l.length → cs.toList.getD i undef = cs.getD i undef := fun i hi => by simp [List.getD, Array.getD, hs, hi]
   exact .agg _ _ _ hs (fun i hi => by rw [← e i hi]; exact (i2 i hi).1) (fun i hi => by rw [← e i hi]; exact (i2 i hi).2)
  ·cases h
 ·exact (zLM h).1
theorem Rep.evAt {w : World} {a : Act} {σ : Nat → Option Blk} {S : Nat → Prop} {n : Nat} (h : Rep c w a σ S n fr H) {o : Operand} {v : AV} (hv : Ax.ev fr o = some v) : VR w S σ v (a.eval o) := by
 cases o with
 | tmp t => exact (h.slots t v hv).2
 | const x => exact vr_cst hv
 | global g => cases hv
 | func f => cases hv; exact .fn _ _ _ #[] rfl (fun i hi => by simp at hi)
theorem Rep.put {w : World} {a : Act} {σ : Nat → Option Blk} {S : Nat → Prop} {n d : Nat} {v : AV} {x : Value} (h : Rep c w a σ S n fr H) (hv : VR w S σ v x) (hd : d < n) : Rep c w (a.put (some d) x) σ S n ((d, v) :: fr) H := by
 refine ⟨h.hr, h.kp, h.defers, by simpa [Act.put] using h.size, fun t y hl => ?_⟩
 simp only [zAa] at hl
 by_cases he : t = d
 ·subst he
  simp only [Nat.beq_refl, cond_true, Option.some.injEq] at hl
  subst hl
  refine ⟨hd, ?_⟩
  have : t < a.tmps.size := by rw [h.size]; exact hd
  simpa [Act.put, this] using hv
 ·simp only [zBX he, cond_false] at hl
  obtain ⟨h1, h2⟩ := h.slots t y hl
  refine ⟨h1, ?_⟩
  have : ¬ d = t := fun e => he e.symm
  simpa [Act.put, Array.getElem?_setIfInBounds, this] using h2
/-- An operation that only reads, and what it yields; 'ind': it does not even zAa at memory. -/
def QOp (ind : Bool) (P : Program) (fn : Func) (c : Ctx) (fr : Fr) (H : zP) (o : Oper) (v : AV) : Prop :=
 ∀ w a σ S, Rep c w a σ S fn.ntmps fr H → ∃ x, VR w S σ v x ∧ ∀ w', (ind = true ∨ w'.heap = w.heap) → (execOp a.eval o).run P w' = .ok (.value x) w'
theorem zBV {n : Nat} {o : Oper} {r : List Oper} (h : zCv n (o :: r) = true) : (∀ d, o.dst = some d → d < n) ∧ zCv n r = true := by
 have _p := ‹Pins›
 simp only [zCv, Bool.and_eq_true] at h
 refine ⟨fun d hd => ?_, h.2⟩
 have h1 := h.1
 rw [hd] at h1
 exact Nat.le_of_ble_eq_true h1
/-- One reading operation without a guard. -/
theorem zA {q : Bool} {all : Array Oper} {d : Nat} {op : Op} {ty : TypeId} {pos : String} {after : Array Edge} {rest : List Oper} {v : AV}
 (hop : QOp false P fn c fr H ⟨some d, op, ty, pos, after, none⟩ v) (h : Ax P fn c (.ops q all rest k) ((d, v) :: fr) H) : Ax P fn c (.ops q all (⟨some d, op, ty, pos, after, none⟩ :: rest) k) fr H := by
 cases q with
 | false =>
  intro hd w a σ S hr
  obtain ⟨hd1, hd2⟩ := zBV hd
  obtain ⟨x, hx, hrun⟩ := hop w a σ S hr
  refine wpList_step (fun K hK => ?_)
  simp only [Region.wanted, if_true]
  unfold Oper.wp
  rw [hrun w (.inr rfl)]
  exact hK _ _ (h hd2 w _ σ S (hr.put hx (hd1 d U)))
 | true =>
  intro hd w a σ S hr
  obtain ⟨hd1, hd2⟩ := zBV hd
  obtain ⟨x, hx, hrun⟩ := hop w a σ S hr
  refine wpQuiet_step (fun K hK => ?_)
  simp only [Region.wanted, if_true]
  refine ⟨x, fun w' hw => ?_, hK _ (h hd2 w _ σ S (hr.put hx (hd1 d U)))⟩
  obtain ⟨m, rfl⟩ := hw
  unfold Oper.quietAt
  rw [hrun (w.drewN m) (.inr rfl)]
  exact ⟨U, U⟩
theorem zDQ {ch : List PanicEntry} : ∀ (k : List It), zCT P fn c k (.panic ch) fr H → False
 | [], h => by rcases h with ⟨h | h, _⟩ <;> cases h
 | .code _ :: k, h => zDQ k h
 | .blk _ :: k, h => zDQ k h
 | .scope :: k, h => zDQ k h
 | .inv _ :: k, h => zDQ k h
 | .any _ _ _ :: k, h => zDQ k h
/-- A region whose order is open: whatever order. -/
theorem ze {id : Nat} {l : List Oper} (hm : P.follows .mixedOrders = true) (h : Ax P fn c (.any l.toArray l.length (Array.replicate l.length false) k) fr H) : Ax P fn c (.code (.region id l.toArray true) k) fr H := by
 intro w a σ S hr
 refine wp_region_any hm ?_
 have h2 := h (w.drewN 1) a σ S hr.drewN
 have e : l.toArray.size = l.length := by simp
 rw [e]
 exact h2
theorem zW {all : Array Oper} {fuel : Nat} {listed : Array Bool} (hr : Region.ready .any all listed = []) (h : Ax P fn c (.post .normal k) fr H) : Ax P fn c (.any all fuel listed k) fr H := by
 intro w a σ S hrep
 cases fuel with
 | zero => exact ⟨hr, _, _, _, _, hrep, h⟩
 | succ f =>
  refine ⟨fun _ => ⟨_, _, _, _, hrep, h⟩, fun i hi => ?_⟩
  rw [hr] at hi; cases hi
/-- An operation that does not zAa at memory may be taken first. -/
theorem zS {all : Array Oper} {fuel : Nat} {listed listed' : Array Bool} (i : Nat) {d : Nat} {op : Op} {ty : TypeId} {pos : String} {after : Array Edge} {v : AV}
 (hi : all[i]? = some ⟨some d, op, ty, pos, after, none⟩) (hsel : Region.noSelect all = true) (hready : (Region.ready .any all listed).contains i = true) (hfree : Region.free .any all listed i = true) (hd : Nat.blt d fn.ntmps = true)
 (hop : QOp true P fn c fr H ⟨some d, op, ty, pos, after, none⟩ v) (hl : listed.setIfInBounds i true = listed') (h : Ax P fn c (.any all fuel listed' k) ((d, v) :: fr) H) : Ax P fn c (.any all (fuel + 1) listed k) fr H := by
 intro w a σ S hr
 subst hl
 obtain ⟨x, hx, hrun⟩ := hop w a σ S hr
 refine wpAny_first hi (Region.noSelect_spec hsel) ?_ fuel listed a w (Region.free_spec hi hfree) (by simpa using hready) (v := x) ?_ (h w _ σ S (hr.put hx (Nat.le_of_ble_eq_true hd)))
 ·rintro ch a' w' ⟨_, _, _, _, _, hp⟩
  exact (zDQ _ hp).elim
 ·exact .inl ⟨U, fun w' => hrun w' (.inl U)⟩
def AllR (P : Program) (fn : Func) (c : Ctx) (all : Array Oper) (fuel : Nat) (listed : Array Bool) (k : List It) (fr : Fr) (H : zP) : List Nat → Prop
 | [] => True
 | i :: r => (∀ o, all[i]? = some o → Ax P fn c (.ops false all [o] (.any all fuel (listed.setIfInBounds i true) :: k)) fr H) ∧ AllR P fn c all fuel listed k fr H r
theorem allR_mem {all : Array Oper} {fuel : Nat} {listed : Array Bool} {is : List Nat} (h : AllR P fn c all fuel listed k fr H is) {i : Nat} (hi : i ∈ is) {o : Oper} (ho : all[i]? = some o) : Ax P fn c (.ops false all [o] (.any all fuel (listed.setIfInBounds i true) :: k)) fr H := by
 induction is with
 | nil => cases hi
 | cons j r ih =>
  rcases List.mem_cons.1 hi with rfl | hi
  ·exact h.1 o ho
  ·exact ih h.2 hi
theorem zOp {o : Oper} {a : Act} {K K' : Act → World → Prop} {Q Q' : Exit → Act → World → Prop} (hK : ∀ a w, K a w → K' a w) (hp : ∀ ch a w, Q (.panic ch) a w → Q' (.panic ch) a w) (ho : LetsOut Q → LetsOut Q') {r : Result Next}
 (h : o.upon P a K Q r) : o.upon P a K' Q' r := by
 have _p := ‹Pins›
 unfold Oper.upon at *
 split at h
 ·exact hK _ _ h
 ·exact hK _ _ h
 ·exact hK _ _ h
 ·refine Calls.mono h fun e w'' he => ?_
  cases e with
  | returned v => exact hK _ _ he
  | panicked ch => exact hp _ _ _ he
  | outgrown => exact ho he
 ·exact Rows.mono h fun v w'' he => hK _ _ he
 ·exact hp _ _ _ h
 ·exact h.elim
/-- Whatever operation comes up next. -/
theorem zH {all : Array Oper} {fuel : Nat} {listed : Array Bool} {is : List Nat} (hr : Region.ready .any all listed = is) (hne : is ≠ []) (hd : zCv fn.ntmps all.toList = true) (h : AllR P fn c all fuel listed k fr H is) : Ax P fn c (.any all (fuel + 1) listed k) fr H := by
 intro w a σ S hrep
 refine ⟨fun h0 => absurd (hr ▸ h0) hne, fun i hi => ?_⟩
 rw [hr] at hi
 unfold wpOp
 split
 ·rename_i hn
  rw [← hr] at hi
  obtain ⟨_, o, ho, _⟩ := mem_ready.1 hi
  rw [hn] at ho; cases ho
 ·rename_i o ho
  have h1 := allR_mem h hi ho
  have hd1 : zCv fn.ntmps [o] = true := by
   have hmem : o ∈ all.toList := by simpa using Array.mem_of_getElem? ho
   clear h1 h
   generalize all.toList = l at hd hmem
   induction l with
   | nil => cases hmem
   | cons x r ih =>
    simp only [zCv, Bool.and_eq_true] at hd ⊢
    rcases List.mem_cons.1 hmem with rfl | hm
    ·exact ⟨hd.1, trivial⟩
    ·have := ih hd.2 hm
     simp only [zCv, Bool.and_eq_true] at this
     exact this
  have h2 := h1 hd1 w a σ S hrep
  have hnorm : ∀ a w, lift c fn.ntmps (zCT P fn c (.any all fuel (listed.setIfInBounds i true) :: k)) .normal a w → wpAny P .any all (lift c fn.ntmps (zCT P fn c k)) fuel (listed.setIfInBounds i true) a w := by
   rintro a w ⟨σ', S', fr', H', hr', hp⟩
   exact hp w a σ' S' hr'
  unfold wpList at h2
  split
  ·rename_i hw
   rw [if_pos hw] at h2
   rcases h2 with h2 | ⟨ha, hl⟩
   ·left
    unfold Oper.wp at *
    exact zOp hnorm (fun _ _ _ h => h) (fun h => h) h2
   ·exact .inr ⟨ha, hl⟩
  ·rename_i hw
   rw [if_neg hw] at h2
   exact hnorm _ _ h2
theorem zX {all : Array Oper} {fuel : Nat} {listed : Array Bool} (h : Ax P fn c (.any all fuel listed k) fr H) : Ax P fn c (.post .normal (.any all fuel listed :: k)) fr H := h
/-- The slot in which an operation of the region yields. -/
def zDp (all : Array Oper) (j : Nat) : Option Nat := (all[j]?).bind (·.dst)
theorem zGP {w : World} {a : Act} {σ : Nat → Option Blk} {S : Nat → Prop} {n : Nat} (hr : Rep c w a σ S n fr H) {all : Array Oper} {d : Option Nat} {op : Op} {ty : TypeId} {pos : String} {after : Array Edge} {j t : Nat} {p b : Bool}
 (hy : zDp all j = some t) (hb : zAa t fr = some (.bool b)) : Region.wanted ⟨d, op, ty, pos, after, some (j, p)⟩ (yielded all a.tmps) = (b == p) := by
 obtain ⟨h1, h2⟩ := hr.slots t _ hb
 have h3 : t < a.tmps.size := by rw [hr.size]; exact h1
 generalize hz : a.tmps.getD t undef = z at h2
 cases h2
 have h4 : a.tmps[t]? = some (.bool b) := by
  simp only [Array.getD, h3, dite_true] at hz
  simp only [Array.getElem?_eq_getElem h3]
  exact congrArg some hz
 unfold zDp at hy
 simp only [Region.wanted, yielded, hy, Option.bind_some, h4]
 cases b <;> cases p <;> rfl
/-- .. with a guard that lets it run. -/
theorem zx {q : Bool} {all : Array Oper} {d : Option Nat} {op : Op} {ty : TypeId} {pos : String} {after : Array Edge} {rest : List Oper} {j t : Nat} {p : Bool}
 (hy : zDp all j = some t) (hb : zAa t fr = some (.bool p)) (h : Ax P fn c (.ops q all (⟨d, op, ty, pos, after, none⟩ :: rest) k) fr H) : Ax P fn c (.ops q all (⟨d, op, ty, pos, after, some (j, p)⟩ :: rest) k) fr H := by
 cases q with
 | false =>
  intro hd w a σ S hr
  have h1 := h hd w a σ S hr
  simp only [wpList, zGP hr hy hb, beq_self_eq_true, if_true]
  simp only [wpList, Region.wanted, if_true] at h1
  exact h1
 | true =>
  intro hd w a σ S hr
  have h1 := h hd w a σ S hr
  simp only [wpQuiet, zGP hr hy hb, beq_self_eq_true, if_true]
  simp only [wpQuiet, Region.wanted, if_true] at h1
  exact h1
theorem Rep.dup {w : World} {a : Act} {σ : Nat → Option Blk} {S : Nat → Prop} {n t : Nat} {v : AV} (h : Rep c w a σ S n fr H) (hl : zAa t fr = some v) : Rep c w a σ S n ((t, v) :: fr) H := by
 refine ⟨h.hr, h.kp, h.defers, h.size, fun u y hy => ?_⟩
 simp only [zAa] at hy
 by_cases he : u = t
 ·subst he
  simp only [Nat.beq_refl, cond_true, Option.some.injEq] at hy
  subst hy
  exact h.slots u v hl
 ·simp only [zBX he, cond_false] at hy
  exact h.slots u y hy
/-- A slot's Bool is parted on. -/
theorem zLV {q : Bool} {all : Array Oper} {rest : List Oper} (t : Nat) {b : Bool} (hb : zAa t fr = some (.bool b)) (ht : b = true → Ax P fn c (.ops q all rest k) ((t, .bool true) :: fr) H)
 (hf : b = false → Ax P fn c (.ops q all rest k) ((t, .bool false) :: fr) H) : Ax P fn c (.ops q all rest k) fr H := by
 cases b with
 | true => cases q with
  | true => exact fun hd w a σ S hr => ht rfl hd w a σ S (hr.dup hb)
  | false => exact fun hd w a σ S hr => ht rfl hd w a σ S (hr.dup hb)
 | false => cases q with
  | true => exact fun hd w a σ S hr => hf rfl hd w a σ S (hr.dup hb)
  | false => exact fun hd w a σ S hr => hf rfl hd w a σ S (hr.dup hb)
theorem zKd {q : Bool} {all : Array Oper} {rest : List Oper} (t : Nat) {p : Prop} {_ : Decidable p} (hb : zAa t fr = some (.bool (decide p))) (ht : p → Ax P fn c (.ops q all rest k) ((t, .bool true) :: fr) H)
 (hf : ¬ p → Ax P fn c (.ops q all rest k) ((t, .bool false) :: fr) H) : Ax P fn c (.ops q all rest k) fr H :=
 zLV t hb (fun h => ht (of_decide_eq_true h)) (fun h => hf (of_decide_eq_false h))
theorem zAi {o : Operand} {x y : Code} (hc : ev fr o = some (.bool true)) (h : Ax P fn c (.code x k) fr H) : Ax P fn c (.code (.cond o x y) k) fr H := by
 intro w a σ S hr
 have := hr.evAt hc
 generalize hz : a.eval o = z at this
 cases this
 exact wp_cond_true hz (h w a σ S hr)
theorem zAV {o : Operand} {x y : Code} (hc : ev fr o = some (.bool false)) (h : Ax P fn c (.code y k) fr H) : Ax P fn c (.code (.cond o x y) k) fr H := by
 intro w a σ S hr
 have := hr.evAt hc
 generalize hz : a.eval o = z at this
 cases this
 exact wp_cond_false hz (h w a σ S hr)
theorem zAQ {o : Operand} {x y : Code} {b : Bool} (hc : ev fr o = some (.bool b)) (ht : b = true → Ax P fn c (.code x k) fr H) (hf : b = false → Ax P fn c (.code y k) fr H) : Ax P fn c (.code (.cond o x y) k) fr H := by
 cases b
 ·exact zAV hc (hf U)
 ·exact zAi hc (ht U)
/-- A test on numbers. -/
theorem zF {o : Operand} {x y : Code} {p : Prop} {_ : Decidable p} (hc : ev fr o = some (.bool (decide p))) (ht : p → Ax P fn c (.code x k) fr H) (hf : ¬ p → Ax P fn c (.code y k) fr H) : Ax P fn c (.code (.cond o x y) k) fr H :=
 zAQ hc (fun h => ht (of_decide_eq_true h)) (fun h => hf (of_decide_eq_false h))
/-- The zEz slots of a state. -/
def zA3 (fr : Fr) : List (Nat × AV) → Prop
 | [] => True
 | (t, v) :: r => zAa t fr = some v ∧ zA3 fr r
theorem zEE {fr L : Fr} {t : Nat} {v : AV} (h : zA3 fr L) (hl : zAa t L = some v) : zAa t fr = some v := by
 have _p := ‹Pins›
 induction L with
 | nil => simp [zAa] at hl
 | cons p r ih =>
  obtain ⟨u, x⟩ := p
  obtain ⟨h1, h2⟩ := h
  simp only [zAa] at hl
  by_cases he : t = u
  ·subst he; simp at hl; subst hl; exact h1
  ·have hb : Nat.beq t u = false := zBX he
   simp [hb] at hl
   exact ih h2 hl
theorem Rep.weaken {w : World} {a : Act} {σ : Nat → Option Blk} {S : Nat → Prop} {n : Nat} {L : Fr} (h : Rep c w a σ S n fr H) (hk : zA3 fr L) : Rep c w a σ S n L H :=
 ⟨h.hr, h.kp, h.defers, h.size, fun t v hl => h.slots t v (zEE hk hl)⟩
/-- A loop: what is zEz at each round's head, by a ghost. -/
theorem zAA {ι : Type} {x : Code} (kn : ι → Fr) (hp : ι → zP) (I : ι → Prop) (μ : ι → Nat) (i0 : ι) (h0 : zA3 fr (kn i0) ∧ H = hp i0 ∧ I i0)
 (round : ∀ i, I i → Ax P fn c (.code x (.inv (fun fr' H' => ∃ j, I j ∧ μ j < μ i ∧ zA3 fr' (kn j) ∧ H' = hp j) :: k)) (kn i) (hp i)) :
 Ax P fn c (.code (.loop x) k) fr H := by
 intro w a σ S hr
 refine zJt (c := x) (fun j a w => I j ∧ ∃ σ S, Rep c w a σ S fn.ntmps (kn j) (hp j)) μ i0 ⟨h0.2.2, σ, S, ?_⟩ ?_
 ·have := hr.weaken h0.1
  rw [h0.2.1] at this
  exact this
 ·rintro i a w ⟨hi, σ, S, hr⟩
  refine wp_mono (round i hi w a σ S hr) ?_
  rintro e a' w' ⟨σ', S', fr', H', hr', hp'⟩
  cases e with
  | normal =>
   obtain ⟨j, hj, hm, hk, rfl⟩ := hp'
   exact ⟨j, ⟨hj, σ', S', hr'.weaken hk⟩, hm⟩
  | exit id => exact ⟨σ', S', fr', H', hr', hp'⟩
  | goto l => exact ⟨σ', S', fr', H', hr', hp'⟩
  | ret => exact ⟨σ', S', fr', H', hr', hp'⟩
  | panic ch => exact ⟨σ', S', fr', H', hr', hp'⟩
  | outgrown => exact ⟨σ', S', fr', H', hr', hp'⟩
end
end Go.Ax
namespace Go.Ax
variable [Pins]
open Go.RowKit
section
variable {ind : Bool} {P : Program} {fn : Func} {c : Ctx} {fr : Fr} {H : zP}
theorem Rep.evInt {w : World} {a : Act} {σ : Nat → Option Blk} {S : Nat → Prop} {n : Nat} (h : Rep c w a σ S n fr H) {o : Operand} {k : IntKind} {x : Int} (hv : ev fr o = some (.int k x)) : a.eval o = .int k x := by
 have := h.evAt hv
 generalize a.eval o = z at this
 cases this; rfl
theorem Rep.evBool {w : World} {a : Act} {σ : Nat → Option Blk} {S : Nat → Prop} {n : Nat} (h : Rep c w a σ S n fr H) {o : Operand} {x : Bool} (hv : ev fr o = some (.bool x)) : a.eval o = .bool x := by
 have := h.evAt hv
 generalize a.eval o = z at this
 cases this; rfl
theorem Rep.evStr {w : World} {a : Act} {σ : Nat → Option Blk} {S : Nat → Prop} {n : Nat} (h : Rep c w a σ S n fr H) {o : Operand} {x : List UInt8} (hv : ev fr o = some (.str x)) : a.eval o = zGs x := by
 have := h.evAt hv
 generalize a.eval o = z at this
 cases this; rfl
variable {d : Option Nat} {ty : TypeId} {pos : String} {after : Array Edge} {g : Option (Nat × Bool)}
theorem zLF (s : List UInt8) : (⟨s.toArray⟩ : ByteArray).size = s.length := by have _p := ‹Pins›; show s.toArray.size = _; simp
theorem zG {x : Operand} {v : AV} (hx : ev fr x = some v) : QOp ind P fn c fr H ⟨d, .move x, ty, pos, after, g⟩ v :=
 fun _ a _ _ hr => ⟨a.eval x, hr.evAt hx, fun _ _ => rfl⟩
theorem zM {x : Operand} {v : AV} (hx : ev fr x = some v) : QOp ind P fn c fr H ⟨d, .assign x, ty, pos, after, g⟩ v :=
 fun _ a _ _ hr => ⟨a.eval x, hr.evAt hx, fun _ _ => rfl⟩
theorem zi {x y z : Operand} {b : Bool} {v : AV} (hx : ev fr x = some (.bool b)) (hv : (bif b then ev fr y else ev fr z) = some v) : QOp ind P fn c fr H ⟨d, .pick x y z, ty, pos, after, g⟩ v := by
 intro w a σ S hr
 have h1 := hr.evBool hx
 cases b with
 | true => exact ⟨a.eval y, hr.evAt hv, fun w' _ => by simp [execOp, h1, asBool]⟩
 | false => exact ⟨a.eval z, hr.evAt hv, fun w' _ => by simp [execOp, h1, asBool]⟩
theorem zAS {op : BinOp} {t : TypeId} {x y : Operand} {k k' : IntKind} {m n : Int} {w : World} : (eqGuard op t x y (.int k m) (.int k' n)).run P w = .ok () w := by
 have _p := ‹Pins›
 unfold eqGuard
 split <;> rfl
/-- Arithmetic on ints (64 bits, signed), where it fits. -/
theorem zA4 {x y : Operand} {t t' : TypeId} {m n : Int} (hx : ev fr x = some (.int .i64 m)) (hy : ev fr y = some (.int .i64 n)) (hb : -9223372036854775808 ≤ m + n ∧ m + n ≤ 9223372036854775807) :
 QOp ind P fn c fr H ⟨d, .binOp .add t x y t', ty, pos, after, g⟩ (.int .i64 (m + n)) := by
 intro w a σ S hr
 have h1 := hr.evInt hx
 have h2 := hr.evInt hy
 refine ⟨_, .int _ _ _, fun w' _ => ?_⟩
 have h3 : IntKind.i64.wrap (m + n) = m + n := IntWalk.i64_in _ hb
 simp [execOp, h1, h2, zAS, binOp, Op.intArith, h3]
theorem zA1 {x y : Operand} {t t' : TypeId} {m n : Int} (hx : ev fr x = some (.int .i64 m)) (hy : ev fr y = some (.int .i64 n)) (hb : -9223372036854775808 ≤ m - n ∧ m - n ≤ 9223372036854775807) :
 QOp ind P fn c fr H ⟨d, .binOp .sub t x y t', ty, pos, after, g⟩ (.int .i64 (m - n)) := by
 intro w a σ S hr
 have h1 := hr.evInt hx
 have h2 := hr.evInt hy
 refine ⟨_, .int _ _ _, fun w' _ => ?_⟩
 have h3 : IntKind.i64.wrap (m - n) = m - n := IntWalk.i64_in _ hb
 simp [execOp, h1, h2, zAS, binOp, Op.intArith, h3]
theorem zDF {x y : Operand} {t t' : TypeId} {m n : Int} (hx : ev fr x = some (.int .i64 m)) (hy : ev fr y = some (.int .i64 n)) (hb : -9223372036854775808 ≤ m * n ∧ m * n ≤ 9223372036854775807) :
 QOp ind P fn c fr H ⟨d, .binOp .mul t x y t', ty, pos, after, g⟩ (.int .i64 (m * n)) := by
 intro w a σ S hr
 have h1 := hr.evInt hx
 have h2 := hr.evInt hy
 refine ⟨_, .int _ _ _, fun w' _ => ?_⟩
 have h3 : IntKind.i64.wrap (m * n) = m * n := IntWalk.i64_in _ hb
 simp [execOp, h1, h2, zAS, binOp, Op.intArith, h3]
/-- Arithmetic that may wrap. -/
theorem zHI {op : BinOp} {x y : Operand} {t t' : TypeId} {k : IntKind} {m n : Int} (hx : ev fr x = some (.int k m)) (hy : ev fr y = some (.int k n)) {r : Int}
 (ho : (match op with | .add => some (k.wrap (m + n)) | .sub => some (k.wrap (m - n)) | .mul => some (k.wrap (m * n)) | _ => none) = some r) :
 QOp ind P fn c fr H ⟨d, .binOp op t x y t', ty, pos, after, g⟩ (.int k r) := by
 intro w a σ S hr
 have h1 := hr.evInt hx
 have h2 := hr.evInt hy
 refine ⟨_, .int _ _ _, fun w' _ => ?_⟩
 cases op <;> simp at ho <;> subst ho <;> simp [execOp, h1, h2, zAS, binOp, Op.intArith]
theorem zIB {x y : Operand} {t t' : TypeId} {m n : Int} (hx : ev fr x = some (.int .i64 m)) (hy : ev fr y = some (.int .i64 n)) (hb : 0 ≤ m ∧ m ≤ 9223372036854775807 ∧ 0 < n) :
 QOp ind P fn c fr H ⟨d, .binOp .quo t x y t', ty, pos, after, g⟩ (.int .i64 (m / n)) := by
 intro w a σ S hr
 have h1 := hr.evInt hx
 have h2 := hr.evInt hy
 refine ⟨_, .int _ _ _, fun w' _ => ?_⟩
 have hn : ¬ n = 0 := by omega
 have h4 : m.tdiv n = m / n := Int.tdiv_eq_ediv_of_nonneg hb.1
 have h5 : 0 ≤ m / n := Int.ediv_nonneg hb.1 (by omega)
 have h6 : m / n ≤ m := Int.ediv_le_self _ hb.1
 have h3 : IntKind.i64.wrap (m / n) = m / n := IntWalk.i64_in _ ⟨by omega, by omega⟩
 simp [execOp, h1, h2, zAS, binOp, Op.intDiv, hn, h4, h3]
theorem zJF {x y : Operand} {t t' : TypeId} {k : IntKind} {m n : Int} (hx : ev fr x = some (.int k m)) (hy : ev fr y = some (.int k n)) (hb : 0 ≤ m ∧ ¬ n = 0) :
 QOp ind P fn c fr H ⟨d, .binOp .rem t x y t', ty, pos, after, g⟩ (.int k (m % n)) := by
 intro w a σ S hr
 have h1 := hr.evInt hx
 have h2 := hr.evInt hy
 refine ⟨_, .int _ _ _, fun w' _ => ?_⟩
 have h4 : m.tmod n = m % n := Int.tmod_eq_emod_of_nonneg hb.1
 simp [execOp, h1, h2, zAS, binOp, Op.intDiv, hb.2, h4]
instance (m n : Int) : Decidable (¬ m = n) := inferInstance
section
variable {x y : Operand} {t t' : TypeId} {k : IntKind} {m n : Int} (hx : ev fr x = some (.int k m)) (hy : ev fr y = some (.int k n))
include hx hy
theorem zBp : QOp ind P fn c fr H ⟨d, .binOp .eql t x y t', ty, pos, after, g⟩ (.bool (decide (m = n))) := by
 intro w a σ S hr
 refine ⟨_, .bool _ _, fun w' _ => ?_⟩
 simp [execOp, hr.evInt hx, hr.evInt hy, zAS, binOp, Op.intCmp]
 rfl
theorem zBh : QOp ind P fn c fr H ⟨d, .binOp .neq t x y t', ty, pos, after, g⟩ (.bool (decide (¬ m = n))) := by
 intro w a σ S hr
 refine ⟨_, .bool _ _, fun w' _ => ?_⟩
 simp [execOp, hr.evInt hx, hr.evInt hy, zAS, binOp, Op.intCmp]
 by_cases h : m = n <;> simp [h]
theorem zCR : QOp ind P fn c fr H ⟨d, .binOp .lss t x y t', ty, pos, after, g⟩ (.bool (decide (m < n))) := by
 intro w a σ S hr
 refine ⟨_, .bool _ _, fun w' _ => ?_⟩
 simp [execOp, hr.evInt hx, hr.evInt hy, zAS, binOp, Op.intCmp]
theorem q_leq : QOp ind P fn c fr H ⟨d, .binOp .leq t x y t', ty, pos, after, g⟩ (.bool (decide (m ≤ n))) := by
 intro w a σ S hr
 refine ⟨_, .bool _ _, fun w' _ => ?_⟩
 simp [execOp, hr.evInt hx, hr.evInt hy, zAS, binOp, Op.intCmp]
theorem zCa : QOp ind P fn c fr H ⟨d, .binOp .gtr t x y t', ty, pos, after, g⟩ (.bool (decide (n < m))) := by
 intro w a σ S hr
 refine ⟨_, .bool _ _, fun w' _ => ?_⟩
 simp [execOp, hr.evInt hx, hr.evInt hy, zAS, binOp, Op.intCmp]
theorem zEZ : QOp ind P fn c fr H ⟨d, .binOp .geq t x y t', ty, pos, after, g⟩ (.bool (decide (n ≤ m))) := by
 intro w a σ S hr
 refine ⟨_, .bool _ _, fun w' _ => ?_⟩
 simp [execOp, hr.evInt hx, hr.evInt hy, zAS, binOp, Op.intCmp]
end
theorem zDl {x : Operand} {t : TypeId} {b : Bool} (hx : ev fr x = some (.bool b)) : QOp ind P fn c fr H ⟨d, .unOp .not t x, ty, pos, after, g⟩ (.bool (!b)) := by
 intro w a σ S hr
 refine ⟨_, .bool _ _, fun w' _ => ?_⟩
 simp [execOp, hr.evBool hx, Op.unary]
theorem q_neg {x : Operand} {t : TypeId} {m : Int} (hx : ev fr x = some (.int .i64 m)) (hb : -9223372036854775807 ≤ m ∧ m ≤ 9223372036854775807) : QOp ind P fn c fr H ⟨d, .unOp .neg t x, ty, pos, after, g⟩ (.int .i64 (-m)) := by
 intro w a σ S hr
 refine ⟨_, .int _ _ _, fun w' _ => ?_⟩
 have h3 : IntKind.i64.wrap (0 - m) = -m := by rw [IntWalk.i64_in _ ⟨by omega, by omega⟩]; omega
 simp [execOp, hr.evInt hx, Op.unary, Op.intArith]
 simpa using h3
/-- A conversion between integer types. -/
theorem zJD {x : Operand} {src dst : TypeId} {k k' : IntKind} {u : TypeDesc} {m : Int} (hs : P.underlying src = some u) (hd : P.underlying dst = some (.int k')) (hx : ev fr x = some (.int k m)) :
 QOp ind P fn c fr H ⟨d, .convert src dst x, ty, pos, after, g⟩ (.int k' (k'.wrap m)) := by
 intro w a σ S hr
 refine ⟨_, .int _ _ _, fun w' _ => ?_⟩
 cases u <;> simp [execOp, hr.evInt hx, convert, run_underlying hs, run_underlying hd, Conv.intToInt]
theorem zMG {x : Operand} {src dst : TypeId} {k : IntKind} {u : TypeDesc} {m : Int} (hs : P.underlying src = some u) (hd : P.underlying dst = some (.int .i64)) (hx : ev fr x = some (.int k m)) (hb : -9223372036854775808 ≤ m ∧ m ≤ 9223372036854775807) :
 QOp ind P fn c fr H ⟨d, .convert src dst x, ty, pos, after, g⟩ (.int .i64 m) := by
 have h3 : IntKind.i64.wrap m = m := IntWalk.i64_in _ hb
 have := zJD (ind := ind) (P := P) (fn := fn) (c := c) (fr := fr) (H := H) (d := d) (ty := ty) (pos := pos) (after := after) (g := g) (x := x) (src := src) (dst := dst) hs hd hx
 rwa [h3] at this
theorem zAC {x : Operand} {i : Nat} {l : List AV} {v : AV} (hx : ev fr x = some (.tup l)) (hv : l[i]? = some v) : QOp ind P fn c fr H ⟨d, .extract x i, ty, pos, after, g⟩ v := by
 intro w a σ S hr
 have h1 := hr.evAt hx
 generalize hz : a.eval x = z at h1
 cases h1 with
 | tup _ _ vs hl hv' =>
  have hi : i < l.length := (List.getElem?_eq_some_iff.1 hv).1
  have h2 := hv' i hi
  have h3 : l.getD i .any = v := by simp [List.getD, hv]
  rw [h3] at h2
  have h4 : vs[i]? = some (vs.getD i undef) := by simp [Array.getD, hl, hi]
  generalize vs.getD i undef = y at h2 h4
  refine ⟨y, h2, fun w' _ => ?_⟩
  simp [execOp, hz, Instr.extract, h4]
/-- len -/
theorem zBK {x : Operand} {t : TypeId} {e : TypeId} {v : AV} {n : Nat} (ht : P.underlying t = some (.slice e)) (hx : ev fr x = some v) (hn : (match v with | .ro _ _ n => some n | .sl _ _ n => some n | .nil => some 0 | _ => none) = some n) :
 QOp ind P fn c fr H ⟨d, .call { callee := .builtin .len, args := #[x], argTypes := #[t] }, ty, pos, after, g⟩ (.int .i64 n) := by
 intro w a σ S hr
 have h1 := hr.evAt hx
 generalize hz : a.eval x = z at h1
 refine ⟨_, .int _ _ _, fun w' _ => ?_⟩
 cases h1 <;> simp at hn <;> subst hn <;> simp [execOp, resolve, hz, invoke, builtin, Builtin.len_, run_underlying ht, goInt]
theorem zE5 {x : Operand} {t : TypeId} {s : List UInt8} (ht : P.underlying t = some .string) (hx : ev fr x = some (.str s)) :
 QOp ind P fn c fr H ⟨d, .call { callee := .builtin .len, args := #[x], argTypes := #[t] }, ty, pos, after, g⟩ (.int .i64 s.length) := by
 intro w a σ S hr
 have h1 := hr.evStr hx
 refine ⟨_, .int _ _ _, fun w' _ => ?_⟩
 have h2 : (⟨s.toArray⟩ : ByteArray).size = s.length := zLF s
 simp [execOp, resolve, h1, zGs, invoke, builtin, Builtin.len_, run_underlying ht, goInt, h2]
/-- The address of an element. -/
theorem zM0 {x i : Operand} {t e : TypeId} {cl : Cells} {o len : Nat} {k : IntKind} {m : Int} (ht : P.underlying t = some (.slice e)) (hs : (P.info? e).map (·.size) = some cl.sz) (hx : ev fr x = some (.ro cl o len)) (hi : ev fr i = some (.int k m)) (hb : 0 ≤ m ∧ m < len) :
 QOp ind P fn c fr H ⟨d, .indexAddr t x i, ty, pos, after, g⟩ (.rp cl (o + m.toNat) 0) := by
 intro w a σ S hr
 have h1 := hr.evAt hx
 have h2 := hr.evInt hi
 generalize hz : a.eval x = z at h1
 cases h1 with
 | ro0 => omega
 | ro _ _ _ _ b of cap val hS hlen hc hv h1' =>
  have hmn : m.toNat < len := by omega
  refine ⟨.pointer (some ⟨b, of + m.toNat * cl.sz, none⟩), .rp _ _ _ _ _ _ (fun e => val m.toNat e) hS (fun e he => ?_) (fun e he => ?_) (fun e he => h1' m.toNat e hmn (by simpa using he)), fun w' _ => ?_⟩
  ·simp only [Nat.zero_add] at he
   exact hc m.toNat e hmn he
  ·simp only [Nat.zero_add] at he ⊢
   exact hv m.toNat e hmn he
  ·cases hq : P.info? e with
   | none => simp [hq] at hs
   | some inf =>
    have hsz : inf.size = cl.sz := by simpa [hq] using hs
    simp [execOp, hz, h2, Instr.indexAt, asIntOf, run_underlying ht, hb, sizeOf, typeInfo, hq, hsz, Addr.add_lit]
theorem zM1 {x i : Operand} {t e : TypeId} {h o len : Nat} {ob : AObj} {k : IntKind} {m : Int} (ht : P.underlying t = some (.slice e)) (hx : ev fr x = some (.sl h o len)) (hh : H[h]? = some (some ob)) (hs : (P.info? e).map (·.size) = some ob.c.sz) (hi : ev fr i = some (.int k m)) (hb : 0 ≤ m ∧ m < len) :
 QOp ind P fn c fr H ⟨d, .indexAddr t x i, ty, pos, after, g⟩ (.ptr h (o + m.toNat) 0) := by
 intro w a σ S hr
 have h1 := hr.evAt hx
 have h2 := hr.evInt hi
 generalize hz : a.eval x = z at h1
 cases h1 with
 | sl0 => omega
 | sl _ _ _ _ b s C cap hσ hlen hcap =>
  rcases hr.hr.live h ob hh with ⟨hn, _⟩ | ⟨b', C', cur, hσ', h3⟩
  ·rw [hσ] at hn; cases hn
  ·rw [hσ] at hσ'
   simp only [Option.some.injEq, Blk.at.injEq] at hσ'
   obtain ⟨rfl, rfl, rfl⟩ := hσ'
   refine ⟨_, .ptr _ h (o + m.toNat) 0 b ob.c.sz C hσ, fun w' _ => ?_⟩
   cases hq : P.info? e with
   | none => simp [hq] at hs
   | some inf =>
    have hsz : inf.size = ob.c.sz := by simpa [hq] using hs
    simp [execOp, hz, h2, Instr.indexAt, asIntOf, run_underlying ht, hb, sizeOf, typeInfo, hq, hsz, Addr.add_lit, Nat.add_mul]
def zBO : TypeDesc → Bool
 | .struct _ => true
 | .array _ _ => true
 | _ => false
theorem zCY {t : TypeId} {u : TypeDesc} {w : World} (ht : P.underlying t = some u) : (isAgg t).run P w = .ok (zBO u) w := by
 have _p := ‹Pins›
 unfold isAgg
 simp only [Sem.run_bind, run_underlying ht, Result.andThen_ok]
 cases u <;> rfl
/-- Reading one cell. -/
theorem zGK {x : Operand} {t : TypeId} {u : TypeDesc} {cl : Cells} {i j : Nat} {v : AV} (ht : P.underlying t = some u) (hu : zBO u = false) (hx : ev fr x = some (.rp cl i j)) (hj : Nat.blt j cl.sz = true) (hv : cl.at i j = v) :
 QOp false P fn c fr H ⟨d, .load t x, ty, pos, after, g⟩ v := by
 intro w a σ S hr
 have h1 := hr.evAt hx
 generalize hz : a.eval x = z at h1
 cases h1 with
 | rp _ _ _ _ b o val hS hc hvv h1' =>
  have hj' : j + 0 < cl.sz := Nat.le_of_ble_eq_true hj
  have h2 := hvv 0 hj'
  have h3 := hc 0 hj'
  simp only [Nat.add_zero, hv] at h2 h3
  refine ⟨val 0, h2.mono (fun _ h => h) (fun _ _ => rfl) _ (fun _ _ h => by cases h), fun w' hw => ?_⟩
  have hw := hw.resolve_left (by decide)
  have h4 : w'.cell? ⟨b, o, none⟩ = some (val 0) := by rw [← h3]; exact World.cell?_of_block (by rw [hw])
  simp [execOp, hz, Instr.loadAt, Instr.sureAddr, loadVar, zCY ht, hu, load, Sem.run, h4]
theorem zFK {x : Operand} {t : TypeId} {u : TypeDesc} {h i j : Nat} {ob : AObj} {v : AV} (ht : P.underlying t = some u) (hu : zBO u = false) (hx : ev fr x = some (.ptr h i j)) (hh : H[h]? = some (some ob)) (hj : Nat.blt j ob.c.sz = true) (hv : ob.c.at i j = v) (hi : i < ob.c.len) :
 QOp false P fn c fr H ⟨d, .load t x, ty, pos, after, g⟩ v := by
 intro w a σ S hr
 have h1 := hr.evAt hx
 generalize hz : a.eval x = z at h1
 cases h1 with
 | ptr _ _ _ _ b s C hσ =>
  rcases hr.hr.live h ob hh with ⟨hn, _⟩ | ⟨b', C', cur, hσ', h3, h4, h5, h6, h7, h8⟩
  ·rw [hσ] at hn; cases hn
  ·rw [hσ] at hσ'
   simp only [Option.some.injEq, Blk.at.injEq] at hσ'
   obtain ⟨rfl, rfl, rfl⟩ := hσ'
   obtain ⟨y, hy1, hy2, hy3⟩ := h8 i j hi (Nat.le_of_ble_eq_true hj)
   obtain ⟨mk, h3, _, _⟩ := h3.cells (by have := Nat.le_of_ble_eq_true hj; omega)
   rw [hv] at hy2
   refine ⟨y, hy2, fun w' hw => ?_⟩
   have hw := hw.resolve_left (by decide)
   have h9 : w'.cell? ⟨b, i * ob.c.sz + j, none⟩ = some y := by simp [World.cell?, hw, h3, hy1]
   simp [execOp, hz, Instr.loadAt, Instr.sureAddr, loadVar, zCY ht, hu, load, Sem.run, h9]
end
end Go.Ax
namespace Go.Ax
variable [Pins]
open Go.RowKit
/-- A store of one cell. -/
def Cells.upd : Cells → Nat → Nat → AV → Option Cells
 | .ints k l, i, _, v => match v with
  | .int k' n => match k, k' with
   | .i64, .i64 => some (.ints k (l.set i n))
   | .u8, .u8 => some (.ints k (l.set i n))
   | .u64, .u64 => some (.ints k (l.set i n))
   | .i32, .i32 => some (.ints k (l.set i n))
   | .u32, .u32 => some (.ints k (l.set i n))
   | _, _ => none
  | _ => none
 | .strs l, i, _, v => match v with
  | .str s => some (.strs (l.set i s))
  | _ => none
 | .box l, _, j, v => some (.box (l.set j v))
 | .mp _ _, _, _, _ => none
 | .fn n s f, i, j, v => some (.fn n s (fun i' j' => bif Nat.beq i' i && Nat.beq j' j then v else f i' j'))
def AV.one : AV → Bool
 | .agg _ => false
 | .tup _ => false
 | .any => false
 | _ => true
theorem VR.one {w : World} {S : Nat → Prop} {σ : Nat → Option Blk} {x : AV} {v : Value} (h : VR w S σ x v) (hx : x.one = true) : v.oneCell' = true := by
 have _p := ‹Pins›
 cases h <;> first | rfl | cases hx
theorem Cells.upd_spec {c c' : Cells} {i j : Nat} {v : AV} (h : c.upd i j v = some c') : c'.len = c.len ∧ c'.sz = c.sz ∧ ∀ i' j', i' < c.len → j' < c.sz → i < c.len → j < c.sz → c'.at i' j' = if i' = i ∧ j' = j then v else c.at i' j' := by
 have _p := ‹Pins›
 cases c with
 | ints k l =>
  have : ∃ n, v = .int k n ∧ c' = .ints k (l.set i n) := by
   cases v <;> simp only [Cells.upd] at h <;> try (cases h; done)
   rename_i k' n
   cases k <;> cases k' <;> simp at h <;> exact ⟨n, rfl, h.symm⟩
  obtain ⟨n, rfl, rfl⟩ := this
  refine ⟨by simp [Cells.len], U, fun i' j' hi hj hi2 hj2 => ?_⟩
  simp only [Cells.len, Cells.sz] at hi hj hi2 hj2
  have e1 : j' = 0 := by omega
  have e2 : j = 0 := by omega
  subst e1 e2
  simp only [Cells.at, and_true]
  by_cases he : i' = i
  ·subst he; simp [List.getD, hi]
  ·have : ¬ i = i' := fun e => he e.symm
   simp [List.getD, he, this]
 | strs l =>
  have : ∃ n, v = .str n ∧ c' = .strs (l.set i n) := by
   cases v <;> simp only [Cells.upd] at h <;> try (cases h; done)
   exact ⟨_, U, (Option.some.inj h).symm⟩
  obtain ⟨n, rfl, rfl⟩ := this
  refine ⟨by simp [Cells.len], U, fun i' j' hi hj hi2 hj2 => ?_⟩
  simp only [Cells.len, Cells.sz] at hi hj hi2 hj2
  have e1 : j' = 0 := by omega
  have e2 : j = 0 := by omega
  subst e1 e2
  simp only [Cells.at, and_true]
  by_cases he : i' = i
  ·subst he; simp [List.getD, hi]
  ·have : ¬ i = i' := fun e => he e.symm
   simp [List.getD, he, this]
 | box l =>
  simp only [Cells.upd, Option.some.injEq] at h
  subst h
  refine ⟨U, by simp [Cells.sz], fun i' j' hi hj hi2 hj2 => ?_⟩
  simp only [Cells.len, Cells.sz] at hi hj hi2 hj2
  have e1 : i' = 0 := by omega
  have e2 : i = 0 := by omega
  subst e1 e2
  simp only [Cells.at, true_and]
  by_cases he : j' = j
  ·subst he; simp [List.getD, hj]
  ·have : ¬ j = j' := fun e => he e.symm
   simp [List.getD, he, this]
 | fn n s f =>
  simp only [Cells.upd, Option.some.injEq] at h
  subst h
  refine ⟨U, U, fun i' j' hi hj hi2 hj2 => ?_⟩
  simp only [Cells.at]
  by_cases he : i' = i
  ·subst he
   by_cases he2 : j' = j
   ·subst he2; simp
   ·simp [zBX he2, he2]
  ·simp [zBX he, he]
 | mp ks vs => cases h
/-- A live object lies in its block. -/
theorem Rep.obj {c : Ctx} {w : World} {a : Act} {σ : Nat → Option Blk} {S : Nat → Prop} {n : Nat} {fr : Fr} {H : zP} (hr : Rep c w a σ S n fr H) {h b s C : Nat} {o : AObj} (hh : H[h]? = some (some o)) (hσ : σ h = some (.at b s C)) :
 s = o.c.sz ∧ ∃ cur, Lays w S σ o b cur C ∧ cur.size = C * o.c.sz ∧ C ≤ maxLen + 1 ∧ o.c.len ≤ C ∧ ¬ S b ∧
  ∀ i j, i < o.c.len → j < o.c.sz → ∃ v, cur[i * o.c.sz + j]? = some v ∧ VR w S σ (o.c.at i j) v ∧ v.oneCell' = true := by
 rcases hr.hr.live h o hh with ⟨hn, _⟩ | ⟨b', C', cur, hσ', h3⟩
 ·rw [hσ] at hn; cases hn
 ·rw [hσ] at hσ'
  simp only [Option.some.injEq, Blk.at.injEq] at hσ'
  obtain ⟨rfl, rfl, rfl⟩ := hσ'
  exact ⟨U, cur, h3⟩
/-- A block of an object of one's own is written anew. -/
theorem Rep.setRow {c : Ctx} {w : World} {a : Act} {σ : Nat → Option Blk} {S : Nat → Prop} {n : Nat} {fr : Fr} {H : zP} (hr : Rep c w a σ S n fr H) {h b s C : Nat} {o : AObj} (hh : H[h]? = some (some o)) (hσ : σ h = some (.at b s C))
 {c' : Cells} {cur' : Array Value} (hrow : C ≤ maxLen) (hsz : c'.sz = o.c.sz) (hlen : c'.len ≤ C) (hcur : cur'.size = C * o.c.sz)
 (hc : ∀ i j, i < c'.len → j < c'.sz → ∃ v, cur'[i * c'.sz + j]? = some v ∧ VR w S σ (c'.at i j) v ∧ v.oneCell' = true) :
 Rep c (w.setRow b cur') a σ S n fr (H.set h (some ⟨o.ty, c'⟩)) := by
 obtain ⟨hs, cur, h1, h2, h3, h4, h5, h6⟩ := hr.obj hh hσ
 obtain ⟨mk, h1, hmk⟩ := h1.cellsC hrow
 have hlt : h < H.length := (List.getElem?_eq_some_iff.1 hh).1
 have hS : ∀ b', S b' → (w.setRow b cur').heap[b']? = w.heap[b']? := fun b' hb => setRow_other w b b' cur' (fun e => h5 (e ▸ hb))
 have hv : ∀ {σ' : Nat → Option Blk} {x v}, VR w S σ' x v → VR (w.setRow b cur') S σ' x v := fun h => h.mono (fun _ h => h) hS _ (fun _ _ h => h)
 have hset : ∀ h' o', (H.set h (some ⟨o.ty, c'⟩))[h']? = some (some o') → (h' = h ∧ o' = ⟨o.ty, c'⟩) ∨ (h' ≠ h ∧ H[h']? = some (some o')) := by
  intro h' o' ho
  by_cases he : h' = h
  ·subst he
   simp only [List.getElem?_set_self hlt, Option.some.injEq] at ho
   exact .inl ⟨U, ho.symm⟩
  ·rw [List.getElem?_set_ne (Ne.symm he)] at ho
   exact .inr ⟨he, ho⟩
 have hown := hr.kp.own h o b s C hh hσ
 refine ⟨⟨?_, ?_, fun b' hb => by rw [setRow_size]; exact hr.hr.small b' hb, fun h' hl => hr.hr.dom h' (by simpa using hl)⟩, ?_, hr.defers, hr.size, fun t v hl => ⟨(hr.slots t v hl).1, hv (hr.slots t v hl).2⟩⟩
 ·intro h' o' ho
  rcases hset h' o' ho with ⟨rfl, rfl⟩ | ⟨hne, ho'⟩
  ·right
   refine ⟨b, C, cur', ?_, .row mk (setRow_heap w b cur cur' _ _ h1) (by rw [hcur, ← h2]; exact hmk) hrow, by simpa [hsz] using hcur, h3, hlen, h5, fun i j hi hj => ?_⟩
   ·rw [hσ, hs, hsz]
   ·obtain ⟨v, e1, e2, e3⟩ := hc i j hi hj
    exact ⟨v, e1, hv e2, e3⟩
  ·rcases hr.hr.live h' o' ho' with hn | ⟨b', C', cu, g1, g2, g3, g4, g5, g6, g7⟩
   ·exact .inl hn
   ·right
    have hbb : b' ≠ b := fun e => hne (hr.hr.dist h' h o' o b' o'.c.sz C' s C ho' hh g1 (by rw [hσ, e]))
    refine ⟨b', C', cu, g1, g2.mono (setRow_other w b b' cur' hbb) hv, g3, g4, g5, g6, fun i j hi hj => ?_⟩
    obtain ⟨v, e1, e2, e3⟩ := g7 i j hi hj
    exact ⟨v, e1, hv e2, e3⟩
 ·intro h1' h2' o1 o2 b' s1 C1 s2 C2 g1 g2 e1 e2
  have t1 : ∃ o, H[h1']? = some (some o) := by
   rcases hset h1' o1 g1 with ⟨rfl, _⟩ | ⟨_, g⟩
   ·exact ⟨_, hh⟩
   ·exact ⟨_, g⟩
  have t2 : ∃ o, H[h2']? = some (some o) := by
   rcases hset h2' o2 g2 with ⟨rfl, _⟩ | ⟨_, g⟩
   ·exact ⟨_, hh⟩
   ·exact ⟨_, g⟩
  obtain ⟨_, t1⟩ := t1
  obtain ⟨_, t2⟩ := t2
  exact hr.hr.dist h1' h2' _ _ b' s1 C1 s2 C2 t1 t2 e1 e2
 ·refine ⟨hr.kp.os, hr.kp.output, hr.kp.tape, by rw [setRow_size]; exact hr.kp.size, fun b' hb ho => ?_, hr.kp.S1, hr.kp.S2, hr.kp.fixed, fun h' hf => by simpa using hr.kp.fixlt h' hf, ?_⟩
  ·have hbb : b' ≠ b := by
    rintro rfl
    rcases hown with h | h
    ·exact ho h
    ·omega
   rw [setRow_other w b b' cur' hbb]
   exact hr.kp.block b' hb ho
  ·intro h' o' b' s' C' ho hb
   rcases hset h' o' ho with ⟨rfl, _⟩ | ⟨_, g⟩
   ·exact hr.kp.own _ _ b' s' C' hh hb
   ·exact hr.kp.own h' o' b' s' C' g hb
def upσ (σ : Nat → Option Blk) (h : Nat) (B : Blk) : Nat → Option Blk := fun h' => if h' = h then some B else σ h'
/-- A new object, in a new block. -/
theorem Rep.allocM {c : Ctx} {w : World} {a : Act} {σ : Nat → Option Blk} {S : Nat → Prop} {n : Nat} {fr : Fr} {H : zP} (hr : Rep c w a σ S n fr H) {o : AObj} {C : Nat} {cur : Array Value} {mk : Nat × Nat} (hlen : o.c.len ≤ C) (hC : C ≤ maxLen) (hcur : cur.size = C * o.c.sz)
 (hc : ∀ i j, i < o.c.len → j < o.c.sz → ∃ v, cur[i * o.c.sz + j]? = some v ∧ VR w S σ (o.c.at i j) v ∧ v.oneCell' = true) (hmk : mk.2 ≤ mk.1 ∨ cur.size ≤ mk.1) :
 Rep c (w.alloc (.cells cur o.ty mk)) a (upσ σ H.length (.at w.heap.size o.c.sz C)) S n fr (H ++ [some o]) := by
 have hold : ∀ b, b < w.heap.size → (w.alloc (.cells cur o.ty mk)).heap[b]? = w.heap[b]? := fun b hb => Below.heap_alloc _ _ b hb
 have hext : ∀ h B, σ h = some B → upσ σ H.length (.at w.heap.size o.c.sz C) h = some B := by
  intro h B hB
  unfold upσ
  split
  ·rename_i he; rw [he, hr.hr.dom _ (Nat.le_refl _)] at hB; cases hB
  ·exact hB
 have hv : ∀ {x v}, VR w S σ x v → VR (w.alloc (.cells cur o.ty mk)) S (upσ σ H.length (.at w.heap.size o.c.sz C)) x v :=
  fun h => h.mono (fun _ h => h) (fun b hb => hold b (hr.hr.small b hb)) _ hext
 have hset : ∀ h' o', (H ++ [some o])[h']? = some (some o') → (h' = H.length ∧ o' = o) ∨ (h' < H.length ∧ H[h']? = some (some o')) := by
  intro h' o' ho
  by_cases he : h' < H.length
  ·rw [List.getElem?_append_left he] at ho; exact .inr ⟨he, ho⟩
  ·by_cases he2 : h' = H.length
   ·subst he2; simp at ho; exact .inl ⟨rfl, ho.symm⟩
   ·have : (H ++ [some o]).length ≤ h' := by simp; omega
    rw [List.getElem?_eq_none this] at ho; cases ho
 have hσlt : ∀ h o' b s C', h < H.length → H[h]? = some (some o') → σ h = some (.at b s C') → b < w.heap.size := by
  intro h o' b s C' _ ho hb
  obtain ⟨_, cu, g, _⟩ := hr.obj ho hb
  exact g.lt
 refine ⟨⟨?_, ?_, fun b hb => by have := hr.hr.small b hb; simp; omega, fun h hl => ?_⟩, ?_, hr.defers, hr.size, fun t v hl => ⟨(hr.slots t v hl).1, hv (hr.slots t v hl).2⟩⟩
 ·intro h' o' ho
  rcases hset h' o' ho with ⟨rfl, rfl⟩ | ⟨hlt, ho'⟩
  ·right
   refine ⟨w.heap.size, C, cur, by simp [upσ], .row mk (heap_alloc_new w _) hmk hC, hcur, Nat.le_succ_of_le hC, hlen, fun hs => Nat.lt_irrefl _ (hr.hr.small _ hs), fun i j hi hj => ?_⟩
   obtain ⟨v, e1, e2, e3⟩ := hc i j hi hj
   exact ⟨v, e1, hv e2, e3⟩
  ·rcases hr.hr.live h' o' ho' with ⟨hn, hl0⟩ | ⟨b', C', cu, g1, g2, g3, g4, g5, g6, g7⟩
   ·exact .inl ⟨hext _ _ hn, hl0⟩
   ·right
    refine ⟨b', C', cu, hext _ _ g1, g2.mono (hold b' g2.lt) hv, g3, g4, g5, g6, fun i j hi hj => ?_⟩
    obtain ⟨v, e1, e2, e3⟩ := g7 i j hi hj
    exact ⟨v, e1, hv e2, e3⟩
 ·intro h1 h2 o1 o2 b s1 C1 s2 C2 g1 g2 e1 e2
  rcases hset h1 o1 g1 with ⟨rfl, rfl⟩ | ⟨l1, g1'⟩ <;> rcases hset h2 o2 g2 with ⟨rfl, rfl⟩ | ⟨l2, g2'⟩
  ·rfl
  ·simp only [upσ, if_true, Option.some.injEq, Blk.at.injEq] at e1
   simp only [upσ, Nat.ne_of_lt l2, if_false] at e2
   have := hσlt h2 o2 b s2 C2 l2 g2' e2
   omega
  ·simp only [upσ, if_true, Option.some.injEq, Blk.at.injEq] at e2
   simp only [upσ, Nat.ne_of_lt l1, if_false] at e1
   have := hσlt h1 o1 b s1 C1 l1 g1' e1
   omega
  ·simp only [upσ, Nat.ne_of_lt l1, Nat.ne_of_lt l2, if_false] at e1 e2
   exact hr.hr.dist h1 h2 o1 o2 b s1 C1 s2 C2 g1' g2' e1 e2
 ·simp only [List.length_append, List.length_cons, List.length_nil] at hl
  have : ¬ h = H.length := by omega
  simp only [upσ, this, if_false]
  exact hr.hr.dom h (by omega)
 ·refine ⟨hr.kp.os, hr.kp.output, hr.kp.tape, by have := hr.kp.size; simp; omega, fun b hb ho => ?_, hr.kp.S1, hr.kp.S2, fun h hf => ?_, fun h hf => by have := hr.kp.fixlt h hf; simp; omega, ?_⟩
  ·rw [hold b (by have := hr.kp.size; omega)]; exact hr.kp.block b hb ho
  ·have := hr.kp.fixlt h hf
   have h2 : ¬ h = H.length := by omega
   simp only [upσ, h2, if_false]
   exact hr.kp.fixed h hf
  ·intro h' o' b s C' ho hb
   rcases hset h' o' ho with ⟨rfl, rfl⟩ | ⟨hlt, ho'⟩
   ·simp only [upσ, if_true, Option.some.injEq, Blk.at.injEq] at hb
    have := hr.kp.size
    omega
   ·simp only [upσ, Nat.ne_of_lt hlt, if_false] at hb
    exact hr.kp.own h' o' b s C' ho' hb
theorem Rep.alloc {c : Ctx} {w : World} {a : Act} {σ : Nat → Option Blk} {S : Nat → Prop} {n : Nat} {fr : Fr} {H : zP} (hr : Rep c w a σ S n fr H) {o : AObj} {C : Nat} {cur : Array Value} (hlen : o.c.len ≤ C) (hC : C ≤ maxLen) (hcur : cur.size = C * o.c.sz)
 (hc : ∀ i j, i < o.c.len → j < o.c.sz → ∃ v, cur[i * o.c.sz + j]? = some v ∧ VR w S σ (o.c.at i j) v ∧ v.oneCell' = true) :
 Rep c (w.alloc (.cells cur o.ty (0, 0))) a (upσ σ H.length (.at w.heap.size o.c.sz C)) S n fr (H ++ [some o]) :=
 hr.allocM hlen hC hcur hc (.inl (Nat.le_refl _))
/-- A new block that nobody will write: it joins the region. -/
theorem Rep.allocRo {c : Ctx} {w : World} {a : Act} {σ : Nat → Option Blk} {S : Nat → Prop} {n : Nat} {fr : Fr} {H : zP} (hr : Rep c w a σ S n fr H) (ob : Obj) :
 Rep c (w.alloc ob) a σ (fun b => S b ∨ b = w.heap.size) n fr H := by
 have hold : ∀ b, b < w.heap.size → (w.alloc ob).heap[b]? = w.heap[b]? := fun b hb => Below.heap_alloc _ _ b hb
 have hv : ∀ {σ' : Nat → Option Blk} {x v}, VR w S σ' x v → VR (w.alloc ob) (fun b => S b ∨ b = w.heap.size) σ' x v :=
  fun h => h.mono (fun _ h => .inl h) (fun b hb => hold b (hr.hr.small b hb)) _ (fun _ _ h => h)
 refine ⟨⟨?_, hr.hr.dist, fun b hb => ?_, hr.hr.dom⟩, ?_, hr.defers, hr.size, fun t v hl => ⟨(hr.slots t v hl).1, hv (hr.slots t v hl).2⟩⟩
 ·intro h' o' ho'
  rcases hr.hr.live h' o' ho' with ⟨hn, hl0⟩ | ⟨b', C', cu, g1, g2, g3, g4, g5, g6, g7⟩
  ·exact .inl ⟨hn, hl0⟩
  ·right
   have hlt := g2.lt
   refine ⟨b', C', cu, g1, g2.mono (hold b' hlt) hv, g3, g4, g5, ?_, fun i j hi hj => ?_⟩
   ·rintro (h | h)
    ·exact g6 h
    ·omega
   ·obtain ⟨v, e1, e2, e3⟩ := g7 i j hi hj
    exact ⟨v, e1, hv e2, e3⟩
 ·rcases hb with h | h
  ·have := hr.hr.small b h; simp; omega
  ·simp; omega
 ·refine ⟨hr.kp.os, hr.kp.output, hr.kp.tape, by have := hr.kp.size; simp; omega, fun b hb ho => ?_, fun b hb => .inl (hr.kp.S1 b hb), fun b hb => ?_, hr.kp.fixed, hr.kp.fixlt, hr.kp.own⟩
  ·rw [hold b (by have := hr.kp.size; omega)]; exact hr.kp.block b hb ho
  ·rcases hb with h | h
   ·exact hr.kp.S2 b h
   ·have := hr.kp.size; exact .inr (.inr (by omega))
end Go.Ax
namespace Go.Ax
variable [Pins]
open Go.RowKit
section
variable {P : Program} {fn : Func} {c : Ctx} {fr : Fr} {H : zP} {k : List It}
/-- One operation that yields a value and changes the state. -/
theorem ax_w {all : Array Oper} {d : Nat} {op : Op} {ty : TypeId} {pos : String} {after : Array Edge} {rest : List Oper} {v : AV} {fr' : Fr} {H' : zP}
 (hop : ∀ w a σ S, Rep c w a σ S fn.ntmps fr H → ∃ x w' σ' S', (execOp a.eval ⟨some d, op, ty, pos, after, none⟩).run P w = .ok (.value x) w' ∧ Rep c w' a σ' S' fn.ntmps fr' H' ∧ VR w' S' σ' v x)
 (h : Ax P fn c (.ops false all rest k) ((d, v) :: fr') H') : Ax P fn c (.ops false all (⟨some d, op, ty, pos, after, none⟩ :: rest) k) fr H := by
 intro hd w a σ S hr
 obtain ⟨hd1, hd2⟩ := zBV hd
 obtain ⟨x, w', σ', S', hrun, hr', hx⟩ := hop w a σ S hr
 refine wpList_step (fun K hK => ?_)
 simp only [Region.wanted, if_true]
 unfold Oper.wp
 rw [hrun]
 exact hK _ _ (h hd2 w' _ σ' S' (hr'.put hx (hd1 d U)))
/-- One operation that yields nothing and changes the state. -/
theorem ax_w0 {all : Array Oper} {op : Op} {ty : TypeId} {pos : String} {after : Array Edge} {rest : List Oper} {fr' : Fr} {H' : zP}
 (hop : ∀ w a σ S, Rep c w a σ S fn.ntmps fr H → ∃ w' σ' S', (execOp a.eval ⟨none, op, ty, pos, after, none⟩).run P w = .ok .skip w' ∧ Rep c w' a σ' S' fn.ntmps fr' H')
 (h : Ax P fn c (.ops false all rest k) fr' H') : Ax P fn c (.ops false all (⟨none, op, ty, pos, after, none⟩ :: rest) k) fr H := by
 intro hd w a σ S hr
 obtain ⟨_, hd2⟩ := zBV hd
 obtain ⟨w', σ', S', hrun, hr'⟩ := hop w a σ S hr
 refine wpList_step (fun K hK => ?_)
 simp only [Region.wanted, if_true]
 unfold Oper.wp
 rw [hrun]
 exact hK _ _ (h hd2 w' _ σ' S' hr')
theorem zEg {t : TypeId} {s : Nat} {w : World} (hs : (P.info? t).map (·.size) = some s) : (sizeOf t).run P w = .ok s w := by
 have _p := ‹Pins›
 cases hq : P.info? t with
 | none => simp [hq] at hs
 | some i => simp [hq] at hs; subst hs; simp [sizeOf, typeInfo, hq]
/-- A store of one cell. -/
theorem zAJ {all : Array Oper} {t : TypeId} {x y : Operand} {ty : TypeId} {pos : String} {after : Array Edge} {rest : List Oper} {h i j : Nat} {ob : AObj} {v : AV} {c' : Cells}
 (hx : ev fr x = some (.ptr h i j)) (hy : ev fr y = some v) (hone : v.one = true) (hs : (P.info? t).map (·.size) = some 1) (hh : H[h]? = some (some ob)) (hj : Nat.blt j ob.c.sz = true) (hu : ob.c.upd i j v = some c') (hi : i < ob.c.len)
 (hk : Ax P fn c (.ops false all rest k) fr (H.set h (some ⟨ob.ty, c'⟩))) : Ax P fn c (.ops false all (⟨none, .store t x y, ty, pos, after, none⟩ :: rest) k) fr H := by
 refine ax_w0 (fun w a σ S hr => ?_) hk
 have h1 := hr.evAt hx
 have h2 := hr.evAt hy
 have hj' : j < ob.c.sz := Nat.le_of_ble_eq_true hj
 generalize hz : a.eval x = z at h1
 generalize hzy : a.eval y = u at h2
 have hone' := h2.one hone
 cases h1 with
 | ptr _ _ _ _ b s C hσ =>
  obtain ⟨hs', cur, g1, g2, g3, g4, g5, g6⟩ := hr.obj hh hσ
  subst hs'
  obtain ⟨mk, g1, hmk, hrow⟩ := g1.cells (by omega)
  obtain ⟨l1, l2, hat⟩ := Cells.upd_spec hu
  have hin : i * ob.c.sz + j < cur.size := by
   rw [g2]
   have : (i + 1) * ob.c.sz ≤ C * ob.c.sz := Nat.mul_le_mul_right _ (by omega)
   rw [Nat.add_mul] at this; omega
  refine ⟨w.setRow b (cur.setIfInBounds (i * ob.c.sz + j) u), σ, S, ?_, hr.setRow hh hσ hrow l2 (by omega) (by simpa using g2) (fun i' j' hi' hj' => ?_)⟩
  ·have hc1 : w.cell? ⟨b, i * ob.c.sz + j, none⟩ = some cur[i * ob.c.sz + j] := by simp [World.cell?, g1, hin]
   have hf : w.frozen? ⟨b, i * ob.c.sz + j, none⟩ = false := by simp [World.frozen?, g1]; omega
   have hcells : u.cells = #[u] := by cases u <;> first | rfl | cases hone'
   have hst := run_store P w ⟨b, i * ob.c.sz + j, none⟩ u .plain hone'
   rw [hc1] at hst
   simp only [hf, Bool.false_eq_true, if_false, setCell_eq_setRow w b (i * ob.c.sz + j) cur ob.ty mk u g1] at hst
   simp [execOp, hz, hzy, Instr.storeAt, Instr.sureAddr, storeVar, hcells, zEg hs, storeCells, Addr.add_lit, hst]
  ·rw [l1] at hi'
   rw [l2] at hj' ⊢
   rw [hat i' j' hi' hj' hi (by assumption)]
   by_cases he : i' = i ∧ j' = j
   ·obtain ⟨rfl, rfl⟩ := he
    simp only [and_self, if_true]
    exact ⟨u, by simp [hin], h2, hone'⟩
   ·rw [if_neg he]
    obtain ⟨v', e1, e2, e3⟩ := g6 i' j' hi' hj'
    refine ⟨v', ?_, e2, e3⟩
    have hne : ¬ i * ob.c.sz + j = i' * ob.c.sz + j' := by
     intro e
     apply he
     have hd : (i * ob.c.sz + j) / ob.c.sz = (i' * ob.c.sz + j') / ob.c.sz := by rw [e]
     have hm : (i * ob.c.sz + j) % ob.c.sz = (i' * ob.c.sz + j') % ob.c.sz := by rw [e]
     rw [Nat.mul_comm i, Nat.mul_comm i', Nat.mul_add_div (by omega), Nat.mul_add_div (by omega), Nat.div_eq_of_lt (by assumption), Nat.div_eq_of_lt hj'] at hd
     rw [Nat.mul_comm i, Nat.mul_comm i', Nat.mul_add_mod, Nat.mul_add_mod, Nat.mod_eq_of_lt (by assumption), Nat.mod_eq_of_lt hj'] at hm
     omega
    rw [Array.getElem?_setIfInBounds_ne hne]
    exact e1
/-- Zero, as an abstract value. -/
def zav (v : Value) : Option (List AV) := v.cells.toList.mapM fun x => scl x
theorem zFA {w : World} {S : Nat → Prop} {σ : Nat → Option Blk} {z : Value} {zs : List AV} (h : zav z = some zs) : z.cells.size = zs.length ∧ ∀ j, j < zs.length → VR w S σ (zs.getD j .any) (z.cells.getD j undef) ∧ (z.cells.getD j undef).oneCell' = true := by
 unfold zav at h
 have key : ∀ (l : List Value) (zs : List AV), l.mapM (fun x => scl x) = some zs → l.length = zs.length ∧ ∀ j, j < zs.length → VR w S σ (zs.getD j .any) (l.getD j undef) ∧ (l.getD j undef).oneCell' = true := by
  intro l
  induction l with
  | nil => intro zs h; simp at h; subst h; exact ⟨rfl, fun j hj => by simp at hj⟩
  | cons x r ih =>
   intro zs h
   simp only [List.mapM_cons] at h
   cases h1 : scl x with
   | none => simp [h1] at h
   | some y =>
    cases h2 : r.mapM (fun x => scl x) with
    | none => simp [h1, h2] at h
    | some ys =>
     simp [h1, h2] at h
     subst h
     obtain ⟨i1, i2⟩ := ih ys h2
     refine ⟨by simp [i1], fun j hj => ?_⟩
     cases j with
     | zero => exact zLM h1
     | succ j => simpa using i2 j (by simpa using hj)
 obtain ⟨k1, k2⟩ := key _ _ h
 refine ⟨by simpa using k1, fun j hj => ?_⟩
 have := k2 j hj
 have e : z.cells.toList.getD j undef = z.cells.getD j undef := by
  have hlt : j < z.cells.size := by simp at k1; omega
  simp [List.getD, Array.getD, hlt]
 rwa [e] at this
/-- make([]T, n) -/
def zBL (n : Nat) : List AV → Cells
 | [.int k 0] => .ints k (List.replicate n 0)
 | [.str []] => .strs (List.replicate n [])
 | zs => .fn n zs.length (fun _ j => zs.getD j .any)
theorem zFB (n : Nat) (zs : List AV) : (zBL n zs).len = n ∧ (zBL n zs).sz = zs.length ∧ ∀ i j, i < n → j < zs.length → (zBL n zs).at i j = zs.getD j .any := by
 have _p := ‹Pins›
 unfold zBL
 split
 ·refine ⟨by simp [Cells.len], U, fun i j hi hj => ?_⟩
  simp only [List.length_cons, List.length_nil] at hj
  have : j = 0 := by omega
  subst this
  simp [Cells.at, List.getD, hi]
 ·refine ⟨by simp [Cells.len], U, fun i j hi hj => ?_⟩
  simp only [List.length_cons, List.length_nil] at hj
  have : j = 0 := by omega
  subst this
  simp [Cells.at, List.getD, hi]
 ·exact ⟨U, U, fun i j hi hj => rfl⟩
theorem getElem?_madeCells (z : Array Value) (n s : Nat) (hs : z.size = s) (i j : Nat) (hi : i < n) (hj : j < s) : (madeCells z (n * s))[i * s + j]? = some (z.getD j undef) := by
 have _p := ‹Pins›
 have hlt : i * s + j < n * s := by
  have : (i + 1) * s ≤ n * s := Nat.mul_le_mul_right _ (by omega)
  rw [Nat.add_mul] at this; omega
 have hm : (i * s + j) % s = j := by rw [Nat.mul_comm, Nat.mul_add_mod]; exact Nat.mod_eq_of_lt hj
 subst hs
 simp [madeCells, hlt, hm, Array.getD, hj]
theorem zGx {all : Array Oper} {d : Nat} {t e : TypeId} {x y : Operand} {ty : TypeId} {pos : String} {after : Array Edge} {rest : List Oper} {inf : TypeInfo} {z : Value} {zs : List AV} {n m : Int} {k1 k2 : IntKind}
 (ht : P.underlying t = some (.slice e)) (hi : P.info? e = some inf) (hz : inf.zero = some z) (hsz : inf.size = zs.length) (hzs : zav z = some zs) (hpos : Nat.blt 0 zs.length = true)
 (hx : ev fr x = some (.int k1 n)) (hy : ev fr y = some (.int k2 m)) (hb : 0 ≤ n ∧ n ≤ m ∧ (inf.bytes : Int) * m ≤ 281474976710656 ∧ m ≤ 9223372036854775807)
 (hk : Ax P fn c (.ops false all rest k) ((d, .sl H.length 0 n.toNat) :: fr) (H ++ [some ⟨e, zBL m.toNat zs⟩])) : Ax P fn c (.ops false all (⟨some d, .makeSlice t x y, ty, pos, after, none⟩ :: rest) k) fr H := by
 refine ax_w (fun w a σ S hr => ?_) hk
 obtain ⟨z1, z2, z3⟩ := zFB m.toNat zs
 obtain ⟨y1, y2⟩ := zFA (w := w) (S := S) (σ := σ) hzs
 have hrun := run_make (P := P) w t e inf z ht hi hz k1 k2 n m hb.1 hb.2.1 hb.2.2.1 hb.2.2.2
 have hpos' : 0 < zs.length := Nat.le_of_ble_eq_true hpos
 refine ⟨.slice (some ⟨w.heap.size, 0, none⟩) n.toNat m.toNat, _, _, S, ?_, hr.alloc (o := ⟨e, zBL m.toNat zs⟩) (C := m.toNat) (cur := madeCells z.cells (m.toNat * inf.size)) (by simp [z1]) (by unfold maxLen; omega) (by simp [z2, size_madeCells, hsz]) (fun i j hi hj => ?_), ?_⟩
 ·rotate_left
  ·simp [execOp, hr.evInt hx, hr.evInt hy, hrun]
 ·simp only [z1] at hi
  simp only [z2] at hj ⊢
  rw [hsz, getElem?_madeCells z.cells m.toNat zs.length y1 i j hi hj, z3 i j hi hj]
  exact ⟨_, U, (y2 j hj).1, (y2 j hj).2⟩
 ·have := VR.sl (w := w.alloc (.cells (madeCells z.cells (m.toNat * inf.size)) e (0, 0))) (S := S) (upσ σ H.length (.at w.heap.size zs.length m.toNat)) H.length 0 n.toNat w.heap.size zs.length m.toNat m.toNat (by simp [upσ]) (by omega) (by omega)
  simpa [z2] using this
end
end Go.Ax
namespace Go.Ax
variable [Pins]
open Go.RowKit
/-- A row of values and what they stand for. -/
def Arr (w : World) (S : Nat → Prop) (σ : Nat → Option Blk) (cs : Array Value) (L : List AV) : Prop :=
 cs.size = L.length ∧ ∀ j, j < L.length → VR w S σ (L.getD j .any) (cs.getD j undef) ∧ (cs.getD j undef).oneCell' = true
/-- The cells of a value. -/
def AV.cellsA : AV → Option (List AV)
 | .agg l => some l
 | .tup _ => none
 | .any => none
 | v => some [v]
theorem zJx {w : World} {S : Nat → Prop} {σ : Nat → Option Blk} {v : AV} {x : Value} {L : List AV} (h : VR w S σ v x) (hc : v.cellsA = some L) : Arr w S σ x.cells L := by
 have one : v.cellsA = some [v] → v.one = true → Arr w S σ x.cells L := by
  intro h1 h2
  rw [h1] at hc
  simp only [Option.some.injEq] at hc
  subst hc
  have h3 := h.one h2
  have hcells : x.cells = #[x] := by cases x <;> first | rfl | cases h3
  rw [hcells]
  refine ⟨U, fun j hj => ?_⟩
  simp only [List.length_cons, List.length_nil] at hj
  have : j = 0 := by omega
  subst this
  exact ⟨h, h3⟩
 cases h with
 | agg _ l vs hl hv h1 =>
  simp only [AV.cellsA, Option.some.injEq] at hc
  subst hc
  exact ⟨hl, fun j hj => ⟨hv j hj, h1 j hj⟩⟩
 | tup => simp [AV.cellsA] at hc
 | any => simp [AV.cellsA] at hc
 | _ => exact one rfl rfl
def zGq (L : List AV) (o : Nat) : List AV → List AV
 | [] => L
 | v :: r => zGq (L.set o v) (o + 1) r
theorem zJm (L : List AV) (o : Nat) (l : List AV) : (zGq L o l).length = L.length := by
 have _p := ‹Pins›
 induction l generalizing L o with
 | nil => rfl
 | cons v r ih => simp [zGq, ih]
theorem arr_set {w : World} {S : Nat → Prop} {σ : Nat → Option Blk} {cs : Array Value} {L : List AV} {o : Nat} {v : AV} {x : Value} (h : Arr w S σ cs L) (hv : VR w S σ v x) (h1 : x.oneCell' = true) : Arr w S σ (cs.setIfInBounds o x) (L.set o v) := by
 have _p := ‹Pins›
 refine ⟨by simp [h.1], fun j hj => ?_⟩
 have hj' : j < L.length := by simpa using hj
 by_cases he : o = j
 ·subst he
  have : o < cs.size := by rw [h.1]; exact hj'
  simp only [List.getD, List.getElem?_set_self hj', Option.getD_some]
  simp [this, hv, h1]
 ·obtain ⟨a, b⟩ := h.2 j hj'
  simp only [List.getD, List.getElem?_set_ne he]
  have e : (cs.setIfInBounds o x).getD j undef = cs.getD j undef := by simp [Array.getElem?_setIfInBounds_ne he]
  rw [e]
  exact ⟨by simpa [List.getD] using a, b⟩
theorem zNN {w : World} {S : Nat → Prop} {σ : Nat → Option Blk} {o : Nat} : ∀ (xs : List Value) (l : List AV) (k : Nat) (cs : Array Value) (L : List AV), Arr w S σ cs L → xs.length = l.length →
 (∀ j, j < l.length → VR w S σ (l.getD j .any) (xs.getD j undef) ∧ (xs.getD j undef).oneCell' = true) →
 Arr w S σ ((xs.zipIdx k).foldl (fun cs (c, j) => cs.setIfInBounds (o + j) c) cs) (zGq L (o + k) l)
 | [], [], _, cs, L, h, _, _ => h
 | x :: xs, v :: l, k, cs, L, h, hl, hv => by
  simp only [List.zipIdx_cons, List.foldl_cons, zGq]
  have h0 := hv 0 (by simp)
  exact zNN xs l (k + 1) _ _ (arr_set h (by simpa using h0.1) (by simpa using h0.2)) (by simpa using hl) (fun j hj => by simpa using hv (j + 1) (by simpa using hj))
 | [], _ :: _, _, _, _, _, hl, _ => by simp at hl
 | _ :: _, [], _, _, _, _, hl, _ => by simp at hl
def PV (w : World) (S : Nat → Prop) (σ : Nat → Option Blk) : List (Nat × AV) → List (Nat × Value) → Prop
 | [], [] => True
 | (i, v) :: r, (i', x) :: r' => i = i' ∧ VR w S σ v x ∧ PV w S σ r r'
 | _, _ => False
def zET (place : Nat → Option (Nat × Nat)) (L : List AV) : List (Nat × AV) → Option (List AV)
 | [] => some L
 | (i, v) :: r =>
  match place i with
  | none => none
  | some (o, s) =>
   match v.cellsA with
   | none => none
   | some l => bif Nat.beq l.length s && Nat.ble (o + s) L.length then zET place (zGq L o l) r else none
theorem zF9 {w : World} {S : Nat → Prop} {σ : Nat → Option Blk} {place : Nat → Option (Nat × Nat)} : ∀ (ps : List (Nat × AV)) (qs : List (Nat × Value)) (cs : Array Value) (L L' : List AV), Arr w S σ cs L →
 PV w S σ ps qs → zET place L ps = some L' → ∃ cs', Instr.fill place cs qs = some cs' ∧ Arr w S σ cs' L'
 | [], _ :: _, cs, L, L', h, hf, he => hf.elim
 | _ :: _, [], cs, L, L', h, hf, he => hf.elim
 | [], [], cs, L, L', h, hf, he => by
  simp only [zET, Option.some.injEq] at he
  subst he
  exact ⟨cs, U, h⟩
 | (i, v) :: ps, (i', x) :: qs, cs, L, L', h, hf, he => by
  obtain ⟨e1, h1, h2⟩ := hf
  subst e1
  simp only [zET] at he
  cases hp : place i with
  | none => simp [hp] at he
  | some os =>
   obtain ⟨o, s⟩ := os
   simp only [hp] at he
   cases hc : v.cellsA with
   | none => simp [hc] at he
   | some l =>
    simp only [hc] at he
    cases hb : (Nat.beq l.length s && Nat.ble (o + s) L.length) with
    | false => simp [hb] at he
    | true =>
     simp only [hb, cond_true] at he
     simp only [Bool.and_eq_true] at hb
     have b1 : l.length = s := Nat.eq_of_beq_eq_true hb.1
     have b2 : o + s ≤ L.length := Nat.le_of_ble_eq_true hb.2
     have ha := zJx h1 hc
     have hsz : x.cells.size = s := by rw [ha.1, b1]
     have hn : ¬ ((x.cells.size ≠ s || o + x.cells.size > cs.size) = true) := by
      rw [hsz, h.1]
      simp
      omega
     have harr : Arr w S σ (x.cells.zipIdx.foldl (fun cs (c, j) => cs.setIfInBounds (o + j) c) cs) (zGq L o l) := by
      rw [← Array.foldl_toList, Array.toList_zipIdx]
      refine zNN (o := o) x.cells.toList l 0 cs L h (by simpa using ha.1) (fun j hj => ?_)
      have e : x.cells.toList.getD j undef = x.cells.getD j undef := by
       have hlt : j < x.cells.size := by rw [ha.1]; exact hj
       simp [List.getD, Array.getD, hlt]
      rw [e]
      exact ha.2 j hj
     obtain ⟨cs', g1, g2⟩ := zF9 ps qs _ _ L' harr h2 he
     refine ⟨cs', ?_, g2⟩
     simp only [Instr.fill, hp]
     rw [if_neg hn]
     exact g1
section
variable {P : Program} {fn : Func} {c : Ctx} {fr : Fr} {H : zP} {k : List It}
def zB7 (fr : Fr) : List (Nat × Operand) → Option (List (Nat × AV))
 | [] => some []
 | (i, x) :: r => match ev fr x with
  | some v => match zB7 fr r with
   | some l => some ((i, v) :: l)
   | none => none
  | none => none
theorem zDt {w : World} {a : Act} {σ : Nat → Option Blk} {S : Nat → Prop} {n : Nat} (hr : Rep c w a σ S n fr H) : ∀ (ps : List (Nat × Operand)) (l : List (Nat × AV)), zB7 fr ps = some l →
 PV w S σ l (ps.map fun (i, x) => (i, a.eval x))
 | [], l, h => by simp [zB7] at h; subst h; exact trivial
 | (i, x) :: r, l, h => by
  simp only [zB7] at h
  cases h1 : ev fr x with
  | none => simp [h1] at h
  | some v =>
   cases h2 : zB7 fr r with
   | none => simp [h1, h2] at h
   | some l' =>
    simp [h1, h2] at h
    subst h
    exact ⟨U, hr.evAt h1, zDt hr r l' h2⟩
/-- The places of a struct's or an array's parts. -/
def zHG (P : Program) (t : TypeId) : Option (Nat → Option (Nat × Nat)) :=
 match P.underlying t with
 | some (.array _ e) => match P.info? e with
  | some ie => some (fun i => some (i * ie.size, ie.size))
  | none => none
 | some (.struct fields) => match fields.toList.mapM (fun f => (P.info? f.type).map fun i => (f.offset, i.size)) with
  | some places => some (places.toArray[·]?)
  | none => none
 | _ => none
/-- A struct's or an array's value. -/
theorem zDE {ind : Bool} {d : Option Nat} {ty : TypeId} {pos : String} {after : Array Edge} {g : Option (Nat × Bool)} {t : TypeId} {parts : List (Nat × Operand)} {it : TypeInfo} {z : Value} {zs L : List AV} {l : List (Nat × AV)} {pl : Nat → Option (Nat × Nat)}
 (hi : P.info? t = some it) (hz : it.zero = some z) (hzs : zav z = some zs) (hpl : zHG P t = some pl) (hl : zB7 fr parts = some l) (hf : zET pl zs l = some L) :
 QOp ind P fn c fr H ⟨d, .build t parts.toArray, ty, pos, after, g⟩ (.agg L) := by
 intro w a σ S hr
 obtain ⟨y1, y2⟩ := zFA (w := w) (S := S) (σ := σ) hzs
 obtain ⟨cs', g1, g2⟩ := zF9 l _ z.cells zs L ⟨y1, y2⟩ (zDt hr parts l hl) hf
 refine ⟨.agg cs', .agg _ _ _ g2.1 (fun i hi => (g2.2 i hi).1) (fun i hi => (g2.2 i hi).2), fun w' _ => ?_⟩
 have hb : P.built t ((parts.toArray.map fun (i, x) => (i, a.eval x)).toList) = some cs' := by
  have e : (parts.toArray.map fun (i, x) => (i, a.eval x)).toList = parts.map fun (i, x) => (i, a.eval x) := by simp
  rw [e]
  unfold zHG at hpl
  unfold Program.built
  cases hu : P.underlying t with
  | none => simp [hu] at hpl
  | some u =>
   cases u with
   | array nn e' =>
    simp only [hu] at hpl
    cases he : P.info? e' with
    | none => simp [he] at hpl
    | some ie =>
     simp only [he, Option.some.injEq] at hpl
     subst hpl
     simp only [hi, hz, he]
     exact g1
   | struct fields =>
    simp only [hu] at hpl
    cases he : fields.toList.mapM (fun f => (P.info? f.type).map fun i => (f.offset, i.size)) with
    | none => simp [he] at hpl
    | some places =>
     simp only [he, Option.some.injEq] at hpl
     subst hpl
     simp only [hi, hz, he]
     exact g1
   | _ => simp [hu] at hpl
 have hrun := run_build (P := P) w' t (parts.toArray.map fun (i, x) => (i, a.eval x)) cs' hb
 simp only [execOp, Sem.run_bind, hrun, Result.andThen_ok]
 rfl
/-- What a row of cells is, by its cells' kind. -/
def zFb : List AV → Option (IntKind × List Int)
 | [] => none
 | [.int k n] => some (k, [n])
 | .int k n :: r => match zFb r with
  | some (k', l) => match k, k' with
   | .i64, .i64 => some (k, n :: l)
   | .u8, .u8 => some (k, n :: l)
   | .u64, .u64 => some (k, n :: l)
   | .i32, .i32 => some (k, n :: l)
   | .u32, .u32 => some (k, n :: l)
   | _, _ => none
  | none => none
 | _ => none
def zFc : List AV → Option (List (List UInt8))
 | [] => none
 | [.str n] => some [n]
 | .str n :: r => match zFc r with
  | some l => some (n :: l)
  | none => none
 | _ => none
theorem zH0 : ∀ (L : List AV) (k : IntKind) (l : List Int), zFb L = some (k, l) → L = l.map (AV.int k)
 | [], k, l, h => by have _p := ‹Pins›; simp [zFb] at h
 | [v], k, l, h => by
  cases v <;> simp [zFb] at h
  obtain ⟨rfl, rfl⟩ := h
  rfl
 | v :: v2 :: r, k, l, h => by
  cases v <;> simp only [zFb] at h <;> try (cases h; done)
  rename_i k0 n
  cases h1 : zFb (v2 :: r) with
  | none => simp [h1] at h
  | some kl =>
   obtain ⟨k', l'⟩ := kl
   have ih := zH0 (v2 :: r) k' l' h1
   simp only [h1] at h
   cases k0 <;> cases k' <;> simp at h <;> (obtain ⟨rfl, rfl⟩ := h; simp [ih])
theorem zH1 : ∀ (L : List AV) (l : List (List UInt8)), zFc L = some l → L = l.map AV.str
 | [], l, h => by have _p := ‹Pins›; simp [zFc] at h
 | [v], l, h => by
  cases v <;> simp [zFc] at h
  subst h
  rfl
 | v :: v2 :: r, l, h => by
  cases v <;> simp only [zFc] at h <;> try (cases h; done)
  cases h1 : zFc (v2 :: r) with
  | none => simp [h1] at h
  | some l' =>
   have ih := zH1 (v2 :: r) l' h1
   simp [h1] at h
   subst h
   simp [ih]
def zFW (n s : Nat) (L : List AV) : Cells :=
 match zFb L with
 | some (k, l) => bif Nat.beq s 1 && Nat.beq l.length n then .ints k l else .fn n s (fun i j => L.getD (i * s + j) .any)
 | none => match zFc L with
  | some l => bif Nat.beq s 1 && Nat.beq l.length n then .strs l else .fn n s (fun i j => L.getD (i * s + j) .any)
  | none => .fn n s (fun i j => L.getD (i * s + j) .any)
theorem zJJ (n s : Nat) (L : List AV) : (zFW n s L).len = n ∧ (zFW n s L).sz = s ∧ ∀ i j, i < n → j < s → (zFW n s L).at i j = L.getD (i * s + j) .any := by
 unfold zFW
 cases h : zFb L with
 | some kl =>
  obtain ⟨k, l⟩ := kl
  simp only
  cases hb : (Nat.beq s 1 && Nat.beq l.length n) with
  | false => exact ⟨rfl, rfl, fun _ _ _ _ => rfl⟩
  | true =>
   simp only [Bool.and_eq_true] at hb
   have b1 := Nat.eq_of_beq_eq_true hb.1
   have b2 := Nat.eq_of_beq_eq_true hb.2
   have hL := zH0 L k l h
   subst b1 b2
   refine ⟨U, U, fun i j hi hj => ?_⟩
   have : j = 0 := by omega
   subst this
   subst hL
   simp [Cells.at, List.getD, hi]
 | none =>
  cases h2 : zFc L with
  | none => exact ⟨rfl, rfl, fun _ _ _ _ => rfl⟩
  | some l =>
   simp only
   cases hb : (Nat.beq s 1 && Nat.beq l.length n) with
   | false => exact ⟨rfl, rfl, fun _ _ _ _ => rfl⟩
   | true =>
    simp only [Bool.and_eq_true] at hb
    have b1 := Nat.eq_of_beq_eq_true hb.1
    have b2 := Nat.eq_of_beq_eq_true hb.2
    have hL := zH1 L l h2
    subst b1 b2
    refine ⟨U, U, fun i j hi hj => ?_⟩
    have : j = 0 := by omega
    subst this
    subst hL
    simp [Cells.at, List.getD, hi]
/-- n zCu of a row. -/
def zCu (zs : List AV) : Nat → List AV
 | 0 => []
 | n + 1 => zs ++ zCu zs n
theorem zEj (zs : List AV) (n : Nat) : (zCu zs n).length = n * zs.length := by
 have _p := ‹Pins›
 induction n with
 | zero => simp [zCu]
 | succ n ih => simp [zCu, ih, Nat.add_mul]; omega
theorem zLq (zs : List AV) (hz : 0 < zs.length) (n : Nat) : ∀ j, j < n * zs.length → (zCu zs n).getD j .any = zs.getD (j % zs.length) .any := by
 have _p := ‹Pins›
 induction n with
 | zero => intro j hj; simp at hj
 | succ n ih =>
  intro j hj
  rw [Nat.add_mul] at hj
  by_cases h : j < zs.length
  ·rw [Nat.mod_eq_of_lt h]
   simp [zCu, List.getD, List.getElem?_append, h]
  ·have e : j % zs.length = (j - zs.length) % zs.length := by
    have : j = zs.length + (j - zs.length) := by omega
    rw [this, Nat.add_mod_left]; simp
   rw [e, ← ih (j - zs.length) (by omega)]
   simp [zCu, List.getD, List.getElem?_append, h]
/-- The cells of a slice literal. -/
theorem zFg {t e : TypeId} {n : Nat} {parts : List (Nat × Operand)} {it : TypeInfo} {z : Value} {zs L : List AV} {l : List (Nat × AV)}
 (ht : P.underlying t = some (.slice e)) (hi : P.info? e = some it) (hz : it.zero = some z) (hzs : zav z = some zs) (hsz : it.size = zs.length) (hpos : Nat.blt 0 zs.length = true) (hsmall : Nat.ble (n * zs.length) 16777216 = true)
 (hl : zB7 fr parts = some l) (hf : zET (fun i => some (i * zs.length, zs.length)) (zCu zs n) l = some L) {w : World} {a : Act} {σ : Nat → Option Blk} {S : Nat → Prop} (hr : Rep c w a σ S fn.ntmps fr H) :
 ∃ cs, Arr w S σ cs L ∧ cs.size = n * zs.length ∧ (Instr.buildSlice t n (parts.toArray.map fun (i, x) => (i, a.eval x))).run P w = .ok (.slice (some ⟨w.heap.size, 0, none⟩) n n) (w.alloc (.cells cs e (0, 0))) := by
 obtain ⟨y1, y2⟩ := zFA (w := w) (S := S) (σ := σ) hzs
 have hpos' : 0 < zs.length := Nat.le_of_ble_eq_true hpos
 have hsmall' : n * zs.length ≤ 16777216 := Nat.le_of_ble_eq_true hsmall
 have h0 : Arr w S σ ((Array.range (n * zs.length)).map (z.cells[· % z.cells.size]!)) (zCu zs n) := by
  refine ⟨by simp [zEj], fun j hj => ?_⟩
  rw [zEj] at hj
  rw [zLq zs hpos' n j hj]
  have hm : j % zs.length < zs.length := Nat.mod_lt _ hpos'
  have e1 : ((Array.range (n * zs.length)).map (z.cells[· % z.cells.size]!)).getD j undef = z.cells.getD (j % zs.length) undef := by
   rw [y1]
   have : j % zs.length < z.cells.size := by rw [y1]; exact hm
   simp [Array.getD, hj, this]
  rw [e1]
  exact y2 _ hm
 obtain ⟨cs, g1, g2⟩ := zF9 l _ _ (zCu zs n) L h0 (zDt hr parts l hl) hf
 have hL : L.length = n * zs.length := by
  have key : ∀ (ps : List (Nat × AV)) (M M' : List AV), zET (fun i => some (i * zs.length, zs.length)) M ps = some M' → M'.length = M.length := by
   intro ps
   induction ps with
   | nil => intro M M' h; simp [zET] at h; rw [h]
   | cons p r ih =>
    intro M M' h
    obtain ⟨i, v⟩ := p
    simp only [zET] at h
    cases hc : v.cellsA with
    | none => simp [hc] at h
    | some l =>
     simp only [hc] at h
     cases hb : (Nat.beq l.length zs.length && Nat.ble (i * zs.length + zs.length) M.length) with
     | false => simp [hb] at h
     | true =>
      simp only [hb, cond_true] at h
      rw [ih _ _ h, zJm]
  rw [key l _ L hf, zEj]
 refine ⟨cs, g2, by rw [g2.1, hL], ?_⟩
 have hns : ¬ (16777216 < n * zs.length) := by omega
 have g1' : Instr.fill (fun i => some (i * zs.length, zs.length)) ((Array.range (n * zs.length)).map (z.cells[· % z.cells.size]!)) (parts.map fun (i, x) => (i, a.eval x)) = some cs := g1
 by_cases hn0 : n * zs.length = 0
 ·have e0 : ∀ f : Nat → Value, Array.map f (Array.range 0) = #[] := fun f => by apply Array.eq_empty_of_size_eq_zero; simp
  rw [hn0, e0] at g1'
  simp [Instr.buildSlice, run_underlying ht, sizeOf, typeInfo, hi, hsz, hn0, e0, g1', newRow, newObj, Sem.run]
 ·simp [Instr.buildSlice, run_underlying ht, sizeOf, typeInfo, hi, hsz, hn0, hns, zeroValue, hz, g1', newRow, newObj, Sem.run]
/-- A slice literal that is written later: an object of one's own. -/
theorem zCj {all : Array Oper} {d : Nat} {t e : TypeId} {n : Nat} {parts : List (Nat × Operand)} {ty : TypeId} {pos : String} {after : Array Edge} {rest : List Oper} {it : TypeInfo} {z : Value} {zs L : List AV} {l : List (Nat × AV)} {cl : Cells}
 (ht : P.underlying t = some (.slice e)) (hi : P.info? e = some it) (hz : it.zero = some z) (hzs : zav z = some zs) (hsz : it.size = zs.length) (hpos : Nat.blt 0 zs.length = true) (hsmall : Nat.ble (n * zs.length) 16777216 = true)
 (hl : zB7 fr parts = some l) (hf : zET (fun i => some (i * zs.length, zs.length)) (zCu zs n) l = some L) (hcl : zFW n zs.length L = cl)
 (hk : Ax P fn c (.ops false all rest k) ((d, .sl H.length 0 n) :: fr) (H ++ [some ⟨e, cl⟩])) : Ax P fn c (.ops false all (⟨some d, .buildSlice t n parts.toArray, ty, pos, after, none⟩ :: rest) k) fr H := by
 refine ax_w (fun w a σ S hr => ?_) hk
 subst hcl
 obtain ⟨z1, z2, z3⟩ := zJJ n zs.length L
 obtain ⟨cs, g1, g2, g3⟩ := zFg ht hi hz hzs hsz hpos hsmall hl hf hr
 have hn : n ≤ n * zs.length := Nat.le_mul_of_pos_right n (Nat.le_of_ble_eq_true hpos)
 have hs' : n * zs.length ≤ 16777216 := Nat.le_of_ble_eq_true hsmall
 refine ⟨.slice (some ⟨w.heap.size, 0, none⟩) n n, _, _, S, ?_, hr.alloc (o := ⟨e, zFW n zs.length L⟩) (C := n) (cur := cs) (by simp [z1]) (by unfold maxLen; omega) (by rw [z2]; exact g2) (fun i j hi hj => ?_), ?_⟩
 ·simp only [execOp, Sem.run_bind, g3, Result.andThen_ok]
  rfl
 ·simp only [z1] at hi
  simp only [z2] at hj ⊢
  have hlt : i * zs.length + j < L.length := by
   rw [← g1.1, g2]
   have : (i + 1) * zs.length ≤ n * zs.length := Nat.mul_le_mul_right _ (by omega)
   rw [Nat.add_mul] at this; omega
  obtain ⟨a1, a2⟩ := g1.2 _ hlt
  rw [z3 i j hi hj]
  refine ⟨cs.getD (i * zs.length + j) undef, ?_, a1, a2⟩
  have : i * zs.length + j < cs.size := by rw [g1.1]; exact hlt
  simp [Array.getD, this]
 ·have := VR.sl (w := w.alloc (.cells cs e (0, 0))) (S := S) (upσ σ H.length (.at w.heap.size zs.length n)) H.length 0 n w.heap.size zs.length n n (by simp [upσ]) (by omega) (by omega)
  simpa [z2] using this
/-- No object is named. -/
def noRef : AV → Bool
 | .sl _ _ _ => false
 | .ptr _ _ _ => false
 | .fn _ l => noRefs l
 | .agg l => noRefs l
 | .tup l => noRefs l
 | .mp _ => false
 | _ => true
where noRefs : List AV → Bool
 | [] => true
 | v :: r => noRef v && noRefs r
theorem zBe {l : List AV} (h : noRef.noRefs l = true) (i : Nat) (hi : i < l.length) : noRef (l.getD i .any) = true := by
 have _p := ‹Pins›
 induction l generalizing i with
 | nil => simp at hi
 | cons v r ih =>
  simp only [noRef.noRefs, Bool.and_eq_true] at h
  cases i with
  | zero => simpa using h.1
  | succ i => simpa using ih h.2 i (by simpa using hi)
theorem VR.closed {w : World} {S : Nat → Prop} {σ : Nat → Option Blk} {x : AV} {v : Value} (h : VR w S σ x v) : noRef x = true → ∀ σ', VR w S σ' x v := by
 induction h with
 | int => intros; constructor
 | bool => intros; constructor
 | str => intros; constructor
 | nil => intros; constructor
 | ro0 => intros; constructor
 | ro σ c i len b o cap val hSb hlen hc hv h1 ih => intro _ σ'; exact .ro _ _ _ _ _ _ _ val hSb hlen hc hv h1
 | sl => intro h; cases h
 | sl0 => intro h; cases h
 | rp σ c i j b o val hSb hc hv h1 ih => intro _ σ'; exact .rp _ _ _ _ _ _ val hSb hc hv h1
 | ptr => intro h; cases h
 | nilp => intros; constructor
 | fn σ f cap vs hl hv ih => intro hn σ'; exact .fn _ _ _ _ hl (fun i hi => ih i hi (zBe hn i hi) _)
 | nilfn => intros; constructor
 | iface => intros; constructor
 | nilif => intros; constructor
 | agg σ l vs hl hv h1 ih => intro hn σ'; exact .agg _ _ _ hl (fun i hi => ih i hi (zBe hn i hi) _) h1
 | tup σ l vs hl hv ih => intro hn σ'; exact .tup _ _ _ hl (fun i hi => ih i hi (zBe hn i hi) _)
 | mp => intro h; cases h
 | rom σ ks vs b es clock e hSb hb hn hl hd he hk hv => intro _ σ'; exact .rom _ _ _ b es clock e hSb hb hn hl hd he hk hv
 | any => intros; constructor
/-- A slice literal that nobody writes. -/
theorem zAN {all : Array Oper} {d : Nat} {t e : TypeId} {n : Nat} {parts : List (Nat × Operand)} {ty : TypeId} {pos : String} {after : Array Edge} {rest : List Oper} {it : TypeInfo} {z : Value} {zs L : List AV} {l : List (Nat × AV)} {cl : Cells}
 (ht : P.underlying t = some (.slice e)) (hi : P.info? e = some it) (hz : it.zero = some z) (hzs : zav z = some zs) (hsz : it.size = zs.length) (hpos : Nat.blt 0 zs.length = true) (hsmall : Nat.ble (n * zs.length) 16777216 = true)
 (hl : zB7 fr parts = some l) (hf : zET (fun i => some (i * zs.length, zs.length)) (zCu zs n) l = some L) (hcl : zFW n zs.length L = cl) (hn : noRef.noRefs L = true)
 (hk : Ax P fn c (.ops false all rest k) ((d, .ro cl 0 n) :: fr) H) : Ax P fn c (.ops false all (⟨some d, .buildSlice t n parts.toArray, ty, pos, after, none⟩ :: rest) k) fr H := by
 refine ax_w (fun w a σ S hr => ?_) hk
 subst hcl
 obtain ⟨z1, z2, z3⟩ := zJJ n zs.length L
 obtain ⟨cs, g1, g2, g3⟩ := zFg ht hi hz hzs hsz hpos hsmall hl hf hr
 have hat : ∀ d j, d < n → j < zs.length → (w.alloc (.cells cs e (0, 0))).cell? ⟨w.heap.size, 0 + d * zs.length + j, none⟩ = some (cs.getD (d * zs.length + j) undef) ∧ VR w S σ (L.getD (d * zs.length + j) .any) (cs.getD (d * zs.length + j) undef) ∧ (cs.getD (d * zs.length + j) undef).oneCell' = true ∧ d * zs.length + j < L.length := by
  intro d j hd hj
  have hlt : d * zs.length + j < L.length := by
   rw [← g1.1, g2]
   have : (d + 1) * zs.length ≤ n * zs.length := Nat.mul_le_mul_right _ (by omega)
   rw [Nat.add_mul] at this; omega
  obtain ⟨a1, a2⟩ := g1.2 _ hlt
  have h3 : d * zs.length + j < cs.size := by rw [g1.1]; exact hlt
  refine ⟨?_, a1, a2, hlt⟩
  have := heap_alloc_new w (.cells cs e (0, 0))
  unfold World.cell?
  simp only [this]
  simp [Array.getD, h3]
 refine ⟨.slice (some ⟨w.heap.size, 0, none⟩) n n, _, σ, _, ?_, hr.allocRo (.cells cs e (0, 0)), ?_⟩
 ·simp only [execOp, Sem.run_bind, g3, Result.andThen_ok]
  rfl
 ·refine .ro _ _ _ _ _ _ _ (fun d j => cs.getD (d * zs.length + j) undef) (.inr U) (Nat.le_refl _) (fun d j hd hj => ?_) (fun d j hd hj => ?_) (fun d j hd hj => ?_)
  ·rw [z2] at hj ⊢
   exact (hat d j hd hj).1
  ·rw [z2] at hj
   rw [Nat.zero_add, z3 d j hd hj]
   obtain ⟨_, h2, _, h4⟩ := hat d j hd hj
   have h5 := h2.closed (zBe hn _ h4) (fun _ => none)
   exact h5.mono (fun _ h => .inl h) (fun b hb => Below.heap_alloc _ _ b (hr.hr.small b hb)) _ (fun _ _ h => h)
  ·rw [z2] at hj
   exact (hat d j hd hj).2.2.1
end
end Go.Ax
namespace Go.Ax
variable [Pins]
open Go.RowKit
mutual
/-- What named object h as a slice is no longer zEz. -/
def AV.forget (h : Nat) : AV → AV
 | .sl h' i n => bif Nat.beq h' h then .any else .sl h' i n
 | .ptr h' i j => bif Nat.beq h' h then .any else .ptr h' i j
 | .fn f l => .fn f (AV.forgets h l)
 | .agg l => .agg (AV.forgets h l)
 | .tup l => .tup (AV.forgets h l)
 | .mp h' => bif Nat.beq h' h then .any else .mp h'
 | v => v
def AV.forgets (h : Nat) : List AV → List AV
 | [] => []
 | v :: r => v.forget h :: AV.forgets h r
end
theorem zAf (h : Nat) (l : List AV) : (AV.forgets h l).length = l.length := by
 have _p := ‹Pins›
 induction l with
 | nil => rfl
 | cons v r ih => simp [AV.forgets, ih]
theorem zCV (h : Nat) (l : List AV) (i : Nat) (hi : i < l.length) : (AV.forgets h l).getD i .any = (l.getD i .any).forget h := by
 have _p := ‹Pins›
 induction l generalizing i with
 | nil => simp at hi
 | cons v r ih => cases i with
  | zero => rfl
  | succ i => simpa [AV.forgets] using ih i (by simpa using hi)
theorem VR.forget {w : World} {S : Nat → Prop} {σ : Nat → Option Blk} {x : AV} {v : Value} {h : Nat} (hv : VR w S σ x v) : ∀ σ', (∀ h', h' ≠ h → σ' h' = σ h') → VR w S σ' (x.forget h) v := by
 induction hv with
 | int => intros; constructor
 | bool => intros; constructor
 | str => intros; constructor
 | nil => intros; constructor
 | ro0 => intros; constructor
 | ro σ c i len b o cap val hSb hlen hc hv h1 ih => intro σ' _; exact .ro _ _ _ _ _ _ _ val hSb hlen hc hv h1
 | sl σ h' i len b s C cap hσ hlen hcap =>
  intro σ' hs
  simp only [AV.forget]
  by_cases he : h' = h
  ·subst he; simp only [Nat.beq_refl, cond_true]; exact .any _ _
  ·simp only [zBX he, cond_false]; exact .sl _ _ _ _ _ _ _ _ (by rw [hs h' he]; exact hσ) hlen hcap
 | sl0 σ h' hσ =>
  intro σ' hs
  simp only [AV.forget]
  by_cases he : h' = h
  ·subst he; simp only [Nat.beq_refl, cond_true]; exact .any _ _
  ·simp only [zBX he, cond_false]; exact .sl0 _ _ (by rw [hs h' he]; exact hσ)
 | rp σ c i j b o val hSb hc hv h1 ih => intro σ' _; exact .rp _ _ _ _ _ _ val hSb hc hv h1
 | ptr σ h' i j b s C hσ =>
  intro σ' hs
  simp only [AV.forget]
  by_cases he : h' = h
  ·subst he; simp only [Nat.beq_refl, cond_true]; exact .any _ _
  ·simp only [zBX he, cond_false]; exact .ptr _ _ _ _ _ _ _ (by rw [hs h' he]; exact hσ)
 | nilp => intros; constructor
 | fn σ f cap vs hl hv ih => intro σ' hs; exact .fn _ _ _ _ (by rw [zAf]; exact hl) (fun i hi => by rw [zAf] at hi; rw [zCV h cap i hi]; exact ih i hi σ' hs)
 | nilfn => intros; constructor
 | iface => intros; constructor
 | nilif => intros; constructor
 | agg σ l vs hl hv h1 ih => intro σ' hs; exact .agg _ _ _ (by rw [zAf]; exact hl) (fun i hi => by rw [zAf] at hi; rw [zCV h l i hi]; exact ih i hi σ' hs) (fun i hi => h1 i (by rwa [zAf] at hi))
 | tup σ l vs hl hv ih => intro σ' hs; exact .tup _ _ _ (by rw [zAf]; exact hl) (fun i hi => by rw [zAf] at hi; rw [zCV h l i hi]; exact ih i hi σ' hs)
 | mp σ h' b hσ =>
  intro σ' hs
  simp only [AV.forget]
  by_cases he : h' = h
  ·subst he; simp only [Nat.beq_refl, cond_true]; exact .any _ _
  ·simp only [zBX he, cond_false]; exact .mp _ _ _ (by rw [hs h' he]; exact hσ)
 | rom σ ks vs b es clock e hSb hb hn hl hd he hk hv => intro σ' hs; exact .rom _ _ _ b es clock e hSb hb hn hl hd he hk hv
 | any => intros; constructor
def Cells.forget (h : Nat) : Cells → Cells
 | .ints k l => .ints k l
 | .strs l => .strs l
 | .box l => .box (AV.forgets h l)
 | .mp ks vs => .mp (AV.forgets h ks) (AV.forgets h vs)
 | .fn n s f => .fn n s (fun i j => (f i j).forget h)
theorem Cells.forget_len (h : Nat) (c : Cells) : (c.forget h).len = c.len := by have _p := ‹Pins›; cases c <;> rfl
theorem Cells.forget_sz (h : Nat) (c : Cells) : (c.forget h).sz = c.sz := by
 cases c <;> first | rfl | exact zAf _ _
theorem Cells.forget_at (h : Nat) (c : Cells) (i j : Nat) (hj : j < c.sz) : (c.forget h).at i j = (c.at i j).forget h := by
 cases c with
 | box l => exact zCV h l j hj
 | _ => rfl
def zGB (h : Nat) : Option AObj → Option AObj
 | some o => some ⟨o.ty, o.c.forget h⟩
 | none => none
def zBm (h : Nat) : zP → zP
 | [] => []
 | o :: r => zGB h o :: zBm h r
def zBf (h : Nat) : Fr → Fr
 | [] => []
 | (t, v) :: r => (t, v.forget h) :: zBf h r
theorem zH6 (h : Nat) (H : zP) (i : Nat) : (zBm h H)[i]? = (H[i]?).map (zGB h) := by
 have _p := ‹Pins›
 induction H generalizing i with
 | nil => simp [zBm]
 | cons o r ih => cases i with
  | zero => simp [zBm]
  | succ i => simpa [zBm] using ih i
theorem zBw (h : Nat) (H : zP) : (zBm h H).length = H.length := by
 have _p := ‹Pins›
 induction H with
 | nil => rfl
 | cons o r ih => simp [zBm, ih]
theorem zDB (h : Nat) (fr : Fr) (t : Nat) : zAa t (zBf h fr) = (zAa t fr).map (AV.forget h) := by
 have _p := ‹Pins›
 induction fr with
 | nil => rfl
 | cons p r ih =>
  obtain ⟨u, v⟩ := p
  simp only [zBf, zAa]
  cases Nat.beq t u <;> simp [ih]
theorem Lays.forget {w w' : World} {S S' : Nat → Prop} {σ σ' : Nat → Option Blk} {t : TypeId} {c : Cells} {b : Nat} {cur : Array Value} {C : Nat} {h : Nat} (hb : w'.heap[b]? = w.heap[b]?) (hv : ∀ {x v}, VR w S σ x v → VR w' S' σ' (x.forget h) v)
 (hL : Lays w S σ ⟨t, c⟩ b cur C) : Lays w' S' σ' ⟨t, c.forget h⟩ b cur C := by
 have _p := ‹Pins›
 cases hL with
 | row mk h hm hC => exact .row mk (by rw [hb]; exact h) hm hC
 | map ks vs es clock hc hC h hn hl hd he =>
  simp only at hc
  subst hc
  exact .map _ _ es clock U hC (by rw [hb]; exact h) (by rw [zAf]; exact hn) (by rw [zAf, zAf]; exact hl) hd (fun i hi => by
   rw [zAf] at hi
   obtain ⟨e, e1, e2, e3⟩ := he i hi
   exact ⟨e, e1, by rw [zCV _ _ _ hi]; exact hv e2, by rw [zCV _ _ _ (by omega)]; exact hv e3⟩)
/-- Object h is elsewhere now: in block b, whole; all else as it was. -/
theorem Rep.movedM {c : Ctx} {w w' : World} {a : Act} {σ : Nat → Option Blk} {S : Nat → Prop} {n : Nat} {fr : Fr} {H : zP} (hr : Rep c w a σ S n fr H) {h : Nat} {o : AObj} (hh : H[h]? = some (some o)) {c' : Cells} {b C : Nat} {cur : Array Value} {mk : Nat × Nat}
 (hos : w'.os = w.os) (hout : w'.output = w.output) (htape : w'.tape = w.tape) (hsize : w.heap.size ≤ w'.heap.size)
 (hsz : c'.sz = o.c.sz)
 (hblk : ∀ b', b' < w.heap.size → b' ≠ b → w'.heap[b']? = w.heap[b']?)
 (hb : w'.heap[b]? = some (.cells cur o.ty mk)) (hcur : cur.size = C * c'.sz) (hC : C ≤ maxLen) (hlen : c'.len ≤ C)
 (hfresh : w.heap.size ≤ b ∨ σ h = some (.at b o.c.sz C)) (hfix : ¬ c.fix h ∨ σ h = some (.at b o.c.sz C))
 (hc : ∀ i j, i < c'.len → j < c'.sz → ∃ v, cur[i * c'.sz + j]? = some v ∧ VR w S σ (c'.at i j) v ∧ v.oneCell' = true) (hnr : ∀ i j, i < c'.len → j < c'.sz → (c'.at i j).forget h = c'.at i j) (hmk : mk.2 ≤ mk.1 ∨ cur.size ≤ mk.1) :
 Rep c w' a (upσ σ h (.at b c'.sz C)) S n (zBf h fr) ((zBm h H).set h (some ⟨o.ty, c'⟩)) := by
 have hlt : h < H.length := (List.getElem?_eq_some_iff.1 hh).1
 have hlt' : h < (zBm h H).length := by rw [zBw]; exact hlt
 have hSb : ¬ S b := by
  rcases hfresh with hf | hf
  ·intro hs; have := hr.hr.small b hs; omega
  ·exact (hr.obj hh hf).2.choose_spec.2.2.2.2.1
 have hS : ∀ b', S b' → w'.heap[b']? = w.heap[b']? := fun b' hs => hblk b' (hr.hr.small b' hs) (fun e => hSb (e ▸ hs))
 have hσne : ∀ h', h' ≠ h → upσ σ h (.at b c'.sz C) h' = σ h' := fun h' he => by simp [upσ, he]
 have hvf : ∀ {x v}, VR w S σ x v → VR w' S (upσ σ h (.at b c'.sz C)) (x.forget h) v := fun hv => (hv.forget _ hσne).mono (fun _ h => h) hS _ (fun _ _ h => h)
 have hset : ∀ h' o', ((zBm h H).set h (some ⟨o.ty, c'⟩))[h']? = some (some o') → (h' = h ∧ o' = ⟨o.ty, c'⟩) ∨ (h' ≠ h ∧ ∃ o0, H[h']? = some (some o0) ∧ o' = ⟨o0.ty, o0.c.forget h⟩) := by
  intro h' o' ho
  by_cases he : h' = h
  ·subst he
   simp only [List.getElem?_set_self hlt', Option.some.injEq] at ho
   exact .inl ⟨U, ho.symm⟩
  ·rw [List.getElem?_set_ne (Ne.symm he), zH6] at ho
   cases hq : H[h']? with
   | none => simp [hq] at ho
   | some oo => cases oo with
    | none => simp [hq, zGB] at ho
    | some o0 =>
     simp [hq, zGB] at ho
     exact .inr ⟨he, o0, U, ho.symm⟩
 have hold : ∀ h' o0 b' s' C', h' ≠ h → H[h']? = some (some o0) → σ h' = some (.at b' s' C') → b' ≠ b ∧ b' < w.heap.size := by
  intro h' o0 b' s' C' hne ho0 hb'
  obtain ⟨_, cu, g, _⟩ := hr.obj ho0 hb'
  have h1 := g.lt
  refine ⟨fun e => ?_, h1⟩
  subst e
  rcases hfresh with hf | hf
  ·omega
  ·exact hne (hr.hr.dist h' h o0 o b' s' C' o.c.sz C ho0 hh hb' hf)
 refine ⟨⟨?_, ?_, fun b' hs => Nat.lt_of_lt_of_le (hr.hr.small b' hs) hsize, fun h' hl => ?_⟩, ?_, hr.defers, hr.size, fun t v hl => ?_⟩
 ·intro h' o' ho
  rcases hset h' o' ho with ⟨rfl, rfl⟩ | ⟨hne, o0, ho0, rfl⟩
  ·right
   refine ⟨b, C, cur, by simp [upσ], .row mk hb hmk hC, hcur, Nat.le_succ_of_le hC, hlen, hSb, fun i j hi hj => ?_⟩
   obtain ⟨v, e1, e2, e3⟩ := hc i j hi hj
   refine ⟨v, e1, ?_, e3⟩
   have := hvf e2
   rwa [hnr i j hi hj] at this
  ·rcases hr.hr.live h' o0 ho0 with ⟨hn, hl0⟩ | ⟨b', C', cu, g1, g2, g3, g4, g5, g6, g7⟩
   ·left
    exact ⟨by rw [hσne h' hne]; exact hn, by simpa [Cells.forget_len] using hl0⟩
   ·right
    obtain ⟨hb1, hb2⟩ := hold h' o0 b' _ C' hne ho0 g1
    simp only [Cells.forget_len, Cells.forget_sz]
    refine ⟨b', C', cu, by rw [hσne h' hne]; exact g1, g2.forget (hblk b' hb2 hb1) hvf, g3, g4, g5, g6, fun i j hi hj => ?_⟩
    obtain ⟨v, e1, e2, e3⟩ := g7 i j hi hj
    exact ⟨v, e1, by rw [Cells.forget_at h o0.c i j hj]; exact hvf e2, e3⟩
 ·intro h1 h2 o1 o2 b' s1 C1 s2 C2 g1 g2 e1 e2
  rcases hset h1 o1 g1 with ⟨rfl, rfl⟩ | ⟨n1, p1, q1, rfl⟩ <;> rcases hset h2 o2 g2 with ⟨rfl, rfl⟩ | ⟨n2, p2, q2, rfl⟩
  ·rfl
  ·simp only [upσ, if_true, Option.some.injEq, Blk.at.injEq] at e1
   rw [hσne h2 n2] at e2
   exact absurd e1.1.symm (hold h2 p2 b' s2 C2 n2 q2 e2).1
  ·simp only [upσ, if_true, Option.some.injEq, Blk.at.injEq] at e2
   rw [hσne h1 n1] at e1
   exact absurd e2.1.symm (hold h1 p1 b' s1 C1 n1 q1 e1).1
  ·rw [hσne h1 n1] at e1
   rw [hσne h2 n2] at e2
   exact hr.hr.dist h1 h2 _ _ b' s1 C1 s2 C2 q1 q2 e1 e2
 ·simp only [List.length_set, zBw] at hl
  rw [hσne h' (by omega)]
  exact hr.hr.dom h' hl
 ·refine ⟨hos.trans hr.kp.os, hout.trans hr.kp.output, htape.trans hr.kp.tape, Nat.le_trans hr.kp.size hsize, fun b' hb' ho => ?_, hr.kp.S1, hr.kp.S2, fun h' hf => ?_, fun h' hf => by simpa [zBw] using hr.kp.fixlt h' hf, ?_⟩
  ·have hne : b' ≠ b := by
    rintro rfl
    rcases hfresh with hf | hf
    ·have := hr.kp.size; omega
    ·rcases hr.kp.own h o b' _ C hh hf with h1 | h1
     ·exact ho h1
     ·omega
   rw [hblk b' (by have := hr.kp.size; omega) hne]
   exact hr.kp.block b' hb' ho
  ·by_cases he : h' = h
   ·subst he
    rcases hfix with h1 | h1
    ·exact absurd hf h1
    ·rw [← hr.kp.fixed h' hf, h1]
     simp [upσ, hsz]
   ·rw [hσne h' he]; exact hr.kp.fixed h' hf
  ·intro h' o' b' s' C' ho hb'
   rcases hset h' o' ho with ⟨rfl, rfl⟩ | ⟨hne, o0, ho0, rfl⟩
   ·simp only [upσ, if_true, Option.some.injEq, Blk.at.injEq] at hb'
    obtain ⟨rfl, _, _⟩ := hb'
    rcases hfresh with hf | hf
    ·right; have := hr.kp.size; omega
    ·exact hr.kp.own h' o b _ C hh hf
   ·rw [hσne h' hne] at hb'
    exact hr.kp.own h' o0 b' s' C' ho0 hb'
 ·rw [zDB] at hl
  cases hq : zAa t fr with
  | none => simp [hq] at hl
  | some v0 =>
   simp [hq] at hl
   subst hl
   exact ⟨(hr.slots t v0 hq).1, hvf (hr.slots t v0 hq).2⟩
theorem Rep.moved {c : Ctx} {w w' : World} {a : Act} {σ : Nat → Option Blk} {S : Nat → Prop} {n : Nat} {fr : Fr} {H : zP} (hr : Rep c w a σ S n fr H) {h : Nat} {o : AObj} (hh : H[h]? = some (some o)) {c' : Cells} {b C : Nat} {cur : Array Value}
 (hos : w'.os = w.os) (hout : w'.output = w.output) (htape : w'.tape = w.tape) (hsize : w.heap.size ≤ w'.heap.size)
 (hsz : c'.sz = o.c.sz)
 (hblk : ∀ b', b' < w.heap.size → b' ≠ b → w'.heap[b']? = w.heap[b']?)
 (hb : w'.heap[b]? = some (.cells cur o.ty (0, 0))) (hcur : cur.size = C * c'.sz) (hC : C ≤ maxLen) (hlen : c'.len ≤ C)
 (hfresh : w.heap.size ≤ b ∨ σ h = some (.at b o.c.sz C)) (hfix : ¬ c.fix h ∨ σ h = some (.at b o.c.sz C))
 (hc : ∀ i j, i < c'.len → j < c'.sz → ∃ v, cur[i * c'.sz + j]? = some v ∧ VR w S σ (c'.at i j) v ∧ v.oneCell' = true) (hnr : ∀ i j, i < c'.len → j < c'.sz → (c'.at i j).forget h = c'.at i j) :
 Rep c w' a (upσ σ h (.at b c'.sz C)) S n (zBf h fr) ((zBm h H).set h (some ⟨o.ty, c'⟩)) :=
 hr.movedM hh hos hout htape hsize hsz hblk hb hcur hC hlen hfresh hfix hc hnr (.inl (Nat.le_refl _))
end Go.Ax
namespace Go.Ax
variable [Pins]
open Go.RowKit
/-- Cells are written one after the other into a row whose mark, if any, lies behind them. -/
theorem zBM (P : Program) (g o : Nat) (t : TypeId) (mk : Nat × Nat) : ∀ (vs : List Value) (i : Nat) (cur : Array Value) (w : World), w.heap[g]? = some (.cells cur t mk) → (mk.2 ≤ mk.1 ∨ cur.size ≤ mk.1) → o + i + vs.length ≤ cur.size → (∀ v ∈ vs, v.oneCell' = true) →
 (storeCells ⟨g, o, none⟩ vs i).run P w = .ok () (w.setRow g (cur.toList.take (o + i) ++ vs ++ cur.toList.drop (o + i + vs.length)).toArray)
 | [], i, cur, w, hg, _, _, _ => by
  have _p := ‹Pins›
  simp only [storeCells, List.append_nil, List.length_nil, Nat.add_zero, List.take_append_drop, Array.toArray_toList]
  rw [setRow_self w g cur t mk hg]
  rfl
 | v :: rest, i, cur, w, hg, hm, hl, h1 => by
  have hi : o + i < cur.size := by simp at hl; omega
  have hadd : (⟨g, o, none⟩ : Addr).add i = ⟨g, o + i, none⟩ := Addr.add_lit _ _ _
  have hcell : w.cell? ⟨g, o + i, none⟩ = some cur[o + i] := by simp [World.cell?, hg, hi]
  have hfro : w.frozen? ⟨g, o + i, none⟩ = false := by simp [World.frozen?, hg]; omega
  have hst : (store ((⟨g, o, none⟩ : Addr).add i) v).run P w = .ok () (w.setRow g (cur.setIfInBounds (o + i) v)) := by
   rw [hadd, run_store P w _ v _ (h1 v (by simp)), hcell]
   simp [hfro, setCell_eq_setRow w g (o + i) cur t mk v hg]
  have ih := zBM P g o t mk rest (i + 1) (cur.setIfInBounds (o + i) v) (w.setRow g (cur.setIfInBounds (o + i) v)) (setRow_heap w g cur _ t _ hg) (by simpa using hm) (by simp at hl ⊢; omega) (fun x hx => h1 x (by simp [hx]))
  simp only [storeCells, Sem.run_bind, hst, Result.andThen_ok, ih, setRow_setRow]
  congr 3
  have e := list_seg_step cur.toList (o + i) v rest (by simp at hl ⊢; omega)
  simpa [Array.toList_setIfInBounds, Nat.add_assoc] using e
theorem zGp {P : Program} (w : World) (t ty e : TypeId) (inf : TypeInfo) (ht : P.underlying t = some (.slice e)) (hi : P.info? e = some inf) (g n cap : Nat) (cur : Array Value) {mk : Nat × Nat} (hg : w.heap[g]? = some (.cells cur e mk)) (hm : mk.2 ≤ mk.1 ∨ cur.size ≤ mk.1)
 (a : Addr) (m c : Nat) (news : List Value) (hl : news.length = m * inf.size) (hnews : ∀ j u, news[j]? = some u → w.cell? (a.add j) = some u) (h1 : ∀ u ∈ news, u.oneCell' = true) (hroom : n + m ≤ cap) (hfit : n * inf.size + news.length ≤ cur.size) :
 (Builtin.append_ #[t, t] ty #[.slice (some ⟨g, 0, none⟩) n cap, .slice (some a) m c]).run P w =
  .ok (.slice (some ⟨g, 0, none⟩) (n + m) cap) (w.setRow g (cur.toList.take (n * inf.size) ++ news ++ cur.toList.drop (n * inf.size + news.length)).toArray) := by
 have _p := ‹Pins›
 have hf := run_firstCells_some (P := P) w inf.size m a m c news hl hnews
 have hst := zBM P g (n * inf.size) e mk news 0 cur w hg hm (by simpa using hfit) h1
 simp only [Nat.add_zero] at hst
 simp [Builtin.append_, run_underlying ht, sizeOf, typeInfo, hi, Builtin.lenOf, hroom, hf, Addr.add_lit, hst]
/-- Where a slice's elements are to be read. -/
def zMN (H : zP) : AV → Option (Cells × Nat × Nat)
 | .ro c i m => some (c, i, m)
 | .sl h i m => match H[h]? with
  | some (some o) => some (o.c, i, m)
  | _ => none
 | .nil => some (.ints .i64 [], 0, 0)
 | _ => none
def Src (w : World) (S : Nat → Prop) (σ : Nat → Option Blk) (c : Cells) (i m : Nat) (x : Value) : Prop :=
 (m = 0 ∧ ∃ a cap, x = .slice a 0 cap) ∨ ∃ (ad : Addr) (cap : Nat) (news : List Value), x = .slice (some ad) m cap ∧ news.length = m * c.sz ∧ (∀ j u, news[j]? = some u → w.cell? (ad.add j) = some u) ∧ (∀ u ∈ news, u.oneCell' = true) ∧
  ∀ d j, d < m → j < c.sz → ∃ u, news[d * c.sz + j]? = some u ∧ VR w S σ (c.at (i + d) j) u
theorem divmod {d s j : Nat} (hj : j < s) : (d * s + j) / s = d ∧ (d * s + j) % s = j := by
 have _p := ‹Pins›
 rw [Nat.mul_comm, Nat.mul_add_div (by omega), Nat.mul_add_mod, Nat.div_eq_of_lt hj, Nat.mod_eq_of_lt hj]
 exact ⟨by omega, U⟩
theorem Rep.src {c : Ctx} {w : World} {a : Act} {σ : Nat → Option Blk} {S : Nat → Prop} {n : Nat} {fr : Fr} {H : zP} (hr : Rep c w a σ S n fr H) {v : AV} {x : Value} {cl : Cells} {i m : Nat} (hv : VR w S σ v x) (hs : zMN H v = some (cl, i, m)) (hin : ∀ h, v = .sl h i m → i + m ≤ cl.len) : Src w S σ cl i m x := by
 cases hv <;> simp only [zMN] at hs <;> try (cases hs; done)
 case nil =>
  simp only [Option.some.injEq, Prod.mk.injEq] at hs
  obtain ⟨rfl, rfl, rfl⟩ := hs
  exact .inl ⟨U, none, 0, U⟩
 case ro0 c' i' a' cap =>
  simp only [Option.some.injEq, Prod.mk.injEq] at hs
  obtain ⟨rfl, rfl, rfl⟩ := hs
  exact .inl ⟨U, a', cap, U⟩
 case ro c' i' len b o cap val hS hlen hc hv h1 =>
  simp only [Option.some.injEq, Prod.mk.injEq] at hs
  obtain ⟨rfl, rfl, rfl⟩ := hs
  right
  refine ⟨⟨b, o, none⟩, cap, (List.range (len * c'.sz)).map (fun t => val (t / c'.sz) (t % c'.sz)), U, by simp, ?_, ?_, ?_⟩
  ·intro j u hu
   have hj : j < len * c'.sz := by simpa using (List.getElem?_eq_some_iff.1 hu).1
   have hpos : 0 < c'.sz := by rcases Nat.eq_zero_or_pos c'.sz with h | h; · rw [h] at hj; simp at hj
                               ·exact h
   have hd : j / c'.sz < len := (Nat.div_lt_iff_lt_mul hpos).2 hj
   have hm : j % c'.sz < c'.sz := Nat.mod_lt _ hpos
   simp only [List.getElem?_map, List.getElem?_range hj, Option.map_some, Option.some.injEq] at hu
   subst hu
   have := hc (j / c'.sz) (j % c'.sz) hd hm
   rw [Addr.add_lit]
   have e : o + j / c'.sz * c'.sz + j % c'.sz = o + j := by rw [Nat.add_assoc, Nat.div_add_mod']
   rwa [e] at this
  ·intro u hu
   obtain ⟨t, ht, rfl⟩ := List.mem_map.1 hu
   have hj : t < len * c'.sz := by simpa using ht
   have hpos : 0 < c'.sz := by rcases Nat.eq_zero_or_pos c'.sz with h | h; · rw [h] at hj; simp at hj
                               ·exact h
   exact h1 _ _ ((Nat.div_lt_iff_lt_mul hpos).2 hj) (Nat.mod_lt _ hpos)
  ·intro d j hd hj
   obtain ⟨e1, e2⟩ := divmod (d := d) hj
   have hlt : d * c'.sz + j < len * c'.sz := by
    have : (d + 1) * c'.sz ≤ len * c'.sz := Nat.mul_le_mul_right _ (by omega)
    rw [Nat.add_mul] at this; omega
   refine ⟨val d j, by simp [hlt, e1, e2], (hv d j hd hj).mono (fun _ h => h) (fun _ _ => rfl) _ (fun _ _ h => by cases h)⟩
 case sl h i' len b s C cap hlen hcap hσ =>
  cases hq : H[h]? with
  | none => simp [hq] at hs
  | some oo => cases oo with
   | none => simp [hq] at hs
   | some o =>
    simp only [hq, Option.some.injEq, Prod.mk.injEq] at hs
    obtain ⟨rfl, rfl, rfl⟩ := hs
    have hin' := hin h rfl
    obtain ⟨hs', cur, g1, g2, g3, g4, g5, g6⟩ := hr.obj hq hσ
    subst hs'
    by_cases hz0 : o.c.sz = 0
    ·by_cases hm : len = 0
     ·subst hm; exact .inl ⟨rfl, _, _, rfl⟩
     right
     refine ⟨⟨b, i' * o.c.sz, none⟩, cap, [], U, by simp [hz0], fun j u hu => by simp at hu, fun u hu => by simp at hu, fun d j hd hj => by omega⟩
    obtain ⟨mk, g1, _, _⟩ := g1.cells hz0
    by_cases hm : len = 0
    ·subst hm; exact .inl ⟨rfl, _, _, rfl⟩
    right
    have hsub : ∀ t, t < len * o.c.sz → i' * o.c.sz + t < cur.size := by
     intro t ht
     rw [g2]
     have : (i' + len) * o.c.sz ≤ C * o.c.sz := Nat.mul_le_mul_right _ (by omega)
     rw [Nat.add_mul] at this; omega
    refine ⟨⟨b, i' * o.c.sz, none⟩, cap, (List.range (len * o.c.sz)).map (fun t => cur.getD (i' * o.c.sz + t) undef), U, by simp, ?_, ?_, ?_⟩
    ·intro j u hu
     have hj : j < len * o.c.sz := by simpa using (List.getElem?_eq_some_iff.1 hu).1
     simp only [List.getElem?_map, List.getElem?_range hj, Option.map_some, Option.some.injEq] at hu
     subst hu
     have := hsub j hj
     simp [World.cell?, Addr.add_lit, g1, Array.getD, this]
    ·intro u hu
     obtain ⟨t, ht, rfl⟩ := List.mem_map.1 hu
     have hj : t < len * o.c.sz := by simpa using ht
     have hpos : 0 < o.c.sz := by rcases Nat.eq_zero_or_pos o.c.sz with h | h; · rw [h] at hj; simp at hj
                                  ·exact h
     have hd : t / o.c.sz < len := (Nat.div_lt_iff_lt_mul hpos).2 hj
     obtain ⟨v, e1, _, e3⟩ := g6 (i' + t / o.c.sz) (t % o.c.sz) (by omega) (Nat.mod_lt _ hpos)
     have e : (i' + t / o.c.sz) * o.c.sz + t % o.c.sz = i' * o.c.sz + t := by rw [Nat.add_mul, Nat.add_assoc, Nat.div_add_mod']
     rw [e] at e1
     simp [e1, e3]
    ·intro d j hd hj
     obtain ⟨v, e1, e2, _⟩ := g6 (i' + d) j (by omega) hj
     have hlt : d * o.c.sz + j < len * o.c.sz := by
      have : (d + 1) * o.c.sz ≤ len * o.c.sz := Nat.mul_le_mul_right _ (by omega)
      rw [Nat.add_mul] at this; omega
     have e : (i' + d) * o.c.sz + j = i' * o.c.sz + (d * o.c.sz + j) := by rw [Nat.add_mul]; omega
     rw [e] at e1
     exact ⟨v, by simp [hlt, e1], e2⟩
 case sl0 h hσ =>
  cases hq : H[h]? with
  | none => simp [hq] at hs
  | some oo => cases oo with
   | none => simp [hq] at hs
   | some o =>
    simp only [hq, Option.some.injEq, Prod.mk.injEq] at hs
    obtain ⟨rfl, rfl, rfl⟩ := hs
    exact .inl ⟨U, none, 0, U⟩
/-- What is there behind an append. -/
def Cells.app (c : Cells) (cx : Cells) (i m : Nat) : Option Cells :=
 match c, cx with
 | .ints k l, .ints k' l' => match k, k' with
  | .i64, .i64 => some (.ints k (l ++ (l'.drop i).take m))
  | .u8, .u8 => some (.ints k (l ++ (l'.drop i).take m))
  | .u64, .u64 => some (.ints k (l ++ (l'.drop i).take m))
  | .i32, .i32 => some (.ints k (l ++ (l'.drop i).take m))
  | .u32, .u32 => some (.ints k (l ++ (l'.drop i).take m))
  | _, _ => none
 | .strs l, .strs l' => some (.strs (l ++ (l'.drop i).take m))
 | c, cx => bif Nat.beq c.sz cx.sz then some (.fn (c.len + m) c.sz (fun i' j => bif Nat.blt i' c.len then c.at i' j else cx.at (i + (i' - c.len)) j)) else none
theorem Cells.app_spec {c cx c' : Cells} {i m : Nat} (h : c.app cx i m = some c') (hin : i + m ≤ cx.len) : c'.sz = c.sz ∧ cx.sz = c.sz ∧ c'.len = c.len + m ∧ (∀ i' j, i' < c.len → j < c.sz → c'.at i' j = c.at i' j) ∧ ∀ d j, d < m → j < c.sz → c'.at (c.len + d) j = cx.at (i + d) j := by
 have _p := ‹Pins›
 have gen : c' = .fn (c.len + m) c.sz (fun i' j => bif Nat.blt i' c.len then c.at i' j else cx.at (i + (i' - c.len)) j) → c.sz = cx.sz →
  c'.sz = c.sz ∧ cx.sz = c.sz ∧ c'.len = c.len + m ∧ (∀ i' j, i' < c.len → j < c.sz → c'.at i' j = c.at i' j) ∧ ∀ d j, d < m → j < c.sz → c'.at (c.len + d) j = cx.at (i + d) j := by
  intro e hs
  subst e
  refine ⟨U, hs.symm, U, fun i' j hi hj => ?_, fun d j hd hj => ?_⟩
  ·have : Nat.blt i' c.len = true := Nat.ble_eq_true_of_le hi
   simp [Cells.at, this]
  ·have : Nat.blt (c.len + d) c.len = false := by
    cases hb : Nat.blt (c.len + d) c.len with
    | false => rfl
    | true => have := Nat.le_of_ble_eq_true hb; omega
   simp [Cells.at, this]
 have gen' : (bif Nat.beq c.sz cx.sz then some (Cells.fn (c.len + m) c.sz (fun i' j => bif Nat.blt i' c.len then c.at i' j else cx.at (i + (i' - c.len)) j)) else none) = some c' →
  c'.sz = c.sz ∧ cx.sz = c.sz ∧ c'.len = c.len + m ∧ (∀ i' j, i' < c.len → j < c.sz → c'.at i' j = c.at i' j) ∧ ∀ d j, d < m → j < c.sz → c'.at (c.len + d) j = cx.at (i + d) j := by
  intro h
  cases hb : Nat.beq c.sz cx.sz with
  | false => simp [hb] at h
  | true => simp only [hb, cond_true, Option.some.injEq] at h; exact gen h.symm (Nat.eq_of_beq_eq_true hb)
 cases c with
 | ints k l =>
  cases cx with
  | ints k' l' =>
   have : c' = .ints k (l ++ (l'.drop i).take m) ∧ k = k' := by
    simp only [Cells.app] at h
    cases k <;> cases k' <;> simp at h <;> exact ⟨h.symm, rfl⟩
   obtain ⟨rfl, rfl⟩ := this
   simp only [Cells.len] at hin
   refine ⟨U, U, by simp [Cells.len]; omega, fun i' j hi hj => ?_, fun d j hd hj => ?_⟩
   ·simp only [Cells.len] at hi
    simp [Cells.at, List.getD, List.getElem?_append, hi]
   ·have h1 : ¬ l.length + d < l.length := by omega
    simp [Cells.at, Cells.len, List.getD, List.getElem?_append, hd, h1]
  | _ => exact gen' h
 | strs l =>
  cases cx with
  | strs l' =>
   simp only [Cells.app, Option.some.injEq] at h
   subst h
   simp only [Cells.len] at hin
   refine ⟨U, U, by simp [Cells.len]; omega, fun i' j hi hj => ?_, fun d j hd hj => ?_⟩
   ·simp only [Cells.len] at hi
    simp [Cells.at, List.getD, List.getElem?_append, hi]
   ·have h1 : ¬ l.length + d < l.length := by omega
    simp [Cells.at, Cells.len, List.getD, List.getElem?_append, hd, h1]
  | _ => exact gen' h
 | box l => exact gen' h
 | fn n s f => exact gen' h
 | mp ks vs => exact gen' h
def Cells.simple : Cells → Bool
 | .ints _ _ => true
 | .strs _ => true
 | _ => false
/-- A nil slice that gets nothing. -/
theorem Rep.nowhere {c : Ctx} {w : World} {a : Act} {σ : Nat → Option Blk} {S : Nat → Prop} {n : Nat} {fr : Fr} {H : zP} (hr : Rep c w a σ S n fr H) {h : Nat} {o : AObj} (hh : H[h]? = some (some o)) (hσ : σ h = some .nowhere) {c' : Cells} (hsz : c'.sz = o.c.sz) (hlen : c'.len = 0) :
 Rep c w a σ S n (zBf h fr) ((zBm h H).set h (some ⟨o.ty, c'⟩)) := by
 have hlt : h < H.length := (List.getElem?_eq_some_iff.1 hh).1
 have hlt' : h < (zBm h H).length := by rw [zBw]; exact hlt
 have hvf : ∀ {x v}, VR w S σ x v → VR w S σ (x.forget h) v := fun hv => hv.forget _ (fun _ _ => rfl)
 have hset : ∀ h' o', ((zBm h H).set h (some ⟨o.ty, c'⟩))[h']? = some (some o') → (h' = h ∧ o' = ⟨o.ty, c'⟩) ∨ (h' ≠ h ∧ ∃ o0, H[h']? = some (some o0) ∧ o' = ⟨o0.ty, o0.c.forget h⟩) := by
  intro h' o' ho
  by_cases he : h' = h
  ·subst he
   simp only [List.getElem?_set_self hlt', Option.some.injEq] at ho
   exact .inl ⟨U, ho.symm⟩
  ·rw [List.getElem?_set_ne (Ne.symm he), zH6] at ho
   cases hq : H[h']? with
   | none => simp [hq] at ho
   | some oo => cases oo with
    | none => simp [hq, zGB] at ho
    | some o0 =>
     simp [hq, zGB] at ho
     exact .inr ⟨he, o0, U, ho.symm⟩
 refine ⟨⟨?_, ?_, hr.hr.small, fun h' hl => hr.hr.dom h' (by simpa [zBw] using hl)⟩, ⟨hr.kp.os, hr.kp.output, hr.kp.tape, hr.kp.size, hr.kp.block, hr.kp.S1, hr.kp.S2, hr.kp.fixed, fun h' hf => by simpa [zBw] using hr.kp.fixlt h' hf, ?_⟩, hr.defers, hr.size, fun t v hl => ?_⟩
 ·intro h' o' ho
  rcases hset h' o' ho with ⟨rfl, rfl⟩ | ⟨hne, o0, ho0, rfl⟩
  ·exact .inl ⟨hσ, hlen⟩
  ·rcases hr.hr.live h' o0 ho0 with ⟨hn, hl0⟩ | ⟨b', C', cu, g1, g2, g3, g4, g5, g6, g7⟩
   ·exact .inl ⟨hn, by simpa [Cells.forget_len] using hl0⟩
   ·right
    simp only [Cells.forget_len, Cells.forget_sz]
    refine ⟨b', C', cu, g1, g2.forget U hvf, g3, g4, g5, g6, fun i j hi hj => ?_⟩
    obtain ⟨v, e1, e2, e3⟩ := g7 i j hi hj
    exact ⟨v, e1, by rw [Cells.forget_at h o0.c i j hj]; exact hvf e2, e3⟩
 ·intro h1 h2 o1 o2 b' s1 C1 s2 C2 g1 g2 e1 e2
  have t1 : ∃ o, H[h1]? = some (some o) := by
   rcases hset h1 o1 g1 with ⟨rfl, _⟩ | ⟨_, o0, g, _⟩
   ·exact ⟨_, hh⟩
   ·exact ⟨_, g⟩
  have t2 : ∃ o, H[h2]? = some (some o) := by
   rcases hset h2 o2 g2 with ⟨rfl, _⟩ | ⟨_, o0, g, _⟩
   ·exact ⟨_, hh⟩
   ·exact ⟨_, g⟩
  obtain ⟨_, t1⟩ := t1
  obtain ⟨_, t2⟩ := t2
  exact hr.hr.dist h1 h2 _ _ b' s1 C1 s2 C2 t1 t2 e1 e2
 ·intro h' o' b' s' C' ho hb'
  rcases hset h' o' ho with ⟨rfl, _⟩ | ⟨_, o0, ho0, _⟩
  ·rw [hσ] at hb'; cases hb'
  ·exact hr.kp.own h' o0 b' s' C' ho0 hb'
 ·rw [zDB] at hl
  cases hq : zAa t fr with
  | none => simp [hq] at hl
  | some v0 =>
   simp [hq] at hl
   subst hl
   exact ⟨(hr.slots t v0 hq).1, hvf (hr.slots t v0 hq).2⟩
section
variable {P : Program} {fn : Func} {c : Ctx} {fr : Fr} {H : zP} {k : List It}
/-- x = append(x, y...): x an object of one's own. -/
theorem zAt {all : Array Oper} {d : Nat} {t e : TypeId} {x y : Operand} {ty : TypeId} {pos : String} {after : Array Edge} {rest : List Oper} {inf : TypeInfo} {z : Value} {h n : Nat} {o : AObj} {v : AV} {cx c' : Cells} {i m : Nat}
 (ht : P.underlying t = some (.slice e)) (hi : P.info? e = some inf) (hz : inf.zero = some z) (hszz : inf.size = o.c.sz) (hzs : z.cells.size = o.c.sz) (hpos : Nat.blt 0 o.c.sz = true)
 (hx : ev fr x = some (.sl h 0 n)) (hh : H[h]? = some (some o)) (hoty : o.ty = e) (hn : o.c.len = n) (hy : ev fr y = some v) (hs : zMN H v = some (cx, i, m)) (hin : i + m ≤ cx.len) (happ : o.c.app cx i m = some c')
 (hb : (n + m) * inf.bytes ≤ 140737488355328 ∧ n + m ≤ 9223372036854775807) (hnr : ∀ i j, i < c'.len → j < c'.sz → (c'.at i j).forget h = c'.at i j) (hfix : ¬ c.fix h)
 (hk : Ax P fn c (.ops false all rest k) ((d, .sl h 0 (n + m)) :: zBf h fr) ((zBm h H).set h (some ⟨e, c'⟩))) : Ax P fn c (.ops false all (⟨some d, .call { callee := .builtin .append, args := #[x, y], argTypes := #[t, t] }, ty, pos, after, none⟩ :: rest) k) fr H := by
 refine ax_w (fun w a σ S hr => ?_) hk
 subst hoty
 obtain ⟨p1, p2, p3, p4, p5⟩ := Cells.app_spec happ hin
 have hpos' : 0 < o.c.sz := Nat.le_of_ble_eq_true hpos
 have h1 := hr.evAt hx
 have h2 := hr.evAt hy
 have hsrc := hr.src h2 hs (fun _ _ => hin)
 have hexec : ∀ r w', (Builtin.append_ #[t, t] ty #[a.eval x, a.eval y]).run P w = .ok r w' → (execOp a.eval ⟨some d, .call { callee := .builtin .append, args := #[x, y], argTypes := #[t, t] }, ty, pos, after, none⟩).run P w = .ok (.value r) w' := by
  intro r w' h
  simp [execOp, resolve, invoke, builtin, h]
 generalize hzx : a.eval x = vx at h1 hexec
 generalize hzy : a.eval y = vy at h2 hsrc hexec
 unfold Src at hsrc
 rw [p2] at hsrc
 -- what the old cells and the new ones give
 cases h1 with
 | sl _ _ _ _ b s C cap hσ hlen hcap =>
  subst hn
  obtain ⟨hs', cur, g1, g2, g3, g4, g5, g6⟩ := hr.obj hh hσ
  subst hs'
  have hcapC : cap = C := by omega
  subst hcapC
  obtain ⟨mk, g1, hmk, g3⟩ := g1.cells (by omega)
  have holds : ∀ i' j, i' < o.c.len → j < o.c.sz → ∃ u, (cur.toList.take (o.c.len * o.c.sz))[i' * o.c.sz + j]? = some u ∧ VR w S σ (c'.at i' j) u ∧ u.oneCell' = true := by
   intro i' j hi' hj
   obtain ⟨u, e1, e2, e3⟩ := g6 i' j hi' hj
   have hlt : i' * o.c.sz + j < o.c.len * o.c.sz := by
    have : (i' + 1) * o.c.sz ≤ o.c.len * o.c.sz := Nat.mul_le_mul_right _ (by omega)
    rw [Nat.add_mul] at this; omega
   refine ⟨u, ?_, by rw [p4 i' j hi' hj]; exact e2, e3⟩
   rw [List.getElem?_take, if_pos hlt]
   simpa using e1
  have hnle : o.c.len * o.c.sz ≤ cur.size := by rw [g2]; exact Nat.mul_le_mul_right _ hlen
  rcases hsrc with ⟨rfl, ax, capx, rfl⟩ | ⟨ad, capx, news, rfl, q1, q2, q3, q4⟩
  ·-- nothing appended
   have hrun : (Builtin.append_ #[t, t] ty #[.slice (some ⟨b, 0 * o.c.sz, none⟩) o.c.len cap, .slice ax 0 capx]).run P w = .ok (.slice (some ⟨b, 0 * o.c.sz, none⟩) o.c.len cap) w := by
    cases ax <;> simp [Builtin.append_, run_underlying ht, sizeOf, typeInfo, hi, Builtin.lenOf, hlen, Builtin.firstCells, loadCells, loadCellsFrom, storeCells]
   refine ⟨_, w, _, S, hexec _ _ hrun, hr.movedM (C := cap) (cur := cur) hh U U U (Nat.le_refl _) p1 (fun _ _ _ => rfl) g1 (by rw [p1]; exact g2) g3 (by omega) (.inr hσ) (.inr hσ) (fun i' j hi' hj => ?_) hnr hmk, ?_⟩
   ·rw [p3] at hi'
    rw [p1] at hj ⊢
    obtain ⟨u, e1, e2, e3⟩ := g6 i' j (by omega) hj
    exact ⟨u, e1, by rw [p4 i' j (by omega) hj]; exact e2, e3⟩
   ·rw [← p1]
    exact .sl _ _ _ _ _ _ cap _ (by simp [upσ]) (by omega) (by omega)
  ·by_cases hroom : o.c.len + m ≤ cap
   ·have hfit : o.c.len * o.c.sz + news.length ≤ cur.size := by rw [q1, g2, ← Nat.add_mul]; exact Nat.mul_le_mul_right _ hroom
    have hrun := zGp (P := P) w t ty o.ty inf ht hi b o.c.len cap cur g1 hmk ad m capx news (by rw [hszz]; exact q1) q2 q3 hroom (by rw [hszz]; exact hfit)
    rw [hszz] at hrun
    have hL : (cur.toList.take (o.c.len * o.c.sz)).length = o.c.len * o.c.sz := by simp; omega
    refine ⟨_, _, _, S, hexec _ _ (by simpa using hrun), hr.movedM (w' := w.setRow b (cur.toList.take (o.c.len * o.c.sz) ++ news ++ cur.toList.drop (o.c.len * o.c.sz + news.length)).toArray) (c' := c') (C := cap) hh U U U (by simp) p1 (fun b' _ hb' => setRow_other w b b' _ hb') (setRow_heap w b cur _ _ _ g1) ?_ g3 (by omega) (.inr hσ) (.inr hσ) (fun i' j hi' hj => ?_) hnr ?_, ?_⟩
    ·rw [p1, ← g2]; simp; omega
    ·rw [p3] at hi'
     rw [p1] at hj ⊢
     by_cases hlo : i' < o.c.len
     ·obtain ⟨u, e1, e2, e3⟩ := holds i' j hlo hj
      refine ⟨u, ?_, e2, e3⟩
      have hlt : i' * o.c.sz + j < o.c.len * o.c.sz := by
       have : (i' + 1) * o.c.sz ≤ o.c.len * o.c.sz := Nat.mul_le_mul_right _ (by omega)
       rw [Nat.add_mul] at this; omega
      simp only [List.getElem?_toArray, List.append_assoc]
      rw [List.getElem?_append_left (by omega)]
      exact e1
     ·obtain ⟨u, e1, e2⟩ := q4 (i' - o.c.len) j (by omega) hj
      refine ⟨u, ?_, ?_, q3 u (List.mem_of_getElem? e1)⟩
      ·have hidx : i' * o.c.sz + j = o.c.len * o.c.sz + ((i' - o.c.len) * o.c.sz + j) := by
        rw [← Nat.add_assoc, ← Nat.add_mul]; congr 2; omega
       have hlt : (i' - o.c.len) * o.c.sz + j < news.length := (List.getElem?_eq_some_iff.1 e1).1
       simp only [List.getElem?_toArray, List.append_assoc]
       rw [hidx, List.getElem?_append_right (by omega), hL, Nat.add_sub_cancel_left, List.getElem?_append_left hlt]
       exact e1
      ·have := p5 (i' - o.c.len) j (by omega) hj
       rw [show o.c.len + (i' - o.c.len) = i' by omega] at this
       rw [this]; exact e2
    ·have hsz : (cur.toList.take (o.c.len * o.c.sz) ++ news ++ cur.toList.drop (o.c.len * o.c.sz + news.length)).toArray.size = cur.size := by simp; omega
     rw [hsz]; exact hmk
    ·have := VR.sl (w := w.setRow b (cur.toList.take (o.c.len * o.c.sz) ++ news ++ cur.toList.drop (o.c.len * o.c.sz + news.length)).toArray) (S := S) (upσ σ h (.at b c'.sz cap)) h 0 (o.c.len + m) b c'.sz cap cap (by simp [upσ]) hroom (by omega)
     simpa using this
   ·have hxs : (cur.toList.take (o.c.len * o.c.sz)).length = o.c.len * inf.size := by rw [hszz]; simp; omega
    have hrun := run_append_grow (P := P) w t ty o.ty inf z ht hi hz ⟨b, 0, none⟩ o.c.len cap (cur.toList.take (o.c.len * o.c.sz)) hxs (fun j u hu => ?_) ad m capx news (by rw [hszz]; exact q1) q2 (by omega) (by omega) (growslice_fits (by omega) hb.1)
    rotate_left
    ·rw [List.getElem?_take] at hu
     split at hu
     ·simp [World.cell?, Addr.add_lit, g1]; simpa using hu
     ·cases hu
    have hge := grownCap_ge w (o.c.len + m) cap o.ty
    have hle := grownCap_le_maxLen w (o.c.len + m) cap o.ty (by unfold maxLen; omega)
    generalize grownCap w (o.c.len + m) cap o.ty = G at hrun hge hle
    generalize hxx : cur.toList.take (o.c.len * o.c.sz) = xs at hrun holds hxs
    rw [hszz] at hxs
    refine ⟨_, w.drew.alloc (.cells (xs.toArray ++ news.toArray ++ Builtin.zeroCells z.cells (G - (o.c.len + m))) o.ty), _, S, hexec _ _ (by rw [Nat.zero_mul]; exact hrun), Rep.moved (w := w) (c' := c') (C := G) (b := w.heap.size) (cur := xs.toArray ++ news.toArray ++ Builtin.zeroCells z.cells (G - (o.c.len + m))) hr hh U U U (by simp) p1 (fun b' hb' _ => Below.heap_alloc w.drew (.cells (xs.toArray ++ news.toArray ++ Builtin.zeroCells z.cells (G - (o.c.len + m))) o.ty) b' hb') (heap_alloc_new w.drew _) ?_ hle (by omega) (.inl (Nat.le_refl _)) (.inl hfix) (fun i' j hi' hj => ?_) hnr, ?_⟩
    ·simp only [Array.size_append, List.size_toArray, size_zeroCells, hxs, q1, hzs, p1, ← Nat.add_mul]
     congr 1; omega
    ·rw [p3] at hi'
     rw [p1] at hj ⊢
     by_cases hlo : i' < o.c.len
     ·obtain ⟨u, e1, e2, e3⟩ := holds i' j hlo hj
      refine ⟨u, ?_, e2, e3⟩
      have hlt := (List.getElem?_eq_some_iff.1 e1).1
      rw [Array.append_assoc, Array.getElem?_append_left (by simpa using hlt)]
      simpa using e1
     ·obtain ⟨u, e1, e2⟩ := q4 (i' - o.c.len) j (by omega) hj
      refine ⟨u, ?_, ?_, q3 u (List.mem_of_getElem? e1)⟩
      ·have hidx : i' * o.c.sz + j = o.c.len * o.c.sz + ((i' - o.c.len) * o.c.sz + j) := by
        rw [← Nat.add_assoc, ← Nat.add_mul]; congr 2; omega
       have hlt : (i' - o.c.len) * o.c.sz + j < news.length := (List.getElem?_eq_some_iff.1 e1).1
       rw [Array.append_assoc, hidx, Array.getElem?_append_right (by simp [hxs]), Array.getElem?_append_left (by simp [hxs]; exact hlt)]
       simp [hxs]
       exact e1
      ·have := p5 (i' - o.c.len) j (by omega) hj
       rw [show o.c.len + (i' - o.c.len) = i' by omega] at this
       rw [this]; exact e2
    ·have := VR.sl (w := w.drew.alloc (.cells (xs.toArray ++ news.toArray ++ Builtin.zeroCells z.cells (G - (o.c.len + m))) o.ty)) (S := S) (upσ σ h (.at w.heap.size c'.sz G)) h 0 (o.c.len + m) w.heap.size c'.sz G G (by simp [upσ]) hge (by omega)
     simpa using this
 | sl0 _ _ hσ =>
  have hl0 : o.c.len = 0 := hn
  rcases hsrc with ⟨rfl, ax, capx, rfl⟩ | ⟨ad, capx, news, rfl, q1, q2, q3, q4⟩
  ·have hrun : (Builtin.append_ #[t, t] ty #[.slice none 0 0, .slice ax 0 capx]).run P w = .ok (.slice none 0 0) w := by
    cases ax <;> simp [Builtin.append_, run_underlying ht, sizeOf, typeInfo, hi, Builtin.lenOf, Builtin.firstCells, loadCells, loadCellsFrom]
   refine ⟨_, w, σ, S, hexec _ _ hrun, hr.nowhere hh hσ p1 (by omega), ?_⟩
   exact .sl0 _ _ hσ
  ·by_cases hm : m = 0
   ·subst hm
    have hrun : (Builtin.append_ #[t, t] ty #[.slice none 0 0, .slice (some ad) 0 capx]).run P w = .ok (.slice none 0 0) w := by
     simp [Builtin.append_, run_underlying ht, sizeOf, typeInfo, hi, Builtin.lenOf, Builtin.firstCells, loadCells, loadCellsFrom]
    refine ⟨_, w, σ, S, hexec _ _ hrun, hr.nowhere hh hσ p1 (by omega), ?_⟩
    exact .sl0 _ _ hσ
   ·have hrun := run_append_nil (P := P) w t ty o.ty inf z ht hi hz ad m capx news (by rw [hszz]; exact q1) q2 (by omega) (by omega) (by
     have hb1 := hb.1
     rw [Nat.zero_add] at hb1
     omega)
    have hge := grownCap_ge w m 0 o.ty
    have hle := grownCap_le_maxLen w m 0 o.ty (by unfold maxLen; omega)
    generalize grownCap w m 0 o.ty = G at hrun hge hle
    refine ⟨_, w.drew.alloc (.cells (news.toArray ++ Builtin.zeroCells z.cells (G - m)) o.ty), _, S, hexec _ _ hrun, Rep.moved (w := w) (c' := c') (C := G) (b := w.heap.size) (cur := news.toArray ++ Builtin.zeroCells z.cells (G - m)) hr hh U U U (by simp) p1 (fun b' hb' _ => Below.heap_alloc w.drew (.cells (news.toArray ++ Builtin.zeroCells z.cells (G - m)) o.ty) b' hb') (heap_alloc_new w.drew _) ?_ hle (by omega) (.inl (Nat.le_refl _)) (.inl hfix) (fun i' j hi' hj => ?_) hnr, ?_⟩
    ·simp only [Array.size_append, List.size_toArray, size_zeroCells, q1, hzs, p1, ← Nat.add_mul]
     congr 1; omega
    ·rw [p3] at hi'
     rw [p1] at hj ⊢
     obtain ⟨u, e1, e2⟩ := q4 i' j (by omega) hj
     refine ⟨u, ?_, ?_, q3 u (List.mem_of_getElem? e1)⟩
     ·have hlt := (List.getElem?_eq_some_iff.1 e1).1
      rw [Array.getElem?_append_left (by simpa using hlt)]
      simpa using e1
     ·have := p5 i' j (by omega) hj
      rw [show o.c.len + i' = i' by omega] at this
      rw [this]; exact e2
    ·have := VR.sl (w := w.drew.alloc (.cells (news.toArray ++ Builtin.zeroCells z.cells (G - m)) o.ty)) (S := S) (upσ σ h (.at w.heap.size c'.sz G)) h 0 m w.heap.size c'.sz G G (by simp [upσ]) hge (by omega)
     simpa [hl0] using this
end
end Go.Ax
namespace Go.Ax
variable [Pins]
open Go.RowKit
def zDS (σ : Nat → Option Blk) (H : zP) (b : Nat) : Prop := ∃ h o s C, H[h]? = some (some o) ∧ σ h = some (.at b s C)
/-- The pins hold, and will, as long as nothing but what is owned here changes. -/
def zC5 (w : World) (S : Nat → Prop) (σ : Nat → Option Blk) (H : zP) : Prop := ∀ (w' : World) (S' : Nat → Prop), (∀ b, S b → S' b) → w.heap.size ≤ w'.heap.size → (∀ b, b < w.heap.size → ¬ zDS σ H b → w'.heap[b]? = w.heap[b]?) → Pins.G w' S'
theorem zC5.less {w : World} {S S2 : Nat → Prop} {σ σ2 : Nat → Option Blk} {H H2 : zP} (h : zC5 w S σ H) (hS : ∀ b, S b → S2 b) (ho : ∀ b, zDS σ2 H2 b → zDS σ H b) : zC5 w S2 σ2 H2 :=
 fun w' S' h1 h2 h3 => h w' S' (fun b hb => h1 b (hS b hb)) h2 (fun b hb hn => h3 b hb (fun q => hn (ho b q)))
theorem zC5.now {w : World} {S : Nat → Prop} {σ : Nat → Option Blk} {H : zP} (h : zC5 w S σ H) : Pins.G w S := h w S (fun _ h => h) (Nat.le_refl _) (fun _ _ _ => rfl)
def zBd (w : World) (S : Nat → Prop) (σ : Nat → Option Blk) (H : zP) (fix : Nat → Prop) (R : AV → zP → Prop) (hp : zC5 w S σ H) : Ctx := ⟨w, S, zDS σ H, σ, fix, R, hp⟩
theorem zDS.nil {σ : Nat → Option Blk} {H : zP} {b : Nat} (h : zDS (fun _ => none) [] b) : zDS σ H b := by have _p := ‹Pins›; obtain ⟨h, o, s, C, h1, _⟩ := h; simp at h1
def VRs (w : World) (S : Nat → Prop) (σ : Nat → Option Blk) (args : List AV) (vals : Array Value) : Prop :=
 vals.size = args.length ∧ ∀ i, i < args.length → VR w S σ (args.getD i .any) (vals.getD i undef)
/-- A contract: called on such arguments, over such memory, the function returns a result and leaves memory of which K holds. -/
def zd (P : Program) (f : FuncId) (args : List AV) (H : zP) (fix : Nat → Prop) (K : AV → zP → Prop) : Prop :=
 (∃ fn, P.funcs[f]? = some fn ∧ (fn.name == "runtime.NumGoroutine") = false ∧ fn.body.isNone = false) ∧
 ∀ w σ S vals (hp : zC5 w S σ H), HR w S σ H → (∀ h, fix h → h < H.length) → VRs w S σ args vals →
  Calls P f vals w (fun e w' => ∃ v r σ' S' H', e = .returned v ∧ HR w' S' σ' H' ∧ VR w' S' σ' r v ∧ Kp (zBd w S σ H fix K hp) w' S' σ' H' ∧ K r H')
section
variable {P : Program} {fn : Func} {c : Ctx} {fr : Fr} {H : zP} {k : List It}
theorem zMX {w : World} {a : Act} {σ : Nat → Option Blk} {S : Nat → Prop} {n : Nat} (hr : Rep c w a σ S n fr H) {r : ResultVar} {v : AV} (h : ares1 P fr H r = some v) :
 ∃ x, ((match r with
  | .tmp t => pure (a.tmps.getD t undef)
  | .cell ad t => do loadVar t (← asAddr (a.tmps.getD ad undef)) : Sem Value)).run P w = .ok x w ∧ VR w S σ v x := by
 cases r with
 | tmp t => exact ⟨_, rfl, (hr.slots t v h).2⟩
 | cell t ty =>
  simp only [ares1] at h
  cases h1 : zAa t fr with
  | none => simp [h1] at h
  | some p =>
   cases p <;> try (simp [h1] at h; done)
   rename_i ob i j
   cases i with
   | succ _ => simp [h1] at h
   | zero => cases j with
    | succ _ => simp [h1] at h
    | zero =>
     simp only [h1] at h
     cases h2 : H[ob]? with
     | none => simp [h2] at h
     | some oo => cases oo with
      | none => simp [h2] at h
      | some o =>
       simp only [h2] at h
       obtain ⟨oty, oc⟩ := o
       cases oc <;> try (simp at h; done)
       rename_i l
       simp only at h
       have h3 := (hr.slots t _ h1).2
       generalize hz : a.tmps.getD t undef = z at h3
       cases h3 with
       | ptr _ _ _ _ b s C hσ =>
        obtain ⟨hs, cur, g1, g2, g3, g4, g5, g6⟩ := hr.obj h2 hσ
        simp only [Cells.sz] at hs g2 g6
        simp only [Cells.len] at g4 g6
        have hcell : ∀ j, j < l.length → ∃ x, w.cell? ⟨b, j, none⟩ = some x ∧ VR w S σ (l.getD j .any) x ∧ x.oneCell' = true := by
         intro j hj
         obtain ⟨mk, g1, _, _⟩ := g1.cells (by show l.length ≠ 0; omega)
         obtain ⟨x, e1, e2, e3⟩ := g6 0 j (by omega) hj
         refine ⟨x, ?_, e2, e3⟩
         simp only [Nat.zero_mul, Nat.zero_add] at e1
         simp [World.cell?, g1, e1]
        have hagg : ∀ inf : TypeInfo, P.info? ty = some inf → Nat.beq inf.size l.length = true → zBO (P.underlying ty |>.getD .string) = true → (P.underlying ty).isSome = true →
         ∃ x, (loadVar ty ⟨b, 0, none⟩).run P w = .ok x w ∧ VR w S σ (.agg l) x := by
         intro inf hinf hsz hag hsome
         obtain ⟨u, hu⟩ := Option.isSome_iff_exists.1 hsome
         have hs2 := Nat.eq_of_beq_eq_true hsz
         let cs : List Value := (List.range l.length).map (fun j => (w.cell? ⟨b, j, none⟩).getD undef)
         have hl := run_loadCells_list (P := P) w ⟨b, 0, none⟩ cs (fun j v hv => by
          have hj : j < l.length := by simpa [cs] using (List.getElem?_eq_some_iff.1 hv).1
          obtain ⟨x, e1, _, _⟩ := hcell j hj
          simp only [cs, List.getElem?_map, List.getElem?_range hj, Option.map_some, Option.some.injEq] at hv
          subst hv
          simp [Addr.add_lit, e1])
         have hcl : cs.length = inf.size := by simp [cs, hs2]
         refine ⟨.agg cs.toArray, ?_, .agg _ _ _ (by simp [cs]) (fun j hj => ?_) (fun j hj => ?_)⟩
         ·have hu2 : zBO u = true := by rw [hu] at hag; exact hag
          rw [hcl] at hl
          simp [loadVar, zCY hu, hu2, sizeOf, typeInfo, hinf, hl]
         ·obtain ⟨x, e1, e2, _⟩ := hcell j hj
          simpa [cs, Array.getD, hj, e1] using e2
         ·obtain ⟨x, e1, _, e3⟩ := hcell j hj
          simpa [cs, Array.getD, hj, e1] using e3
        have hone : ∀ u, P.underlying ty = some u → zBO u = false → Nat.beq 1 l.length = true → l[0]? = some v → ∃ x, (loadVar ty ⟨b, 0, none⟩).run P w = .ok x w ∧ VR w S σ v x := by
         intro u hu hag hsz hv
         have hs2 := Nat.eq_of_beq_eq_true hsz
         obtain ⟨x, e1, e2, _⟩ := hcell 0 (by omega)
         have : l.getD 0 .any = v := by simp [List.getD, hv]
         rw [this] at e2
         exact ⟨x, by simp [loadVar, zCY hu, hag, load, Sem.run, e1], e2⟩
        have fin : (∃ x, (loadVar ty ⟨b, 0, none⟩).run P w = .ok x w ∧ VR w S σ v x) → ∃ x, (do loadVar ty (← asAddr (.pointer (some ⟨b, 0 * s + 0, none⟩))) : Sem Value).run P w = .ok x w ∧ VR w S σ v x := by
         rintro ⟨x, e1, e2⟩
         exact ⟨x, by simp [asAddr, e1], e2⟩
        show ∃ x, (do loadVar ty (← asAddr (a.tmps.getD t undef)) : Sem Value).run P w = .ok x w ∧ VR w S σ v x
        rw [hz]
        apply fin
        cases hu : P.underlying ty with
        | none => simp [hu] at h
        | some u =>
         cases hinf : P.info? ty with
         | none =>
          cases u <;> simp only [hu, hinf] at h <;> try (cases h; done)
          all_goals
           cases hb : Nat.beq 1 l.length with
           | false => simp [hb] at h
           | true => simp only [hb, cond_true] at h; exact hone _ hu rfl hb h
         | some inf =>
          cases u <;> simp only [hu, hinf] at h
          case struct =>
           cases hb : Nat.beq inf.size l.length with
           | false => simp [hb] at h
           | true => simp only [hb, cond_true, Option.some.injEq] at h; subst h; exact hagg inf hinf hb (by simp [hu, zBO]) (by simp [hu])
          case array =>
           cases hb : Nat.beq inf.size l.length with
           | false => simp [hb] at h
           | true => simp only [hb, cond_true, Option.some.injEq] at h; subst h; exact hagg inf hinf hb (by simp [hu, zBO]) (by simp [hu])
          all_goals
           cases hb : Nat.beq 1 l.length with
           | false => simp [hb] at h
           | true => simp only [hb, cond_true] at h; exact hone _ hu rfl hb h
theorem zLA {w : World} {a : Act} {σ : Nat → Option Blk} {S : Nat → Prop} {n : Nat} (hr : Rep c w a σ S n fr H) {vs : List AV} (h : zGv P fr H fn.results.toList = some vs) :
 ∃ x, (results fn a.tmps).run P w = .ok x w ∧ VR w S σ (zDo vs) x := by
 have key : ∀ (rs : List ResultVar) (vs : List AV), zGv P fr H rs = some vs → ∃ xs : List Value, (rs.mapM (fun (r : ResultVar) => ((match r with
  | .tmp t => pure (a.tmps.getD t undef)
  | .cell ad t => do loadVar t (← asAddr (a.tmps.getD ad undef))) : Sem Value))).run P w = .ok xs w ∧ xs.length = vs.length ∧ ∀ i, i < vs.length → VR w S σ (vs.getD i .any) (xs.getD i undef) := by
  intro rs
  induction rs with
  | nil => intro vs h; simp [zGv] at h; subst h; exact ⟨[], by simp, rfl, fun i hi => by simp at hi⟩
  | cons r rs ih =>
   intro vs h
   simp only [zGv] at h
   cases h1 : ares1 P fr H r with
   | none => simp [h1] at h
   | some v =>
    cases h2 : zGv P fr H rs with
    | none => simp [h1, h2] at h
    | some vs' =>
     simp [h1, h2] at h
     subst h
     obtain ⟨x, e1, e2⟩ := zMX hr h1
     obtain ⟨xs, i1, i2, i3⟩ := ih vs' h2
     refine ⟨x :: xs, ?_, by simp [i2], fun i hi => ?_⟩
     ·rw [List.mapM_cons, Sem.run_bind, e1]
      simp only [Result.andThen_ok, Sem.run_bind, i1, Sem.run_pure]
     ·cases i with
      | zero => exact e2
      | succ i => simpa using i3 i (by simpa using hi)
 obtain ⟨xs, e1, e2, e3⟩ := key _ _ h
 refine ⟨if h : xs.toArray.size = 1 then xs.toArray[0] else .tuple xs.toArray, ?_, ?_⟩
 ·unfold results
  rw [Array.mapM_eq_mapM_toList]
  simp only [Sem.run_bind, Sem.run_map]
  have key2 : ∀ r : Result (List Value), r = .ok xs w → ((r.andThen fun a w' => Result.ok a.toArray w').andThen fun (a : Array Value) w' => Sem.run P (pure (if h : a.size = 1 then a[0] else Value.tuple a)) w') = Result.ok (if h : xs.toArray.size = 1 then xs.toArray[0] else Value.tuple xs.toArray) w := by
   rintro _ rfl; rfl
  exact key2 _ e1
 ·match vs, xs, e2 with
  | [v], [x], _ => exact e3 0 (by simp)
  | [], [], _ => exact .tup _ _ _ rfl (fun i hi => by simp at hi)
  | v1 :: v2 :: r, x1 :: x2 :: q, e2 =>
   have : ¬ (x1 :: x2 :: q).toArray.size = 1 := by simp
   rw [dif_neg this]
   refine .tup _ _ _ (by simpa using e2) (fun i hi => ?_)
   have := e3 i hi
   have hlt : i < (x1 :: x2 :: q).length := by rw [e2]; exact hi
   have e : (x1 :: x2 :: q).toArray.getD i undef = (x1 :: x2 :: q).getD i undef := by
    simp only [Array.getD, List.size_toArray, hlt, dite_true, List.getD, List.getElem?_eq_getElem hlt, Option.getD_some]
    rfl
   rw [e]; exact this
def zHb : Nat → List AV → Fr
 | _, [] => []
 | i, v :: r => (i, v) :: zHb (i + 1) r
theorem zL1 (args : List AV) : ∀ i t v, zAa t (zHb i args) = some v → i ≤ t ∧ t < i + args.length ∧ args.getD (t - i) .any = v := by
 have _p := ‹Pins›
 induction args with
 | nil => intro i t v h; simp [zHb, zAa] at h
 | cons x r ih =>
  intro i t v h
  simp only [zHb, zAa] at h
  by_cases he : t = i
  ·subst he
   simp at h
   subst h
   exact ⟨Nat.le_refl _, by simp, by simp⟩
  ·simp only [zBX he, cond_false] at h
   obtain ⟨h1, h2, h3⟩ := ih (i + 1) t v h
   refine ⟨by omega, by simp; omega, ?_⟩
   rw [show t - i = (t - (i + 1)) + 1 by omega]
   simpa using h3
/-- A contract, out of a walk. -/
theorem zL {f : FuncId} {code : Code} {args : List AV} {fix : Nat → Prop} {R : AV → zP → Prop} (hf : P.funcs[f]? = some fn) (hb : fn.body = some code) (hn : (fn.name == "runtime.NumGoroutine") = false) (hsz : Nat.ble args.length fn.ntmps = true)
 (h : ∀ c : Ctx, c.R = R → c.fix = fix → Ax P fn c (.code code []) (zHb 0 args) H) : zd P f args H fix R := by
 refine ⟨⟨fn, hf, hn, by rw [hb]; rfl⟩, fun w σ S vals hpin hhr hfl hv => ?_⟩
 refine calls_of_wp hf hb ?_
 have hsz' : args.length ≤ fn.ntmps := Nat.le_of_ble_eq_true hsz
 have hrep : Rep (zBd w S σ H fix R hpin) w { tmps := vals ++ Array.replicate (fn.ntmps - vals.size) undef, defers := [] } σ S fn.ntmps (zHb 0 args) H := by
  refine ⟨hhr, ⟨U, U, U, Nat.le_refl _, fun _ _ _ => rfl, fun _ h => h, fun _ h => .inl h, fun _ _ => rfl, hfl, fun h o b s C h1 h2 => .inl ⟨h, o, s, C, h1, h2⟩⟩, U, by simp [hv.1]; omega, fun t v hl => ?_⟩
  obtain ⟨_, h2, h3⟩ := zL1 args 0 t v hl
  simp only [Nat.zero_add, Nat.sub_zero] at h2 h3
  refine ⟨by omega, ?_⟩
  have := hv.2 t h2
  rw [h3] at this
  have hlt : t < vals.size := by rw [hv.1]; exact h2
  have e : (vals ++ Array.replicate (fn.ntmps - vals.size) undef).getD t undef = vals.getD t undef := by
   simp [Array.getElem?_append, hlt]
  rw [e]; exact this
 refine wp_mono (h (zBd w S σ H fix R hpin) U U w _ σ S hrep) ?_
 rintro e a' w' ⟨σ', S', fr', H', hr', hp⟩
 obtain ⟨he, vs, hvs, hR⟩ := hp
 obtain ⟨x, hx, hvx⟩ := zLA hr' hvs
 have fin : a'.defers = [] ∧ ∃ v, (results fn a'.tmps).run P w' = .ok v w' ∧ ∃ v_1 r σ'_1 S'_1 H'_1, Ending.returned v = .returned v_1 ∧ HR w' S'_1 σ'_1 H'_1 ∧ VR w' S'_1 σ'_1 r v_1 ∧ Kp (zBd w S σ H fix R hpin) w' S'_1 σ'_1 H'_1 ∧ R r H'_1 :=
  ⟨hr'.defers, x, hx, x, zDo vs, σ', S', H', rfl, hr'.hr, hvx, hr'.kp, hR⟩
 rcases he with rfl | rfl
 ·exact fin
 ·exact fin
def evs (fr : Fr) : List Operand → Option (List AV)
 | [] => some []
 | x :: r => match ev fr x with
  | some v => match evs fr r with
   | some l => some (v :: l)
   | none => none
  | none => none
theorem zFk {w : World} {a : Act} {σ : Nat → Option Blk} {S : Nat → Prop} {n : Nat} (hr : Rep c w a σ S n fr H) : ∀ (xs : List Operand) (l : List AV), evs fr xs = some l → xs.length = l.length ∧ ∀ i, i < l.length → VR w S σ (l.getD i .any) ((xs.map a.eval).getD i undef)
 | [], l, h => by simp [evs] at h; subst h; exact ⟨rfl, fun i hi => by simp at hi⟩
 | x :: r, l, h => by
  simp only [evs] at h
  cases h1 : ev fr x with
  | none => simp [h1] at h
  | some v =>
   cases h2 : evs fr r with
   | none => simp [h1, h2] at h
   | some l' =>
    simp [h1, h2] at h
    subst h
    obtain ⟨i1, i2⟩ := zFk hr r l' h2
    refine ⟨by simp [i1], fun i hi => ?_⟩
    cases i with
    | zero => exact hr.evAt h1
    | succ i => simpa using i2 i (by simpa using hi)
/-- Behind a call: the caller's state, in the callee's world. -/
theorem Rep.called {w w' : World} {a : Act} {σ σ' : Nat → Option Blk} {S S' : Nat → Prop} {n : Nat} {H' : zP} {fix : Nat → Prop} {K : AV → zP → Prop} (hr : Rep c w a σ S n fr H) (hall : ∀ h, h < H.length → fix h) (hhr : HR w' S' σ' H') {hp : zC5 w S σ H} (hkp : Kp (zBd w S σ H fix K hp) w' S' σ' H') :
 Rep c w' a σ' S' n fr H' := by
 have hσ : ∀ h B, σ h = some B → σ' h = some B := by
  intro h B hB
  have hlt : h < H.length := by
   rcases Nat.lt_or_ge h H.length with hl | hl
   ·exact hl
   ·rw [hr.hr.dom h hl] at hB; cases hB
  have := hkp.fixed h (hall h hlt)
  rw [this]; exact hB
 have hSO : ∀ b, S b → ¬ zDS σ H b := by
  rintro b hs ⟨h, o, s, C, h1, h2⟩
  exact (hr.obj h1 h2).2.choose_spec.2.2.2.2.1 hs
 have hS : ∀ b, S b → w'.heap[b]? = w.heap[b]? := fun b hs => hkp.block b (hr.hr.small b hs) (hSO b hs)
 refine ⟨hhr, ?_, hr.defers, hr.size, fun t v hl => ⟨(hr.slots t v hl).1, (hr.slots t v hl).2.mono hkp.S1 hS _ hσ⟩⟩
 refine ⟨hkp.os.trans hr.kp.os, hkp.output.trans hr.kp.output, hkp.tape.trans hr.kp.tape, Nat.le_trans hr.kp.size hkp.size, fun b hb ho => ?_, fun b hb => hkp.S1 b (hr.kp.S1 b hb), fun b hb => ?_, fun h hf => ?_, fun h hf => hkp.fixlt h (hall h (hr.kp.fixlt h hf)), fun h o b s C h1 h2 => ?_⟩
 ·rw [← hr.kp.block b hb ho]
  have hs1 := hr.kp.size
  refine hkp.block b (by simp only [zBd]; omega) ?_
  rintro ⟨h, o, s, C, h1, h2⟩
  rcases hr.kp.own h o b s C h1 h2 with h3 | h3
  ·exact ho h3
  ·omega
 ·rcases hkp.S2 b hb with h1 | h1 | h1
  ·exact hr.kp.S2 b h1
  ·obtain ⟨h, o, s, C, g1, g2⟩ := h1
   rcases hr.kp.own h o b s C g1 g2 with g3 | g3
   ·exact .inr (.inl g3)
   ·exact .inr (.inr g3)
  ·right; right; have := hr.kp.size; simp only [zBd] at h1; omega
 ·rw [hkp.fixed h (hall h (hr.kp.fixlt h hf))]
  exact hr.kp.fixed h hf
 ·rcases hkp.own h o b s C h1 h2 with ⟨h', o', s', C', g1, g2⟩ | h3
  ·exact hr.kp.own h' o' b s' C' g1 g2
  ·right; have := hr.kp.size; simp only [zBd] at h3; omega
theorem Rep.pinUp {w : World} {a : Act} {σ : Nat → Option Blk} {S : Nat → Prop} {n : Nat} (hr : Rep c w a σ S n fr H) : zC5 w S σ H := by
 intro w' S' h1 h2 h3
 refine c.pin w' S' (fun b hb => h1 b (hr.kp.S1 b hb)) (Nat.le_trans hr.kp.size h2) (fun b hb ho => ?_)
 have hs := hr.kp.size
 rw [h3 b (by omega) ?_, hr.kp.block b hb ho]
 rintro ⟨h, o, s, C, g1, g2⟩
 rcases hr.kp.own h o b s C g1 g2 with g | g
 ·exact ho g
 ·omega
/-- A call. -/
theorem zGw {all : Array Oper} {d : Option Nat} {g : Operand} {args : List Operand} {ats : Array TypeId} {ty : TypeId} {pos : String} {after : Array Edge} {rest : List Oper} {f : FuncId} {caps ags ags' : List AV} {fix : Nat → Prop} {K : AV → zP → Prop}
 (hg : ev fr g = some (.fn f caps)) (ha : evs fr args = some ags) (has : ags ++ caps = ags') (hcall : zd P f ags' H fix K) (hall : ∀ h, h < H.length → fix h) (hfl : ∀ h, fix h → h < H.length)
 (hk : ∀ r H', K r H' → Ax P fn c (.ops false all rest k) (match d with | some d => (d, r) :: fr | none => fr) H') : Ax P fn c (.ops false all (⟨d, .call { callee := .value g, args := args.toArray, argTypes := ats }, ty, pos, after, none⟩ :: rest) k) fr H := by
 intro hd w a σ S hr
 obtain ⟨hd1, hd2⟩ := zBV hd
 obtain ⟨⟨gfn, hgf, hgn, hgb⟩, hc⟩ := hcall
 subst has
 have h1 := hr.evAt hg
 obtain ⟨e1, e2⟩ := zFk hr args ags ha
 generalize hz : a.eval g = z at h1
 refine wpList_step (fun K' hK' => ?_)
 simp only [Region.wanted, if_true]
 unfold Oper.wp
 cases h1 with
 | fn _ _ _ vs hl hv =>
  have hrun : (execOp a.eval ⟨d, .call { callee := .value g, args := args.toArray, argTypes := ats }, ty, pos, after, none⟩).run P w = .ok (.enter f ((args.map a.eval).toArray ++ vs)) w := by
   simp only [execOp, resolve, hz, Deferred.ofValue, Sem.run_bind, Sem.run_pure, Result.andThen_ok, invoke, callFunc, List.map_toArray, Array.empty_append, program, Sem.run, hgf]
   simp [hgn, hgb]
  rw [hrun]
  have hargs : VRs w S σ (ags ++ caps) ((args.map a.eval).toArray ++ vs) := by
   refine ⟨by simp [e1, hl], fun i hi => ?_⟩
   simp only [List.length_append] at hi
   by_cases hlt : i < ags.length
   ·have := e2 i hlt
    have hlt' : i < args.length := by omega
    have ea : (ags ++ caps).getD i .any = ags.getD i .any := by simp [List.getD, List.getElem?_append, hlt]
    have eb : ((args.map a.eval).toArray ++ vs).getD i undef = (args.map a.eval).getD i undef := by simp [Array.getElem?_append, hlt', List.getD]
    rw [ea, eb]; exact this
   ·have := hv (i - ags.length) (by omega)
    have hnl : ¬ i < args.length := by omega
    have ea : (ags ++ caps).getD i .any = caps.getD (i - ags.length) .any := by simp [List.getD, List.getElem?_append, hlt]
    have eb : ((args.map a.eval).toArray ++ vs).getD i undef = vs.getD (i - ags.length) undef := by simp [Array.getElem?_append, e1, hlt]
    rw [ea, eb]; exact this
  refine Calls.mono (hc w σ S _ hr.pinUp hr.hr hfl hargs) ?_
  rintro e w' ⟨v, r, σ', S', H', rfl, g1, g2, g3, g4⟩
  have hrep := hr.called hall g1 g3
  refine hK' _ _ ?_
  cases d with
  | none => exact hk r H' g4 hd2 w' _ σ' S' hrep
  | some d => exact hk r H' g4 hd2 w' _ σ' S' (hrep.put g2 (hd1 d rfl))
end
end Go.Ax
namespace Go.Ax
variable [Pins]
open Go.RowKit
/-- A contract on a function that is called with plain values and gives back a plain value: whatever memory there is, it stays. -/
def zl (P : Program) (f : FuncId) (args : List AV) (r : AV) : Prop := ∀ H, zd P f args H (fun h => h < H.length) (fun r' H' => r' = r ∧ H' = H)
theorem VRs.closed {w : World} {S : Nat → Prop} {σ : Nat → Option Blk} {args : List AV} {vals : Array Value} (h : VRs w S σ args vals) (hn : noRef.noRefs args = true) (σ' : Nat → Option Blk) : VRs w S σ' args vals :=
 ⟨h.1, fun i hi => (h.2 i hi).closed (zBe hn i hi) σ'⟩
theorem HR.empty {w : World} {S : Nat → Prop} {σ : Nat → Option Blk} {H : zP} (h : HR w S σ H) : HR w S (fun _ => none) [] :=
 have _p := ‹Pins›; ⟨fun h o ho => by simp at ho, fun h h' o o' b s C s' C' h1 => by simp at h1, h.small, fun _ _ => rfl⟩
/-- The caller's memory behind a call that was made over an empty one. -/
theorem HR.after {w w' : World} {S S' : Nat → Prop} {σ σ0' : Nat → Option Blk} {H H0 : zP} {fix : Nat → Prop} {K : AV → zP → Prop} (h : HR w S σ H) (hr : HR w' S' σ0' H0) {hp0 : zC5 w S (fun _ => none) []} (hk : Kp (zBd w S (fun _ => none) [] fix K hp0) w' S' σ0' H0) :
 HR w' S' σ H ∧ ∀ (K' : AV → zP → Prop) (hp : zC5 w S σ H), Kp (zBd w S σ H (fun h => h < H.length) K' hp) w' S' σ H := by
 have hno : ∀ b, ¬ zDS (fun _ => none) [] b := by rintro b ⟨h, o, s, C, h1, _⟩; simp at h1
 have hblk : ∀ b, b < w.heap.size → w'.heap[b]? = w.heap[b]? := fun b hb => hk.block b hb (hno b)
 have hv : ∀ {σ'' : Nat → Option Blk} {x v}, VR w S σ'' x v → VR w' S' σ'' x v := fun hv => hv.mono hk.S1 (fun b hb => hblk b (h.small b hb)) _ (fun _ _ h => h)
 have hSn : ∀ b, b < w.heap.size → ¬ S b → ¬ S' b := by
  intro b hb hs hs'
  rcases hk.S2 b hs' with h1 | h1 | h1
  ·exact hs h1
  ·exact hno b h1
  ·simp only [zBd] at h1; omega
 refine ⟨⟨fun h' o ho => ?_, h.dist, hr.small, h.dom⟩, fun K' hp => ⟨hk.os, hk.output, hk.tape, hk.size, fun b hb _ => hblk b hb, hk.S1, fun b hb => (hk.S2 b hb).elim .inl (fun h => h.elim (fun h => absurd h (hno b)) (fun h => .inr (.inr h))), fun _ _ => rfl, fun _ h => h, fun h o b s C h1 h2 => .inl ⟨h, o, s, C, h1, h2⟩⟩⟩
 rcases h.live h' o ho with hn | ⟨b, C, cur, h1, h2, h3, h4, h5, h6, h7⟩
 ·exact .inl hn
 ·right
  have hlt := h2.lt
  refine ⟨b, C, cur, h1, h2.mono (hblk b hlt) hv, h3, h4, h5, hSn b hlt h6, fun i j hi hj => ?_⟩
  obtain ⟨v, e1, e2, e3⟩ := h7 i j hi hj
  exact ⟨v, e1, hv e2, e3⟩
mutual
/-- A value whose objects are given up: read from now on. -/
def AV.frz (H : zP) : AV → AV
 | .sl h i n => match H[h]? with
  | some (some o) => .ro o.c i n
  | _ => .any
 | .ptr h i j => match H[h]? with
  | some (some o) => .rp o.c i j
  | _ => .any
 | .fn f l => .fn f (AV.frzs H l)
 | .agg l => .agg (AV.frzs H l)
 | .tup l => .tup (AV.frzs H l)
 | .mp h => match H[h]? with
  | some (some o) => match o.c with
   | .mp ks vs => .rom ks vs
   | _ => .any
  | _ => .any
 | v => v
def AV.frzs (H : zP) : List AV → List AV
 | [] => []
 | v :: r => v.frz H :: AV.frzs H r
end
theorem zBn (H : zP) (l : List AV) : (AV.frzs H l).length = l.length := by
 have _p := ‹Pins›
 induction l with
 | nil => rfl
 | cons v r ih => simp [AV.frzs, ih]
theorem zGC (H : zP) (l : List AV) (i : Nat) (hi : i < l.length) : (AV.frzs H l).getD i .any = (l.getD i .any).frz H := by
 have _p := ‹Pins›
 induction l generalizing i with
 | nil => simp at hi
 | cons v r ih => cases i with
  | zero => rfl
  | succ i => simpa [AV.frzs] using ih i (by simpa using hi)
/-- Its cells name no object. -/
def zAG : Cells → Prop
 | .mp ks vs => noRef.noRefs ks = true ∧ noRef.noRefs vs = true
 | c => ∀ i j, i < c.len → j < c.sz → noRef (c.at i j) = true
theorem zAG.row {c : Cells} (h : zAG c) : ∀ i j, i < c.len → j < c.sz → noRef (c.at i j) = true := by
 have _p := ‹Pins›
 cases c <;> first | exact h | exact fun i j hi => absurd hi (Nat.not_lt_zero _)
theorem zAG.mp {c : Cells} (h : zAG c) {ks vs : List AV} (hc : c = .mp ks vs) : noRef.noRefs ks = true ∧ noRef.noRefs vs = true := by have _p := ‹Pins›; subst hc; exact h
theorem zJH {c : Cells} (h : c.simple = true) : zAG c := by
 have _p := ‹Pins›
 cases c <;> first | exact (fun i j _ _ => rfl) | cases h
mutual
/-- Every slice lies within its object, every pointer too. -/
def inB (H : zP) : AV → Prop
 | .sl h i n => ∀ o, H[h]? = some (some o) → i + n ≤ o.c.len
 | .ptr h i _ => ∀ o, H[h]? = some (some o) → i < o.c.len
 | .fn _ l => zGf H l
 | .agg l => zGf H l
 | .tup l => zGf H l
 | _ => True
def zGf (H : zP) : List AV → Prop
 | [] => True
 | v :: r => inB H v ∧ zGf H r
end
theorem zEB {H : zP} {l : List AV} (h : zGf H l) (i : Nat) (hi : i < l.length) : inB H (l.getD i .any) := by
 have _p := ‹Pins›
 induction l generalizing i with
 | nil => simp at hi
 | cons v r ih => cases i with
  | zero => exact h.1
  | succ i => simpa using ih h.2 i (by simpa using hi)
/-- The objects lie in their blocks. -/
def zJv (w : World) (S : Nat → Prop) (σ : Nat → Option Blk) (H : zP) : Prop :=
 ∀ h o, H[h]? = some (some o) →
  (σ h = some .nowhere ∧ o.c.len = 0) ∨
  ∃ b C cur, σ h = some (.at b o.c.sz C) ∧ Lays w S σ o b cur C ∧ cur.size = C * o.c.sz ∧ C ≤ maxLen + 1 ∧ o.c.len ≤ C ∧ ¬ S b ∧
   ∀ i j, i < o.c.len → j < o.c.sz → ∃ v, cur[i * o.c.sz + j]? = some v ∧ VR w S σ (o.c.at i j) v ∧ v.oneCell' = true
theorem VR.freeze {w : World} {S : Nat → Prop} {σ : Nat → Option Blk} {H : zP} (hhr : zJv w S σ H) (hrl : ∀ (h : Nat) (o : AObj), H[h]? = some (some o) → zAG o.c) {S' : Nat → Prop} (hS : ∀ b, S b → S' b) (hS' : ∀ h o b s C, H[h]? = some (some o) → σ h = some (.at b s C) → S' b) {x : AV} {v : Value}
 (hv : VR w S σ x v) : ∀ σ', inB H x → VR w S' σ' (x.frz H) v := by
 have hup : ∀ {σ1 : Nat → Option Blk} {x v}, VR w S σ1 x v → VR w S' σ1 x v := fun h => h.mono hS (fun _ _ => rfl) _ (fun _ _ h => h)
 obtain ⟨σ1, hσ1⟩ : ∃ σ1, σ1 = σ := ⟨σ, rfl⟩
 rw [← hσ1] at hv
 induction hv with
 | int => intros; constructor
 | bool => intros; constructor
 | str => intros; constructor
 | nil => intros; constructor
 | ro0 => intros; constructor
 | ro _ c i len b o cap val hSb hlen hc hvv h1 ih => intro σ' _; exact .ro _ _ _ _ _ _ _ val (hS _ hSb) hlen hc (fun d j hd hj => hup (hvv d j hd hj)) h1
 | sl σx h i len b s C cap hσ hlen hcap =>
  rw [hσ1] at hσ
  intro σ' hin
  simp only [AV.frz]
  cases hq : H[h]? with
  | none => exact .any _ _
  | some oo => cases oo with
   | none => exact .any _ _
   | some o =>
    simp only
    have hin' : i + len ≤ o.c.len := hin o hq
    rcases hhr h o hq with ⟨hn, _⟩ | ⟨b', C', cur, hσ', g1, g2, g3, g4, g5, g6⟩
    ·rw [hσ] at hn; cases hn
    ·rw [hσ] at hσ'
     simp only [Option.some.injEq, Blk.at.injEq] at hσ'
     obtain ⟨rfl, rfl, rfl⟩ := hσ'
     by_cases hz0 : o.c.sz = 0
     ·exact .ro _ _ _ _ _ _ _ (fun _ _ => undef) (hS' h o b _ C hq hσ) hlen (fun d j hd hj => by omega) (fun d j hd hj => by omega) (fun d j hd hj => by omega)
     obtain ⟨mk, g1, _, _⟩ := g1.cells hz0
     have hat : ∀ d j, d < len → j < o.c.sz → ∃ u, cur[(i + d) * o.c.sz + j]? = some u ∧ VR w S σ (o.c.at (i + d) j) u ∧ u.oneCell' = true := fun d j hd hj => g6 (i + d) j (by omega) hj
     refine .ro _ _ _ _ _ _ _ (fun d j => (cur[(i + d) * o.c.sz + j]?).getD undef) (hS' h o b _ C hq hσ) hlen (fun d j hd hj => ?_) (fun d j hd hj => ?_) (fun d j hd hj => ?_)
     ·obtain ⟨u, e1, _⟩ := hat d j hd hj
      have e : i * o.c.sz + d * o.c.sz + j = (i + d) * o.c.sz + j := by rw [Nat.add_mul]
      simp [World.cell?, g1, e, e1]
     ·obtain ⟨u, e1, e2, _⟩ := hat d j hd hj
      simp only [e1, Option.getD_some]
      exact hup (e2.closed ((hrl h o hq).row _ _ (by omega) hj) _)
     ·obtain ⟨u, e1, _, e3⟩ := hat d j hd hj
      simp only [e1, Option.getD_some]
      exact e3
 | mp σx h b hσ =>
  rw [hσ1] at hσ
  intro σ' hin
  simp only [AV.frz]
  cases hq : H[h]? with
  | none => exact .any _ _
  | some oo => cases oo with
   | none => exact .any _ _
   | some o =>
    simp only
    rcases hhr h o hq with ⟨hn, _⟩ | ⟨b', C', cur, hσ', g1, g2, g3, g4, g5, g6⟩
    ·rw [hσ] at hn; cases hn
    ·rw [hσ] at hσ'
     simp only [Option.some.injEq, Blk.at.injEq] at hσ'
     obtain ⟨rfl, hsz, rfl⟩ := hσ'
     cases g1 with
     | row mk _ _ hC => omega
     | map ks vs es clock hc _ hb hn hl hd he =>
      simp only [hc]
      ·have ha := (hrl h o hq).mp hc
       refine .rom _ _ _ b es clock (fun i => (es[i]?).getD default) (hS' h o b _ _ hq (by rw [hσ])) hb hn hl hd (fun i hi => ?_) (fun i hi => ?_) (fun i hi => ?_)
       ·obtain ⟨e, e1, _⟩ := he i hi
        simp [e1]
       ·obtain ⟨e, e1, e2, _⟩ := he i hi
        simp only [e1, Option.getD_some]
        exact hup (e2.closed (zBe ha.1 i hi) _)
       ·obtain ⟨e, e1, _, e3⟩ := he i hi
        simp only [e1, Option.getD_some]
        exact hup (e3.closed (zBe ha.2 i (by omega)) _)
 | rom _ ks vs b es clock e hSb hb hn hl hd he hk hv ihk ihv => intro σ' _; exact .rom _ _ _ b es clock e (hS _ hSb) hb hn hl hd he (fun i hi => hup (hk i hi)) (fun i hi => hup (hv i hi))
 | sl0 _ h hσ =>
  intro σ' hin
  simp only [AV.frz]
  cases hq : H[h]? with
  | none => exact .any _ _
  | some oo => cases oo with
   | none => exact .any _ _
   | some o => exact .ro0 _ _ _ _ _
 | rp _ c i j b o val hSb hc hvv h1 ih => intro σ' _; exact .rp _ _ _ _ _ _ val (hS _ hSb) hc (fun e he => hup (hvv e he)) h1
 | ptr σx h i j b s C hσ =>
  rw [hσ1] at hσ
  intro σ' hin
  simp only [AV.frz]
  cases hq : H[h]? with
  | none => exact .any _ _
  | some oo => cases oo with
   | none => exact .any _ _
   | some o =>
    simp only
    have hin' : i < o.c.len := hin o hq
    rcases hhr h o hq with ⟨hn, _⟩ | ⟨b', C', cur, hσ', g1, g2, g3, g4, g5, g6⟩
    ·rw [hσ] at hn; cases hn
    ·rw [hσ] at hσ'
     simp only [Option.some.injEq, Blk.at.injEq] at hσ'
     obtain ⟨rfl, rfl, rfl⟩ := hσ'
     by_cases hz0 : o.c.sz = 0
     ·exact .rp _ _ _ _ _ _ (fun _ => undef) (hS' h o b _ C hq hσ) (fun e he => by omega) (fun e he => by omega) (fun e he => by omega)
     obtain ⟨mk, g1, _, _⟩ := g1.cells hz0
     refine .rp _ _ _ _ _ _ (fun e => (cur[i * o.c.sz + (j + e)]?).getD undef) (hS' h o b _ C hq hσ) (fun e he => ?_) (fun e he => ?_) (fun e he => ?_)
     ·obtain ⟨u, e1, _⟩ := g6 i (j + e) hin' he
      have e' : i * o.c.sz + j + e = i * o.c.sz + (j + e) := by omega
      simp [World.cell?, g1, e', e1]
     ·obtain ⟨u, e1, e2, _⟩ := g6 i (j + e) hin' he
      simp only [e1, Option.getD_some]
      exact hup (e2.closed ((hrl h o hq).row _ _ hin' he) _)
     ·obtain ⟨u, e1, _, e3⟩ := g6 i (j + e) hin' he
      simp only [e1, Option.getD_some]
      exact e3
 | nilp => intros; constructor
 | fn _ f cap vs hl hv ih => intro σ' hin; exact .fn _ _ _ _ (by rw [zBn]; exact hl) (fun i hi => by rw [zBn] at hi; rw [zGC H cap i hi]; exact ih i hi hσ1 σ' (zEB hin i hi))
 | nilfn => intros; constructor
 | iface => intros; constructor
 | nilif => intros; constructor
 | agg _ l vs hl hv h1 ih => intro σ' hin; exact .agg _ _ _ (by rw [zBn]; exact hl) (fun i hi => by rw [zBn] at hi; rw [zGC H l i hi]; exact ih i hi hσ1 σ' (zEB hin i hi)) (fun i hi => h1 i (by rwa [zBn] at hi))
 | tup _ l vs hl hv ih => intro σ' hin; exact .tup _ _ _ (by rw [zBn]; exact hl) (fun i hi => by rw [zBn] at hi; rw [zGC H l i hi]; exact ih i hi hσ1 σ' (zEB hin i hi))
 | any => intros; constructor
/-- A function proved over an empty memory, at plain arguments; its result is read from then on. -/
theorem zd.value {P : Program} {f : FuncId} {args : List AV} {fix : Nat → Prop} {r : AV} {K : AV → zP → Prop} (hc : zd P f args [] fix K) (hfx : ∀ h, ¬ fix h) (hn : noRef.noRefs args = true)
 (hK : ∀ r0 H0, K r0 H0 → r0.frz H0 = r ∧ inB H0 r0 ∧ ∀ (h : Nat) (o : AObj), H0[h]? = some (some o) → zAG o.c) : zl P f args r := by
 intro H
 refine ⟨hc.1, fun w σ S vals hp hr hf hv => ?_⟩
 refine (hc.2 w (fun _ => none) S vals (hp.less (fun _ h => h) (fun _ h => h.nil)) hr.empty (fun h hh => absurd hh (hfx h)) (hv.closed hn _)).mono ?_
 rintro e w' ⟨v, r0, σ', S', H0, rfl, g1, g2, g3, g4⟩
 obtain ⟨k1, k2, k3⟩ := hK r0 H0 g4
 have hno : ∀ b, ¬ zDS (fun _ => none) [] b := by rintro b ⟨h, o, s, C, h1, _⟩; simp at h1
 -- the region takes the new objects' blocks in
 let S2 : Nat → Prop := fun b => S' b ∨ ∃ h o s C, H0[h]? = some (some o) ∧ σ' h = some (.at b s C)
 have hlt : ∀ b, (∃ h o s C, H0[h]? = some (some o) ∧ σ' h = some (.at b s C)) → w.heap.size ≤ b ∧ b < w'.heap.size := by
  rintro b ⟨h, o, s, C, h1, h2⟩
  refine ⟨?_, ?_⟩
  ·rcases g3.own h o b s C h1 h2 with h3 | h3
   ·exact absurd h3 (hno b)
   ·exact h3
  ·rcases g1.live h o h1 with ⟨hn, _⟩ | ⟨b', C', cur, hσ', g, _⟩
   ·rw [h2] at hn; cases hn
   ·rw [h2] at hσ'
    simp only [Option.some.injEq, Blk.at.injEq] at hσ'
    rw [hσ'.1]
    exact g.lt
 have hr2 : HR w' S2 (fun _ => none) [] := ⟨fun h o ho => by simp at ho, fun h h' o o' b s C s' C' h1 => by simp at h1, fun b hb => by
  rcases hb with h1 | h1
  ·exact g1.small b h1
  ·exact (hlt b h1).2, fun _ _ => rfl⟩
 have hk2 : Kp (zBd w S (fun _ => none) [] (fun _ => False) K (hp.less (fun _ h => h) (fun _ h => h.nil))) w' S2 (fun _ => none) [] :=
  ⟨g3.os, g3.output, g3.tape, g3.size, g3.block, fun b hb => .inl (g3.S1 b hb), fun b hb => by
   rcases hb with h1 | h1
   ·exact g3.S2 b h1
   ·exact .inr (.inr (hlt b h1).1), fun _ h => h.elim, fun _ h => h.elim, fun h o b s C h1 => by simp at h1⟩
 obtain ⟨a1, a2⟩ := hr.after hr2 hk2
 refine ⟨v, r, σ, S2, H, U, a1, ?_, a2 _ _, U, U⟩
 rw [← k1]
 exact VR.freeze g1.live k3 (fun _ h => .inl h) (fun h o b s C h1 h2 => .inr ⟨h, o, s, C, h1, h2⟩) g2 σ k2
/-- .. whose result names no memory of its own. -/
theorem zd.value0 {P : Program} {f : FuncId} {args : List AV} {fix : Nat → Prop} {r : AV} (hc : zd P f args [] fix (fun r' _ => r' = r)) (hfx : ∀ h, ¬ fix h) (hn : noRef.noRefs args = true) (hr : noRef r = true) : zl P f args r := by
 intro H
 refine ⟨hc.1, fun w σ S vals hp hrep hf hv => ?_⟩
 refine (hc.2 w (fun _ => none) S vals (hp.less (fun _ h => h) (fun _ h => h.nil)) hrep.empty (fun h hh => absurd hh (hfx h)) (hv.closed hn _)).mono ?_
 rintro e w' ⟨v, r0, σ', S', H0, rfl, g1, g2, g3, g4⟩
 obtain ⟨a1, a2⟩ := hrep.after g1 g3
 subst g4
 exact ⟨v, r0, σ, S', H, U, a1, g2.closed hr σ, a2 _ _, U, U⟩
end Go.Ax
namespace Go.Ax
variable [Pins]
open Go.RowKit
/-- A contract on a function that makes one object: the caller owns it. -/
def zHy (P : Program) (f : FuncId) (args : List AV) (r : Nat → AV) (o : AObj) : Prop := ∀ H, zd P f args H (fun h => h < H.length) (fun r' H' => r' = r H.length ∧ H' = H ++ [some o])
mutual
/-- Object id becomes object new; the others are given up. -/
def AV.keep (H : zP) (id new : Nat) : AV → AV
 | .sl h i n => bif Nat.beq h id then .sl new i n else match H[h]? with
  | some (some o) => .ro o.c i n
  | _ => .any
 | .ptr h i j => bif Nat.beq h id then .ptr new i j else match H[h]? with
  | some (some o) => .rp o.c i j
  | _ => .any
 | .fn f l => .fn f (AV.keeps H id new l)
 | .agg l => .agg (AV.keeps H id new l)
 | .tup l => .tup (AV.keeps H id new l)
 | .mp h => bif Nat.beq h id then .mp new else (AV.mp h).frz H
 | v => v
def AV.keeps (H : zP) (id new : Nat) : List AV → List AV
 | [] => []
 | v :: r => v.keep H id new :: AV.keeps H id new r
end
theorem zB9 (H : zP) (id new : Nat) (l : List AV) : (AV.keeps H id new l).length = l.length := by
 have _p := ‹Pins›
 induction l with
 | nil => rfl
 | cons v r ih => simp [AV.keeps, ih]
theorem zGe (H : zP) (id new : Nat) (l : List AV) (i : Nat) (hi : i < l.length) : (AV.keeps H id new l).getD i .any = (l.getD i .any).keep H id new := by
 have _p := ‹Pins›
 induction l generalizing i with
 | nil => simp at hi
 | cons v r ih => cases i with
  | zero => rfl
  | succ i => simpa [AV.keeps] using ih i (by simpa using hi)
theorem VR.keep {w : World} {S : Nat → Prop} {σ : Nat → Option Blk} {H : zP} {id new : Nat} (hhr : zJv w S σ H) (hrl : ∀ (h : Nat) (o : AObj), H[h]? = some (some o) → zAG o.c) {S' : Nat → Prop} (hS : ∀ b, S b → S' b) (hS' : ∀ h o b s C, h ≠ id → H[h]? = some (some o) → σ h = some (.at b s C) → S' b)
 {x : AV} {v : Value} (hv : VR w S σ x v) : ∀ σ', (∀ B, σ id = some B → σ' new = some B) → inB H x → VR w S' σ' (x.keep H id new) v := by
 have hup : ∀ {σ1 : Nat → Option Blk} {x v}, VR w S σ1 x v → VR w S' σ1 x v := fun h => h.mono hS (fun _ _ => rfl) _ (fun _ _ h => h)
 -- the others: as by freeze, over the memory without id
 have hoth : ∀ h, h ≠ id → (H.set id none)[h]? = H[h]? := fun h hne => List.getElem?_set_ne (Ne.symm hne)
 have hset : ∀ h o, (H.set id none)[h]? = some (some o) → h ≠ id ∧ H[h]? = some (some o) := by
  intro h o ho
  by_cases he : h = id
  ·subst he
   rw [List.getElem?_set] at ho
   simp only [if_true] at ho
   split at ho <;> simp at ho
  ·exact ⟨he, by rwa [hoth h he] at ho⟩
 have hhr2 : zJv w S σ (H.set id none) := fun h o ho => hhr h o (hset h o ho).2
 have frz : ∀ {x v}, VR w S σ x v → inB (H.set id none) x → ∀ σ', VR w S' σ' (x.frz (H.set id none)) v := fun hv hin σ' =>
  VR.freeze hhr2 (fun h o ho => hrl h o (hset h o ho).2) hS (fun h o b s C h1 h2 => hS' h o b s C (hset h o h1).1 (hset h o h1).2 h2) hv σ' hin
 obtain ⟨σ1, hσ1⟩ : ∃ σ1, σ1 = σ := ⟨σ, rfl⟩
 rw [← hσ1] at hv
 induction hv with
 | int => intros; constructor
 | bool => intros; constructor
 | str => intros; constructor
 | nil => intros; constructor
 | ro0 => intros; constructor
 | ro _ c i len b o cap val hSb hlen hc hvv h1 ih => intro σ' _ _; exact .ro _ _ _ _ _ _ _ val (hS _ hSb) hlen hc (fun d j hd hj => hup (hvv d j hd hj)) h1
 | sl σx h i len b s C cap hσ hlen hcap =>
  rw [hσ1] at hσ
  intro σ' hid hin
  simp only [AV.keep]
  by_cases he : h = id
  ·subst he
   simp only [Nat.beq_refl, cond_true]
   exact .sl _ _ _ _ _ _ _ _ (hid _ hσ) hlen hcap
  ·simp only [zBX he, cond_false]
   have := frz (VR.sl σ h i len b s C cap hσ hlen hcap) (by simp only [inB]; rw [hoth h he]; exact hin) σ'
   simp only [AV.frz] at this
   rw [hoth h he] at this
   exact this
 | sl0 σx h hσ =>
  rw [hσ1] at hσ
  intro σ' hid hin
  simp only [AV.keep]
  by_cases he : h = id
  ·subst he
   simp only [Nat.beq_refl, cond_true]
   exact .sl0 _ _ (hid _ hσ)
  ·simp only [zBX he, cond_false]
   have := frz (VR.sl0 σ h hσ) (by simp only [inB]; rw [hoth h he]; exact hin) σ'
   simp only [AV.frz] at this
   rw [hoth h he] at this
   exact this
 | rp _ c i j b o val hSb hc hvv h1 ih => intro σ' _ _; exact .rp _ _ _ _ _ _ val (hS _ hSb) hc (fun e he => hup (hvv e he)) h1
 | ptr σx h i j b s C hσ =>
  rw [hσ1] at hσ
  intro σ' hid hin
  simp only [AV.keep]
  by_cases he : h = id
  ·subst he
   simp only [Nat.beq_refl, cond_true]
   exact .ptr _ _ _ _ _ _ _ (hid _ hσ)
  ·simp only [zBX he, cond_false]
   have := frz (VR.ptr σ h i j b s C hσ) (by simp only [inB]; rw [hoth h he]; exact hin) σ'
   simp only [AV.frz] at this
   rw [hoth h he] at this
   exact this
 | nilp => intros; constructor
 | fn _ f cap vs hl hv ih => intro σ' hid hin; exact .fn _ _ _ _ (by rw [zB9]; exact hl) (fun i hi => by rw [zB9] at hi; rw [zGe H id new cap i hi]; exact ih i hi hσ1 σ' hid (zEB hin i hi))
 | nilfn => intros; constructor
 | iface => intros; constructor
 | nilif => intros; constructor
 | agg _ l vs hl hv h1 ih => intro σ' hid hin; exact .agg _ _ _ (by rw [zB9]; exact hl) (fun i hi => by rw [zB9] at hi; rw [zGe H id new l i hi]; exact ih i hi hσ1 σ' hid (zEB hin i hi)) (fun i hi => h1 i (by rwa [zB9] at hi))
 | mp σx h b hσ =>
  rw [hσ1] at hσ
  intro σ' hid hin
  simp only [AV.keep]
  by_cases he : h = id
  ·subst he
   simp only [Nat.beq_refl, cond_true]
   exact .mp _ _ _ (hid _ hσ)
  ·simp only [zBX he, cond_false]
   have := frz (VR.mp σ h b hσ) trivial σ'
   simp only [AV.frz] at this ⊢
   rw [hoth h he] at this
   exact this
 | rom _ ks vs b es clock e hSb hb hn hl hd he hk hv ihk ihv => intro σ' _ _; exact .rom _ _ _ b es clock e (hS _ hSb) hb hn hl hd he (fun i hi => hup (hk i hi)) (fun i hi => hup (hv i hi))
 | tup _ l vs hl hv ih => intro σ' hid hin; exact .tup _ _ _ (by rw [zB9]; exact hl) (fun i hi => by rw [zB9] at hi; rw [zGe H id new l i hi]; exact ih i hi hσ1 σ' hid (zEB hin i hi))
 | any => intros; constructor
mutual
/-- No read-only memory is named: what it stands for does not hang on the region. -/
def flat : AV → Bool
 | .ro _ _ n => Nat.beq n 0
 | .rp _ _ _ => false
 | .fn _ l => zFU l
 | .agg l => zFU l
 | .tup l => zFU l
 | .rom _ _ => false
 | _ => true
def zFU : List AV → Bool
 | [] => true
 | v :: r => flat v && zFU r
end
theorem zEw {l : List AV} (h : zFU l = true) (i : Nat) (hi : i < l.length) : flat (l.getD i .any) = true := by
 have _p := ‹Pins›
 induction l generalizing i with
 | nil => simp at hi
 | cons v r ih =>
  simp only [zFU, Bool.and_eq_true] at h
  cases i with
  | zero => simpa using h.1
  | succ i => simpa using ih h.2 i (by simpa using hi)
theorem VR.flat {w : World} {S : Nat → Prop} {σ : Nat → Option Blk} {x : AV} {v : Value} (h : VR w S σ x v) : flat x = true → ∀ S', VR w S' σ x v := by
 induction h with
 | int => intros; constructor
 | bool => intros; constructor
 | str => intros; constructor
 | nil => intros; constructor
 | ro0 => intros; constructor
 | ro σ c i len b o cap val hSb hlen hc hv h1 ih =>
  intro hf S'
  have := Nat.eq_of_beq_eq_true hf
  subst this
  exact .ro0 _ _ _ _ _
 | sl σ h i len b s C cap hσ hlen hcap => intro _ S'; exact .sl _ _ _ _ _ _ _ _ hσ hlen hcap
 | sl0 σ h hσ => intro _ S'; exact .sl0 _ _ hσ
 | rp => intro h; cases h
 | ptr σ h i j b s C hσ => intro _ S'; exact .ptr _ _ _ _ _ _ _ hσ
 | nilp => intros; constructor
 | fn σ f cap vs hl hv ih => intro hn S'; exact .fn _ _ _ _ hl (fun i hi => ih i hi (zEw hn i hi) _)
 | nilfn => intros; constructor
 | iface => intros; constructor
 | nilif => intros; constructor
 | agg σ l vs hl hv h1 ih => intro hn S'; exact .agg _ _ _ hl (fun i hi => ih i hi (zEw hn i hi) _) h1
 | tup σ l vs hl hv ih => intro hn S'; exact .tup _ _ _ hl (fun i hi => ih i hi (zEw hn i hi) _)
 | mp σ h b hσ => intro _ S'; exact .mp _ _ _ hσ
 | rom => intro h; cases h
 | any => intros; constructor
def flatC : Cells → Prop
 | .mp ks vs => zFU ks = true ∧ zFU vs = true
 | c => ∀ i j, i < c.len → j < c.sz → flat (c.at i j) = true
theorem flatC.row {c : Cells} (h : flatC c) : ∀ i j, i < c.len → j < c.sz → flat (c.at i j) = true := by
 have _p := ‹Pins›
 cases c <;> first | exact h | exact fun i j hi => absurd hi (Nat.not_lt_zero _)
theorem flatC_mp {c : Cells} (h : flatC c) {ks vs : List AV} (hc : c = .mp ks vs) : zFU ks = true ∧ zFU vs = true := by have _p := ‹Pins›; subst hc; exact h
def subH (HL H : zP) : Prop := ∀ (h : Nat) (o : AObj), HL[h]? = some (some o) → H[h]? = some (some o)
/-- The blocks that are lent. -/
def Lent (σ : Nat → Option Blk) (HL : zP) (b : Nat) : Prop := ∃ h o s C, HL[h]? = some (some o) ∧ σ h = some (.at b s C)
/-- The general step: a function proved over an empty memory, called over another one, some objects of which it reads. 'id': the object of its own that the caller keeps. -/
theorem zd.over {P : Program} {f : FuncId} {args args' : List AV} {fix : Nat → Prop} {K K' : AV → zP → Prop} {H HL : zP} (hc : zd P f args [] fix K) (hfx : ∀ h, ¬ fix h)
 (hsub : subH HL H) (hrlL : ∀ (h : Nat) (o : AObj), HL[h]? = some (some o) → zAG o.c) (hlend : AV.frzs HL args' = args) (hin : zGf HL args') (hn : noRef.noRefs args = true)
 (hK : ∀ (r0 : AV) (H0 : zP), K r0 H0 → inB H0 r0 ∧ (∀ (h : Nat) (o : AObj), H0[h]? = some (some o) → zAG o.c) ∧ ∃ (id : Nat) (o : AObj), (H0.length ≤ id ∧ K' (r0.keep H0 id H.length) H ∧ ((∀ (h : Nat) (o : AObj), HL[h]? ≠ some (some o)) ∨ flat (r0.keep H0 id H.length) = true)) ∨
  (H0[id]? = some (some o) ∧ K' (r0.keep H0 id H.length) (H ++ [some o]) ∧ ((∀ (h : Nat) (o : AObj), HL[h]? ≠ some (some o)) ∨ (flat (r0.keep H0 id H.length) = true ∧ flatC o.c)))) :
 zd P f args' H (fun h => h < H.length) K' := by
 refine ⟨hc.1, fun w σ S vals hp hr hf hv => ?_⟩
 let SL : Nat → Prop := fun b => S b ∨ Lent σ HL b
 have hLw : ∀ b, Lent σ HL b → b < w.heap.size := by
  rintro b ⟨h, o, s, C, h1, h2⟩
  rcases hr.live h o (hsub h o h1) with ⟨hn, _⟩ | ⟨b', C', cur, hσ', g, _⟩
  ·rw [h2] at hn; cases hn
  ·rw [h2] at hσ'
   simp only [Option.some.injEq, Blk.at.injEq] at hσ'
   rw [hσ'.1]
   exact g.lt
 have hr0 : HR w SL (fun _ => none) [] := ⟨fun h o ho => by simp at ho, fun h h' o o' b s C s' C' h1 => by simp at h1, fun b hb => hb.elim (hr.small b) (hLw b), fun _ _ => rfl⟩
 have hLL : zJv w S σ HL := fun h o ho => hr.live h o (hsub h o ho)
 have hv0 : VRs w SL (fun _ => none) args vals := by
  subst hlend
  refine ⟨by rw [hv.1, zBn], fun i hi => ?_⟩
  rw [zBn] at hi
  rw [zGC HL args' i hi]
  exact VR.freeze hLL hrlL (fun _ h => .inl h) (fun h o b s C h1 h2 => .inr ⟨h, o, s, C, h1, h2⟩) (hv.2 i hi) _ (zEB hin i hi)
 refine (hc.2 w (fun _ => none) SL vals (hp.less (fun _ h => .inl h) (fun _ h => h.nil)) hr0 (fun h hh => absurd hh (hfx h)) hv0).mono ?_
 rintro e w' ⟨v, r0, σ', S', H0, rfl, g1, g2, g3, g4⟩
 obtain ⟨k1, k2, id, o, k3⟩ := hK r0 H0 g4
 have hno : ∀ b, ¬ zDS (fun _ => none) [] b := by rintro b ⟨h, o, s, C, h1, _⟩; simp at h1
 have hblk : ∀ b, b < w.heap.size → w'.heap[b]? = w.heap[b]? := fun b hb => g3.block b hb (hno b)
 have hnew : ∀ h o b s C, H0[h]? = some (some o) → σ' h = some (.at b s C) → w.heap.size ≤ b ∧ b < w'.heap.size := by
  intro h o b s C h1 h2
  refine ⟨?_, ?_⟩
  ·rcases g3.own h o b s C h1 h2 with h3 | h3
   ·exact absurd h3 (hno b)
   ·exact h3
  ·rcases g1.live h o h1 with ⟨hn, _⟩ | ⟨b', C', cur, hσ', g, _⟩
   ·rw [h2] at hn; cases hn
   ·rw [h2] at hσ'
    simp only [Option.some.injEq, Blk.at.injEq] at hσ'
    rw [hσ'.1]
    exact g.lt
 let Oth : Nat → Prop := fun b => ∃ h o s C, h ≠ id ∧ H0[h]? = some (some o) ∧ σ' h = some (.at b s C)
 let S2 : Nat → Prop := fun b => S b ∨ (w.heap.size ≤ b ∧ (S' b ∨ Oth b))
 have hS2 : (∀ (h : Nat) (o : AObj), HL[h]? ≠ some (some o)) → ∀ b, S' b ∨ Oth b → S2 b := by
  intro hnl b hb
  rcases hb with hb | hb
  ·rcases g3.S2 b hb with h1 | h1 | h1
   ·rcases h1 with h1 | ⟨h, o, s, C, h1, _⟩
    ·exact .inl h1
    ·exact absurd h1 (hnl h o)
   ·exact absurd h1 (hno b)
   ·exact .inr ⟨h1, .inl hb⟩
  ·obtain ⟨h, o, s, C, h1, h2, h3⟩ := hb
   exact .inr ⟨(hnew h o b s C h2 h3).1, .inr ⟨h, o, s, C, h1, h2, h3⟩⟩
 have hS2lt : ∀ b, b < w.heap.size → S2 b → S b := by
  intro b hb hs
  rcases hs with h1 | ⟨h1, _⟩
  ·exact h1
  ·omega
 have hS2small : ∀ b, S2 b → b < w'.heap.size := by
  intro b hs
  rcases hs with h1 | ⟨_, h1 | ⟨h, o, s, C, _, h2, h3⟩⟩
  ·have := hr.small b h1; have := g3.size; simp only [zBd] at this; omega
  ·exact g1.small b h1
  ·exact (hnew h o b s C h2 h3).2
 -- the old objects
 have hold : ∀ σ2 : Nat → Option Blk, (∀ h B, σ h = some B → σ2 h = some B) → zJv w' S2 σ2 H := by
  intro σ2 hσ2 h o ho
  rcases hr.live h o ho with ⟨hn, hl0⟩ | ⟨b, C, cur, h1, h2, h3, h4, h5, h6, h7⟩
  ·exact .inl ⟨hσ2 _ _ hn, hl0⟩
  ·right
   have hlt := h2.lt
   refine ⟨b, C, cur, hσ2 _ _ h1, h2.mono (hblk b hlt) (fun h => h.mono (fun _ h => .inl h) (fun b hb => hblk b (hr.small b hb)) _ hσ2), h3, h4, h5, fun hs => h6 (hS2lt b hlt hs), fun i j hi hj => ?_⟩
   obtain ⟨v, e1, e2, e3⟩ := h7 i j hi hj
   exact ⟨v, e1, e2.mono (fun _ h => .inl h) (fun b hb => hblk b (hr.small b hb)) _ hσ2, e3⟩
 have hres : ∀ σ2 : Nat → Option Blk, (∀ B, σ' id = some B → σ2 H.length = some B) → VR w' (fun b => S' b ∨ Oth b) σ2 (r0.keep H0 id H.length) v := fun σ2 h2 =>
  VR.keep g1.live k2 (fun _ h => .inl h) (fun h o b s C hne h1 h3 => .inr ⟨h, o, s, C, hne, h1, h3⟩) g2 σ2 h2 k1
 rcases k3 with ⟨k3, k4, k5⟩ | ⟨k3, k4, k5⟩
 ·refine ⟨v, _, σ, S2, H, U, ⟨hold σ (fun _ _ h => h), hr.dist, hS2small, hr.dom⟩, ?_, ⟨g3.os, g3.output, g3.tape, g3.size, fun b hb _ => hblk b hb, fun b hb => .inl hb, fun b hb => hb.elim .inl (fun h => .inr (.inr h.1)), fun _ _ => rfl, fun _ h => h, fun h o b s C h1 h2 => .inl ⟨h, o, s, C, h1, h2⟩⟩, k4⟩
  have h1 := hres σ (fun B hB => by rw [g1.dom id k3] at hB; cases hB)
  rcases k5 with hnl | hfl
  ·exact h1.mono (hS2 hnl) (fun _ _ => rfl) _ (fun _ _ h => h)
  ·exact h1.flat hfl _
 ·have hidlive := g1.live id o k3
  obtain ⟨B, hB⟩ : ∃ B, σ' id = some B := by
   rcases hidlive with ⟨h, _⟩ | ⟨b, C, cur, h, _⟩
   ·exact ⟨_, h⟩
   ·exact ⟨_, h⟩
  have hext : ∀ h B', σ h = some B' → upσ σ H.length B h = some B' := by
   intro h B' hB'
   unfold upσ
   split
   ·rename_i he; rw [he, hr.dom _ (Nat.le_refl _)] at hB'; cases hB'
   ·exact hB'
  have hset : ∀ h' o', (H ++ [some o])[h']? = some (some o') → (h' = H.length ∧ o' = o) ∨ (h' < H.length ∧ H[h']? = some (some o')) := by
   intro h' o' ho
   by_cases he : h' < H.length
   ·rw [List.getElem?_append_left he] at ho; exact .inr ⟨he, ho⟩
   ·by_cases he2 : h' = H.length
    ·subst he2; simp at ho; exact .inl ⟨rfl, ho.symm⟩
    ·have : (H ++ [some o]).length ≤ h' := by simp; omega
     rw [List.getElem?_eq_none this] at ho; cases ho
  have hlto : ∀ h o' b s C', h < H.length → H[h]? = some (some o') → σ h = some (.at b s C') → b < w.heap.size := by
   intro h o' b s C' _ ho hb
   rcases hr.live h o' ho with ⟨hn, _⟩ | ⟨b', C', cur, hσ', g, _⟩
   ·rw [hb] at hn; cases hn
   ·rw [hb] at hσ'
    simp only [Option.some.injEq, Blk.at.injEq] at hσ'
    rw [hσ'.1]
    exact g.lt
  have hnone : ∀ h, h < H.length → upσ σ H.length B h = σ h := fun h hl => by simp [upσ, Nat.ne_of_lt hl]
  refine ⟨v, _, upσ σ H.length B, S2, H ++ [some o], U, ⟨?_, ?_, hS2small, fun h hl => ?_⟩, ?_, ⟨g3.os, g3.output, g3.tape, g3.size, fun b hb _ => hblk b hb, fun b hb => .inl hb, fun b hb => hb.elim .inl (fun h => .inr (.inr h.1)), fun h hl => hnone h hl, fun h hl => by have hl' : h < H.length := hl; simp; omega, fun h o' b s C h1 h2 => ?_⟩, k4⟩
  ·intro h' o' ho
   rcases hset h' o' ho with ⟨rfl, rfl⟩ | ⟨hlt, ho'⟩
   ·rcases hidlive with ⟨hn, hl0⟩ | ⟨b, C, cur, h1, h2, h3, h4, h5, h6, h7⟩
    ·left
     rw [hB] at hn
     exact ⟨by simp [upσ, hn], hl0⟩
    ·right
     have hb1 := hnew id o' b _ C k3 h1
     rw [hB] at h1
     have hcl : ∀ {x v}, VR w' S' σ' x v → noRef x = true → ((∀ (h : Nat) (o : AObj), HL[h]? ≠ some (some o)) ∨ flat x = true) → VR w' S2 (upσ σ H.length B) x v := fun e2 hnr hk => by
      have e4 := e2.closed hnr (upσ σ H.length B)
      rcases hk with hnl | hfl
      ·exact e4.mono (fun b hb => hS2 hnl b (.inl hb)) (fun _ _ => rfl) _ (fun _ _ h => h)
      ·exact e4.flat hfl _
     have h2' : Lays w' S2 (upσ σ H.length B) o' b cur C := by
      cases h2 with
      | row mk h hm hC => exact .row mk h hm hC
      | map ks vs es clock hc hC h hn hl hd he =>
       have hr2 := (k2 id o' k3).mp hc
       have hf2 : ((∀ (h : Nat) (o : AObj), HL[h]? ≠ some (some o)) ∨ (zFU ks = true ∧ zFU vs = true)) := by
        rcases k5 with h | h
        ·exact .inl h
        ·exact .inr (flatC_mp h.2 hc)
       refine .map ks vs es clock hc hC h hn hl hd (fun i hi => ?_)
       obtain ⟨e, e1, e2, e3⟩ := he i hi
       exact ⟨e, e1, hcl e2 (zBe hr2.1 i hi) (hf2.imp (fun h => h) (fun h => zEw h.1 i hi)), hcl e3 (zBe hr2.2 i (by omega)) (hf2.imp (fun h => h) (fun h => zEw h.2 i (by omega)))⟩
     refine ⟨b, C, cur, by simp [upσ, h1], h2', h3, h4, h5, ?_, fun i j hi hj => ?_⟩
     ·rintro (hs | ⟨_, hs | ⟨hx, ox, sx, Cx, hne, hx1, hx2⟩⟩)
      ·have := hr.small b hs; omega
      ·exact h6 hs
      ·exact hne (g1.dist hx id ox o' b sx Cx _ C hx1 k3 hx2 (by rw [hB]; exact h1))
     ·obtain ⟨u, e1, e2, e3⟩ := h7 i j hi hj
      refine ⟨u, e1, ?_, e3⟩
      have e4 := e2.closed ((k2 id o' k3).row i j hi hj) (upσ σ H.length B)
      rcases k5 with hnl | hfl
      ·exact e4.mono (fun b hb => hS2 hnl b (.inl hb)) (fun _ _ => rfl) _ (fun _ _ h => h)
      ·exact e4.flat (hfl.2.row i j hi hj) _
   ·exact hold _ hext h' o' ho'
  ·intro h1 h2 o1 o2 b s1 C1 s2 C2 q1 q2 e1 e2
   rcases hset h1 o1 q1 with ⟨rfl, rfl⟩ | ⟨l1, q1'⟩ <;> rcases hset h2 o2 q2 with ⟨rfl, rfl⟩ | ⟨l2, q2'⟩
   ·rfl
   ·simp only [upσ, if_true] at e1
    rw [hnone h2 l2] at e2
    have := hlto h2 o2 b s2 C2 l2 q2' e2
    have := (hnew id o1 b s1 C1 k3 (by rw [hB]; exact e1)).1
    omega
   ·simp only [upσ, if_true] at e2
    rw [hnone h1 l1] at e1
    have := hlto h1 o1 b s1 C1 l1 q1' e1
    have := (hnew id o2 b s2 C2 k3 (by rw [hB]; exact e2)).1
    omega
   ·rw [hnone h1 l1] at e1
    rw [hnone h2 l2] at e2
    exact hr.dist h1 h2 o1 o2 b s1 C1 s2 C2 q1' q2' e1 e2
  ·simp only [List.length_append, List.length_cons, List.length_nil] at hl
   have : ¬ h = H.length := by omega
   simp only [upσ, this, if_false]
   exact hr.dom h (by omega)
  ·have h1 := hres (upσ σ H.length B) (fun B' hB' => by rw [hB] at hB'; simp only [Option.some.injEq] at hB'; simp [upσ, hB'])
   rcases k5 with hnl | hfl
   ·exact h1.mono (hS2 hnl) (fun _ _ => rfl) _ (fun _ _ h => h)
   ·exact h1.flat hfl.1 _
  ·rcases hset h o' h1 with ⟨rfl, rfl⟩ | ⟨hlt, ho'⟩
   ·simp only [upσ, if_true] at h2
    exact .inr (hnew id o' b s C k3 (by rw [hB]; exact h2)).1
   ·rw [hnone h hlt] at h2
    exact .inl ⟨h, o', s, C, ho', h2⟩
theorem zOj (H : zP) : subH H H := have _p := ‹Pins›; fun _ _ h => h
theorem subH_nil (H : zP) : subH [] H := have _p := ‹Pins›; fun h o hh => by simp at hh
/-- A value result, nothing lent. (See also zd.value.) -/
theorem zl.lend {P : Program} {f : FuncId} {args args' : List AV} {r : AV} {H : zP} (hc : zl P f args r) (hrl : ∀ (h : Nat) (o : AObj), H[h]? = some (some o) → zAG o.c) (hlend : AV.frzs H args' = args) (hin : zGf H args') (hn : noRef.noRefs args = true) (hr : noRef r = true) (hfl : flat r = true) :
 zd P f args' H (fun h => h < H.length) (fun r' H' => r' = r ∧ H' = H) := by
 refine zd.over (hc []) (fun h hh => by simp at hh) (zOj H) hrl hlend hin hn ?_
 rintro r0 H0 ⟨rfl, rfl⟩
 have hk : r0.keep [] 0 H.length = r0 := keep_noRef hr
 refine ⟨inB_noRef hr, fun h o ho => by simp at ho, 0, ⟨0, .ints .i64 []⟩, .inl ⟨Nat.le_refl _, ⟨hk, U⟩, .inr (by rw [hk]; exact hfl)⟩⟩
where
 keep_noRef {id new : Nat} {Hx : zP} : ∀ {v : AV}, noRef v = true → v.keep Hx id new = v
  | .int _ _, _ => rfl
  | .bool _, _ => rfl
  | .str _, _ => rfl
  | .nil, _ => rfl
  | .ro _ _ _, _ => rfl
  | .sl _ _ _, hv => by cases hv
  | .rp _ _ _, _ => rfl
  | .ptr _ _ _, hv => by cases hv
  | .nilp, _ => rfl
  | .fn f l, hv => by simp only [AV.keep]; rw [ks l hv]
  | .nilfn, _ => rfl
  | .iface, _ => rfl
  | .nilif, _ => rfl
  | .agg l, hv => by simp only [AV.keep]; rw [ks l hv]
  | .tup l, hv => by simp only [AV.keep]; rw [ks l hv]
  | .mp _, hv => by cases hv
  | .rom _ _, _ => rfl
  | .any, _ => rfl
 ks {id new : Nat} {Hx : zP} : ∀ (l : List AV), noRef.noRefs l = true → AV.keeps Hx id new l = l
  | [], _ => rfl
  | v :: r, hv => by
   simp only [noRef.noRefs, Bool.and_eq_true] at hv
   simp only [AV.keeps]
   rw [keep_noRef hv.1, ks r hv.2]
 inB_noRef {Hx : zP} : ∀ {v : AV}, noRef v = true → inB Hx v
  | .int _ _, _ => trivial
  | .bool _, _ => trivial
  | .str _, _ => trivial
  | .nil, _ => trivial
  | .ro _ _ _, _ => trivial
  | .sl _ _ _, hv => by cases hv
  | .rp _ _ _, _ => trivial
  | .ptr _ _ _, hv => by cases hv
  | .nilp, _ => trivial
  | .fn _ l, hv => inBs_noRef l hv
  | .nilfn, _ => trivial
  | .iface, _ => trivial
  | .nilif, _ => trivial
  | .agg l, hv => inBs_noRef l hv
  | .tup l, hv => inBs_noRef l hv
  | .mp _, hv => by cases hv
  | .rom _ _, _ => trivial
  | .any, _ => trivial
 inBs_noRef {Hx : zP} : ∀ (l : List AV), noRef.noRefs l = true → zGf Hx l
  | [], _ => trivial
  | v :: r, hv => by
   simp only [noRef.noRefs, Bool.and_eq_true] at hv
   exact ⟨inB_noRef hv.1, inBs_noRef r hv.2⟩
/-- One object is made, and kept. -/
theorem zd.fresh {P : Program} {f : FuncId} {args : List AV} {fix : Nat → Prop} {r : Nat → AV} {o : AObj} {K : AV → zP → Prop} (hc : zd P f args [] fix K) (hfx : ∀ h, ¬ fix h) (hn : noRef.noRefs args = true) (ha : ∀ H : zP, AV.frzs [] args = args ∧ zGf H args)
 (hK : ∀ (r0 : AV) (H0 : zP), K r0 H0 → inB H0 r0 ∧ (∀ (h : Nat) (o : AObj), H0[h]? = some (some o) → zAG o.c) ∧ ∃ id, H0[id]? = some (some o) ∧ ∀ n, r0.keep H0 id n = r n) : zHy P f args r o := by
 intro H
 refine zd.over hc hfx (subH_nil H) (fun h o ho => by simp at ho) (ha []).1 (ha []).2 hn ?_
 intro r0 H0 h0
 obtain ⟨h1, h2, id, h3, h4⟩ := hK r0 H0 h0
 exact ⟨h1, h2, id, o, .inr ⟨h3, ⟨h4 _, U⟩, .inl (fun h o => by simp)⟩⟩
end Go.Ax
namespace Go.Ax
variable [Pins]
open Go.RowKit
section
variable {ind : Bool} {P : Program} {fn : Func} {c : Ctx} {fr : Fr} {H : zP} {k : List It}
variable {d : Option Nat} {ty : TypeId} {pos : String} {after : Array Edge} {g : Option (Nat × Bool)}
theorem zn {x i : Operand} {t e : TypeId} {cl : Cells} {o len ix : Nat} {k : IntKind} {m : Int} (ht : P.underlying t = some (.slice e)) (hs : (P.info? e).map (·.size) = some cl.sz) (hx : ev fr x = some (.ro cl o len)) (hi : ev fr i = some (.int k m)) (hix : o + m.toNat = ix) (hb : 0 ≤ m ∧ m < len) :
 QOp ind P fn c fr H ⟨d, .indexAddr t x i, ty, pos, after, g⟩ (.rp cl ix 0) := hix ▸ zM0 ht hs hx hi hb
theorem zo {x i : Operand} {t e : TypeId} {h o len ix : Nat} {ob : AObj} {k : IntKind} {m : Int} (ht : P.underlying t = some (.slice e)) (hx : ev fr x = some (.sl h o len)) (hh : H[h]? = some (some ob)) (hs : (P.info? e).map (·.size) = some ob.c.sz) (hi : ev fr i = some (.int k m)) (hix : o + m.toNat = ix) (hb : 0 ≤ m ∧ m < len) :
 QOp ind P fn c fr H ⟨d, .indexAddr t x i, ty, pos, after, g⟩ (.ptr h ix 0) := hix ▸ zM1 ht hx hh hs hi hb
theorem zBs {x : Operand} {t : TypeId} {u : TypeDesc} {kk : IntKind} {l : List Int} {i : Nat} (ht : P.underlying t = some u) (hu : zBO u = false) (hx : ev fr x = some (.rp (.ints kk l) i 0)) :
 QOp false P fn c fr H ⟨d, .load t x, ty, pos, after, g⟩ (.int kk (l.getD i 0)) := zGK ht hu hx rfl rfl
theorem zJE {x : Operand} {t : TypeId} {u : TypeDesc} {l : List (List UInt8)} {i : Nat} (ht : P.underlying t = some u) (hu : zBO u = false) (hx : ev fr x = some (.rp (.strs l) i 0)) :
 QOp false P fn c fr H ⟨d, .load t x, ty, pos, after, g⟩ (.str (l.getD i [])) := zGK ht hu hx rfl rfl
theorem zBF {x : Operand} {t : TypeId} {u : TypeDesc} {n s : Nat} {f : Nat → Nat → AV} {i j : Nat} (ht : P.underlying t = some u) (hu : zBO u = false) (hx : ev fr x = some (.rp (.fn n s f) i j)) (hj : Nat.blt j s = true) :
 QOp false P fn c fr H ⟨d, .load t x, ty, pos, after, g⟩ (f i j) := zGK ht hu hx hj rfl
theorem zBA {x : Operand} {t : TypeId} {u : TypeDesc} {h i : Nat} {oty : TypeId} {kk : IntKind} {l : List Int} (ht : P.underlying t = some u) (hu : zBO u = false) (hx : ev fr x = some (.ptr h i 0)) (hh : H[h]? = some (some ⟨oty, .ints kk l⟩)) (hi : i < l.length) :
 QOp false P fn c fr H ⟨d, .load t x, ty, pos, after, g⟩ (.int kk (l.getD i 0)) := zFK ht hu hx hh rfl rfl hi
theorem zMH {x : Operand} {t : TypeId} {u : TypeDesc} {h i : Nat} {oty : TypeId} {l : List (List UInt8)} (ht : P.underlying t = some u) (hu : zBO u = false) (hx : ev fr x = some (.ptr h i 0)) (hh : H[h]? = some (some ⟨oty, .strs l⟩)) (hi : i < l.length) :
 QOp false P fn c fr H ⟨d, .load t x, ty, pos, after, g⟩ (.str (l.getD i [])) := zFK ht hu hx hh rfl rfl hi
theorem zDa {x : Operand} {t : TypeId} {u : TypeDesc} {h i j : Nat} {oty : TypeId} {n s : Nat} {f : Nat → Nat → AV} (ht : P.underlying t = some u) (hu : zBO u = false) (hx : ev fr x = some (.ptr h i j)) (hh : H[h]? = some (some ⟨oty, .fn n s f⟩)) (hj : Nat.blt j s = true) (hi : i < n) :
 QOp false P fn c fr H ⟨d, .load t x, ty, pos, after, g⟩ (f i j) := zFK ht hu hx hh hj rfl hi
theorem zU {x : Operand} {t : TypeId} {u : TypeDesc} {h j : Nat} {oty : TypeId} {l : List AV} {v : AV} (ht : P.underlying t = some u) (hu : zBO u = false) (hx : ev fr x = some (.ptr h 0 j)) (hh : H[h]? = some (some ⟨oty, .box l⟩)) (hv : l[j]? = some v) :
 QOp false P fn c fr H ⟨d, .load t x, ty, pos, after, g⟩ v := by
 have hj : j < l.length := (List.getElem?_eq_some_iff.1 hv).1
 exact zFK ht hu hx hh (Nat.ble_eq_true_of_le hj) (by simp [Cells.at, List.getD, hv]) (by simp [Cells.len])
/-- A guard on a number's test that isn't zEz yet. -/
theorem zj {q : Bool} {all : Array Oper} {d : Option Nat} {op : Op} {ty : TypeId} {pos : String} {after : Array Edge} {rest : List Oper} {j t : Nat} {p' : Bool} {p : Prop} {_ : Decidable p}
 (_hy : zDp all j = some t) (hb : zAa t fr = some (.bool (decide p))) (ht : p → Ax P fn c (.ops q all (⟨d, op, ty, pos, after, some (j, p')⟩ :: rest) k) ((t, .bool true) :: fr) H)
 (hf : ¬ p → Ax P fn c (.ops q all (⟨d, op, ty, pos, after, some (j, p')⟩ :: rest) k) ((t, .bool false) :: fr) H) : Ax P fn c (.ops q all (⟨d, op, ty, pos, after, some (j, p')⟩ :: rest) k) fr H :=
 zKd t hb ht hf
theorem zA2 {q : Bool} {all : Array Oper} {d : Option Nat} {op : Op} {ty : TypeId} {pos : String} {after : Array Edge} {rest : List Oper} {j t : Nat} {p' b : Bool}
 (_hy : zDp all j = some t) (hb : zAa t fr = some (.bool b)) (ht : b = true → Ax P fn c (.ops q all (⟨d, op, ty, pos, after, some (j, p')⟩ :: rest) k) ((t, .bool true) :: fr) H)
 (hf : b = false → Ax P fn c (.ops q all (⟨d, op, ty, pos, after, some (j, p')⟩ :: rest) k) ((t, .bool false) :: fr) H) : Ax P fn c (.ops q all (⟨d, op, ty, pos, after, some (j, p')⟩ :: rest) k) fr H :=
 zLV t hb ht hf
theorem zEc {op : BinOp} {t : TypeId} {x y : Operand} {a b : Option Addr} {m n m' n' : Nat} {w : World} : (eqGuard op t x y (.slice a m n) (.slice b m' n')).run P w = .ok () w := by
 have _p := ‹Pins›
 unfold eqGuard
 split <;> rfl
/-- x == nil, x a slice that is read. -/
theorem zIa {all : Array Oper} {d : Nat} {x y : Operand} {t t' e : TypeId} {ty : TypeId} {pos : String} {after : Array Edge} {rest : List Oper} {cl : Cells} {i n : Nat} (ht : P.underlying t = some (.slice e)) (hx : ev fr x = some (.ro cl i n)) (hy : ev fr y = some .nil)
 (h : ∀ b : Bool, (b = true → n = 0) → Ax P fn c (.ops false all rest k) ((d, .bool b) :: fr) H) : Ax P fn c (.ops false all (⟨some d, .binOp .eql t x y t', ty, pos, after, none⟩ :: rest) k) fr H := by
 intro hd w a σ S hr
 obtain ⟨hd1, hd2⟩ := zBV hd
 have h1 := hr.evAt hx
 have h2 := hr.evAt hy
 generalize hz : a.eval x = z at h1
 generalize hzy : a.eval y = zy at h2
 have key : ∃ b : Bool, (b = true → n = 0) ∧ (execOp a.eval ⟨some d, .binOp .eql t x y t', ty, pos, after, none⟩).run P w = .ok (.value (.bool b)) w := by
  cases h2
  cases h1 with
  | ro0 _ _ _ ad cap =>
   refine ⟨ad.isNone, fun _ => rfl, ?_⟩
   have hb := Lib.run_eql_slice_nil (P := P) w t e ad 0 cap 0 0 ht
   simp only [execOp, hz, hzy, Sem.run_bind, zEc, Result.andThen_ok, hb]
   rfl
  | ro _ _ _ _ b o cap val hS hlen hc hv h1' =>
   refine ⟨false, (fun h => by cases h), ?_⟩
   have hb := Lib.run_eql_slice_nil (P := P) w t e (some ⟨b, o, none⟩) n cap 0 0 ht
   simp only [execOp, hz, hzy, Sem.run_bind, zEc, Result.andThen_ok, hb]
   rfl
 obtain ⟨b, hb, hrun⟩ := key
 refine wpList_step (fun K hK => ?_)
 simp only [Region.wanted, if_true]
 unfold Oper.wp
 rw [hrun]
 exact hK _ _ (h b hb hd2 w _ σ S (hr.put (.bool _ _) (hd1 d U)))
/-- A nil slice, taken for an object that has nothing yet. -/
theorem Rep.nilobj {w : World} {a : Act} {σ : Nat → Option Blk} {S : Nat → Prop} {n : Nat} (hr : Rep c w a σ S n fr H) {o : AObj} (ho : o.c.len = 0) {t : Nat} (hl : zAa t fr = some .nil) : Rep c w a (upσ σ H.length .nowhere) S n ((t, .sl H.length 0 0) :: fr) (H ++ [some o]) := by
 have hext : ∀ h B, σ h = some B → upσ σ H.length .nowhere h = some B := by
  intro h B hB
  unfold upσ
  split
  ·rename_i he; rw [he, hr.hr.dom _ (Nat.le_refl _)] at hB; cases hB
  ·exact hB
 have hv : ∀ {x v}, VR w S σ x v → VR w S (upσ σ H.length .nowhere) x v := fun h => h.mono (fun _ h => h) (fun _ _ => rfl) _ hext
 have hset : ∀ h' o', (H ++ [some o])[h']? = some (some o') → (h' = H.length ∧ o' = o) ∨ (h' < H.length ∧ H[h']? = some (some o')) := by
  intro h' o' ho
  by_cases he : h' < H.length
  ·rw [List.getElem?_append_left he] at ho; exact .inr ⟨he, ho⟩
  ·by_cases he2 : h' = H.length
   ·subst he2; simp at ho; exact .inl ⟨rfl, ho.symm⟩
   ·have : (H ++ [some o]).length ≤ h' := by simp; omega
    rw [List.getElem?_eq_none this] at ho; cases ho
 have hnone : ∀ h, h < H.length → upσ σ H.length .nowhere h = σ h := fun h hl => by simp [upσ, Nat.ne_of_lt hl]
 have hat : upσ σ H.length .nowhere H.length = some .nowhere := by simp [upσ]
 have hR : Rep c w a (upσ σ H.length .nowhere) S n fr (H ++ [some o]) := by
  refine ⟨⟨?_, ?_, hr.hr.small, fun h hl => ?_⟩, ⟨hr.kp.os, hr.kp.output, hr.kp.tape, hr.kp.size, hr.kp.block, hr.kp.S1, hr.kp.S2, fun h hf => by rw [hnone h (hr.kp.fixlt h hf)]; exact hr.kp.fixed h hf, fun h hf => by have := hr.kp.fixlt h hf; simp; omega, ?_⟩, hr.defers, hr.size, fun t v hl => ⟨(hr.slots t v hl).1, hv (hr.slots t v hl).2⟩⟩
  ·intro h' o' ho'
   rcases hset h' o' ho' with ⟨rfl, rfl⟩ | ⟨hlt, ho'⟩
   ·exact .inl ⟨hat, ho⟩
   ·rcases hr.hr.live h' o' ho' with ⟨hn, hl0⟩ | ⟨b', C', cu, g1, g2, g3, g4, g5, g6, g7⟩
    ·exact .inl ⟨hext _ _ hn, hl0⟩
    ·right
     refine ⟨b', C', cu, hext _ _ g1, g2.mono U hv, g3, g4, g5, g6, fun i j hi hj => ?_⟩
     obtain ⟨v, e1, e2, e3⟩ := g7 i j hi hj
     exact ⟨v, e1, hv e2, e3⟩
  ·intro h1 h2 o1 o2 b s1 C1 s2 C2 q1 q2 e1 e2
   rcases hset h1 o1 q1 with ⟨rfl, rfl⟩ | ⟨l1, q1'⟩
   ·rw [hat] at e1; cases e1
   ·rcases hset h2 o2 q2 with ⟨rfl, rfl⟩ | ⟨l2, q2'⟩
    ·rw [hat] at e2; cases e2
    ·rw [hnone h1 l1] at e1
     rw [hnone h2 l2] at e2
     exact hr.hr.dist h1 h2 o1 o2 b s1 C1 s2 C2 q1' q2' e1 e2
  ·simp only [List.length_append, List.length_cons, List.length_nil] at hl
   have : ¬ h = H.length := by omega
   simp only [upσ, this, if_false]
   exact hr.hr.dom h (by omega)
  ·intro h' o' b s C ho hb
   rcases hset h' o' ho with ⟨rfl, rfl⟩ | ⟨hlt, ho'⟩
   ·rw [hat] at hb; cases hb
   ·rw [hnone h' hlt] at hb
    exact hr.kp.own h' o' b s C ho' hb
 refine ⟨hR.hr, hR.kp, hR.defers, hR.size, fun u y hy => ?_⟩
 simp only [zAa] at hy
 by_cases he : u = t
 ·subst he
  simp only [Nat.beq_refl, cond_true, Option.some.injEq] at hy
  subst hy
  obtain ⟨h1, h2⟩ := hr.slots u _ hl
  refine ⟨h1, ?_⟩
  generalize a.tmps.getD u undef = z at h2
  cases h2
  exact .sl0 _ _ hat
 ·simp only [zBX he, cond_false] at hy
  exact hR.slots u y hy
theorem zCF {x : Code} (t : Nat) (o : AObj) (hl : zAa t fr = some .nil) (ho : o.c.len = 0) (h : Ax P fn c (.code x k) ((t, .sl H.length 0 0) :: fr) (H ++ [some o])) : Ax P fn c (.code x k) fr H :=
 fun w a _ S hr => h w a _ S (hr.nilobj ho hl)
/-- Slicing. -/
def zEp (dflt : Nat) : Option AV → Option Int
 | none => some dflt
 | some (.int _ n) => some n
 | some _ => none
def evo (fr : Fr) : Option Operand → Option (Option AV)
 | none => some none
 | some x => match ev fr x with
  | some v => some (some v)
  | none => none
theorem zDG {w : World} {x : Value} {k : IntKind} {m : Int} {y : Nat} {code : BoundsCode} (hx : x = .int k m) (hb : 0 ≤ m ∧ m ≤ y) : (Instr.sliceBound x y code).run P w = .ok m.toNat w := by
 have _p := ‹Pins›
 subst hx
 simp [Instr.sliceBound, asIntOf, hb]
theorem zBB {a : Act} {w0 w : World} {σ : Nat → Option Blk} {S : Nat → Prop} {n : Nat} (hr : Rep c w0 a σ S n fr H) {lo hi : Option Operand} {lo' hi' : Option AV} {len cap : Nat} {l h : Int} {isS : Bool} (h1 : evo fr lo = some lo') (h2 : evo fr hi = some hi') (h3 : zEp 0 lo' = some l) (h4 : zEp len hi' = some h) (hb : 0 ≤ l ∧ l ≤ h ∧ h ≤ cap) :
 (Instr.sliceBounds isS len cap (lo.map a.eval) (hi.map a.eval) none).run P w = .ok (l.toNat, h.toNat, cap) w := by
 have e1 : ∀ (x : Operand), lo = some x → ∃ k, a.eval x = .int k l := by
  rintro x rfl
  simp only [evo] at h1
  cases hx : ev fr x with
  | none => simp [hx] at h1
  | some v =>
   simp only [hx, Option.some.injEq] at h1
   subst h1
   cases v <;> simp [zEp] at h3
   subst h3
   exact ⟨_, hr.evInt hx⟩
 have e2 : ∀ (x : Operand), hi = some x → ∃ k, a.eval x = .int k h := by
  rintro x rfl
  simp only [evo] at h2
  cases hx : ev fr x with
  | none => simp [hx] at h2
  | some v =>
   simp only [hx, Option.some.injEq] at h2
   subst h2
   cases v <;> simp [zEp] at h4
   subst h4
   exact ⟨_, hr.evInt hx⟩
 have hh : ((h.toNat : Nat) : Int) = h := by omega
 cases lo with
 | none =>
  simp only [evo, Option.some.injEq] at h1
  subst h1
  simp only [zEp, Option.some.injEq] at h3
  cases hi with
  | none =>
   simp only [evo, Option.some.injEq] at h2
   subst h2
   simp only [zEp, Option.some.injEq] at h4
   subst h3 h4
   simp [Instr.sliceBounds]
  | some x =>
   obtain ⟨k, hx⟩ := e2 x rfl
   subst h3
   simp only [Instr.sliceBounds, Option.map_some, Option.map_none, Sem.run_bind, Sem.run_pure, Result.andThen_ok, zDG (P := P) hx ⟨by omega, hb.2.2⟩]
   rfl
 | some y =>
  obtain ⟨k', hy⟩ := e1 y rfl
  cases hi with
  | none =>
   simp only [evo, Option.some.injEq] at h2
   subst h2
   simp only [zEp, Option.some.injEq] at h4
   subst h4
   simp only [Instr.sliceBounds, Option.map_some, Option.map_none, Sem.run_bind, Sem.run_pure, Result.andThen_ok, zDG (P := P) hy ⟨hb.1, hb.2.1⟩]
   simp
  | some x =>
   obtain ⟨k, hx⟩ := e2 x rfl
   simp only [Instr.sliceBounds, Option.map_some, Sem.run_bind, Sem.run_pure, Result.andThen_ok, zDG (P := P) hx ⟨by omega, hb.2.2⟩]
   simp only [zDG (P := P) (w := w) hy (y := h.toNat) ⟨hb.1, by omega⟩, Result.andThen_ok]
theorem zFM {x : Operand} {t e : TypeId} {lo hi : Option Operand} {lo' hi' : Option AV} {cl : Cells} {i n : Nat} {l h : Int} (ht : P.underlying t = some (.slice e)) (hs : (P.info? e).map (·.size) = some cl.sz) (hx : ev fr x = some (.ro cl i n)) (h1 : evo fr lo = some lo') (h2 : evo fr hi = some hi') (h3 : zEp 0 lo' = some l) (h4 : zEp n hi' = some h) (hb : 0 ≤ l ∧ l ≤ h ∧ h ≤ n) :
 QOp ind P fn c fr H ⟨d, .slice t x lo hi none, ty, pos, after, g⟩ (.ro cl (i + l.toNat) (h - l).toNat) := by
 intro w a σ S hr
 have hxv := hr.evAt hx
 generalize hz : a.eval x = z at hxv
 have hsub : h.toNat - l.toNat = (h - l).toNat := by omega
 cases hxv with
 | ro0 _ _ _ ad cap =>
  have hn : h = 0 := by omega
  have hl : l = 0 := by omega
  subst hn hl
  refine ⟨.slice (if cap = 0 then ad else ad.map (·.add 0)) 0 cap, .ro0 _ _ _ _ _, fun w' _ => ?_⟩
  have hbs := zBB (P := P) (w := w') (isS := true) (cap := cap) hr h1 h2 h3 h4 ⟨by omega, by omega, by omega⟩
  cases hq : P.info? e with
  | none => simp [hq] at hs
  | some inf =>
   simp [execOp, hz, Instr.sliceAt, Instr.slice, run_underlying ht, hbs, sizeOf, typeInfo, hq]
 | ro _ _ _ _ b o cap val hS hlen hc hv h1' =>
  have hget : ∀ w', (execOp a.eval ⟨d, .slice t x lo hi none, ty, pos, after, g⟩).run P w' = .ok (.value (.slice (if cap = l.toNat then some ⟨b, o, none⟩ else some ⟨b, o + l.toNat * cl.sz, none⟩) (h - l).toNat (cap - l.toNat))) w' := by
   intro w'
   have hbs := zBB (P := P) (w := w') (isS := true) (cap := cap) hr h1 h2 h3 h4 ⟨by omega, by omega, by omega⟩
   cases hq : P.info? e with
   | none => simp [hq] at hs
   | some inf =>
    have hsz : inf.size = cl.sz := by simpa [hq] using hs
    simp [execOp, hz, Instr.sliceAt, Instr.slice, run_underlying ht, hbs, sizeOf, typeInfo, hq, hsub, hsz, Addr.add_lit]
  refine ⟨_, ?_, fun w' _ => hget w'⟩
  by_cases h0 : (h - l).toNat = 0
  ·rw [h0]; exact .ro0 _ _ _ _ _
  ·have hne : ¬ cap = l.toNat := by omega
   rw [if_neg hne]
   refine .ro _ _ _ _ _ _ _ (fun d j => val (l.toNat + d) j) hS (by omega) (fun d j hd hj => ?_) (fun d j hd hj => ?_) (fun d j hd hj => ?_)
   ·have := hc (l.toNat + d) j (by omega) hj
    rw [Nat.add_mul, ← Nat.add_assoc] at this
    exact this
   ·have := hv (l.toNat + d) j (by omega) hj
    rw [← Nat.add_assoc] at this
    exact this
   ·exact h1' (l.toNat + d) j (by omega) hj
theorem zGl {x : Operand} {t e : TypeId} {lo hi : Option Operand} {lo' hi' : Option AV} {h' i n : Nat} {ob : AObj} {l h : Int} (ht : P.underlying t = some (.slice e)) (hx : ev fr x = some (.sl h' i n)) (hh : H[h']? = some (some ob)) (hs : (P.info? e).map (·.size) = some ob.c.sz) (h1 : evo fr lo = some lo') (h2 : evo fr hi = some hi') (h3 : zEp 0 lo' = some l) (h4 : zEp n hi' = some h) (hb : 0 ≤ l ∧ l < h ∧ h ≤ n) :
 QOp ind P fn c fr H ⟨d, .slice t x lo hi none, ty, pos, after, g⟩ (.sl h' (i + l.toNat) (h - l).toNat) := by
 intro w a σ S hr
 have hxv := hr.evAt hx
 generalize hz : a.eval x = z at hxv
 have hsub : h.toNat - l.toNat = (h - l).toNat := by omega
 cases hxv with
 | sl0 => omega
 | sl _ _ _ _ b s C cap hσ hlen hcap =>
  obtain ⟨hs', cur, g1, g2, g3, g4, g5, g6⟩ := hr.obj hh hσ
  subst hs'
  have hne : ¬ cap = l.toNat := by omega
  refine ⟨.slice (some ⟨b, (i + l.toNat) * ob.c.sz, none⟩) (h - l).toNat (cap - l.toNat), .sl _ _ _ _ _ _ C _ hσ (by omega) (by omega), fun w' _ => ?_⟩
  have hbs := zBB (P := P) (w := w') (isS := true) (cap := cap) hr h1 h2 h3 h4 ⟨by omega, by omega, by omega⟩
  cases hq : P.info? e with
  | none => simp [hq] at hs
  | some inf =>
   have hsz : inf.size = ob.c.sz := by simpa [hq] using hs
   simp [execOp, hz, Instr.sliceAt, Instr.slice, run_underlying ht, hbs, sizeOf, typeInfo, hq, hsub, hsz, Addr.add_lit, hne, Nat.add_mul]
end
end Go.Ax
namespace Go.Ax
variable [Pins]
open Go.RowKit
section
variable {ind : Bool} {P : Program} {fn : Func} {c : Ctx} {fr : Fr} {H : zP} {k : List It}
end
end Go.Ax
namespace Go.Ax
theorem zCq {α : Type} {l : List α} {k : Nat} (d : α) (h : k < l.length) : l.getD k d = l[k] := by
 simp [List.getD, h]
theorem zAR {α : Type} {l : List α} {k : Nat} (d : α) (h : k < l.length) : l.getD k d ∈ l := by
 rw [zCq d h]; exact List.getElem_mem h
theorem zAE {α : Type} (l : List α) (d : α) (k : Nat) (h : k < l.length) : l.take (k + 1) = l.take k ++ [l.getD k d] := by
 rw [List.take_succ_eq_append_getElem h, zCq d h]
theorem zBr {α : Type} (p : α → Bool) (l : List α) (d : α) (k : Nat) (h : k < l.length) : (l.take (k + 1)).any p = ((l.take k).any p || p (l.getD k d)) := by
 rw [zAE l d k h, List.any_append]
 simp only [List.any_cons, List.any_nil, Bool.or_false]
theorem zDz {α : Type} (l : List α) (d : α) (k : Nat) (h : k < l.length) : l.drop k = l.getD k d :: l.drop (k + 1) := by
 rw [zCq d h]; exact List.drop_eq_getElem_cons h
variable [Pins]
open Go.RowKit
section
variable {P : Program} {fn : Func} {c : Ctx} {fr : Fr} {H : zP} {k : List It}
variable {all : Array Oper} {d : Nat} {g : Operand} {args : List Operand} {ats : Array TypeId} {ty : TypeId} {pos : String} {after : Array Edge} {rest : List Oper} {f : FuncId}
/-- A call that gives a plain value. -/
theorem zQ {caps ags ags' : List AV} {r : AV} (hg : ev fr g = some (.fn f caps)) (ha : evs fr args = some ags) (has : ags ++ caps = ags') (hcall : zl P f ags' r)
 (hk : Ax P fn c (.ops false all rest k) ((d, r) :: fr) H) : Ax P fn c (.ops false all (⟨some d, .call { callee := .value g, args := args.toArray, argTypes := ats }, ty, pos, after, none⟩ :: rest) k) fr H :=
 zGw hg ha has (hcall H) (fun _ h => h) (fun _ h => h) (fun r' H' h => by obtain ⟨rfl, rfl⟩ := h; exact hk)
/-- .. some of whose arguments are objects, which it only reads. -/
theorem zLT {caps ags ags' ags'' : List AV} {r : AV} (hg : ev fr g = some (.fn f caps)) (ha : evs fr args = some ags) (has : ags ++ caps = ags') (hl : AV.frzs H ags' = ags'') (hcall : zl P f ags'' r) (hrl : ∀ (h : Nat) (o : AObj), H[h]? = some (some o) → zAG o.c) (hin : zGf H ags') (hn : noRef.noRefs ags'' = true) (hr : noRef r = true) (hfl : flat r = true)
 (hk : Ax P fn c (.ops false all rest k) ((d, r) :: fr) H) : Ax P fn c (.ops false all (⟨some d, .call { callee := .value g, args := args.toArray, argTypes := ats }, ty, pos, after, none⟩ :: rest) k) fr H :=
 zGw hg ha has (zl.lend hcall hrl hl hin hn hr hfl) (fun _ h => h) (fun _ h => h) (fun r' H' h => by obtain ⟨rfl, rfl⟩ := h; exact hk)
/-- A call that makes an object, which the caller owns. -/
theorem zD4 {caps ags ags' : List AV} {r : Nat → AV} {o : AObj} (hg : ev fr g = some (.fn f caps)) (ha : evs fr args = some ags) (has : ags ++ caps = ags') (hcall : zHy P f ags' r o)
 (hk : Ax P fn c (.ops false all rest k) ((d, r H.length) :: fr) (H ++ [some o])) : Ax P fn c (.ops false all (⟨some d, .call { callee := .value g, args := args.toArray, argTypes := ats }, ty, pos, after, none⟩ :: rest) k) fr H :=
 zGw hg ha has (hcall H) (fun _ h => h) (fun _ h => h) (fun r' H' h => by obtain ⟨rfl, rfl⟩ := h; exact hk)
/-- A call by any contract. -/
theorem zBR {caps ags ags' : List AV} {fix : Nat → Prop} {K : AV → zP → Prop} (hg : ev fr g = some (.fn f caps)) (ha : evs fr args = some ags) (has : ags ++ caps = ags') (hcall : zd P f ags' H fix K) (hall : ∀ h, h < H.length → fix h) (hfl : ∀ h, fix h → h < H.length)
 (hk : ∀ r H', K r H' → Ax P fn c (.ops false all rest k) ((d, r) :: fr) H') : Ax P fn c (.ops false all (⟨some d, .call { callee := .value g, args := args.toArray, argTypes := ats }, ty, pos, after, none⟩ :: rest) k) fr H :=
 zGw hg ha has hcall hall hfl hk
end
theorem zAb {k : IntKind} {l : List Int} : zAG (.ints k l) := zJH rfl
/-- The objects of a short memory name none. -/
theorem zEN {o1 : AObj} (h1 : zAG o1.c) : ∀ (h : Nat) (o : AObj), ([some o1] : zP)[h]? = some (some o) → zAG o.c := by
 have _p := ‹Pins›
 intro h o ho
 match h, ho with
 | 0, ho => simp at ho; subst ho; exact h1
 | _ + 1, ho => simp at ho
theorem refl2 {o1 o2 : AObj} (h1 : zAG o1.c) (h2 : zAG o2.c) : ∀ (h : Nat) (o : AObj), ([some o1, some o2] : zP)[h]? = some (some o) → zAG o.c := by
 have _p := ‹Pins›
 intro h o ho
 match h, ho with
 | 0, ho => simp at ho; subst ho; exact h1
 | 1, ho => simp at ho; subst ho; exact h2
 | _ + 2, ho => simp at ho
end Go.Ax
namespace Go.Ax
variable [Pins]
open Go.RowKit
/-- Two rows hold the same. -/
def CEq (a b : Cells) : Prop := b.len = a.len ∧ b.kd = a.kd ∧ ∀ i j, i < a.len → j < a.sz → b.at i j = a.at i j
/-- The second memory tells no more than the first. -/
def zAs (H H' : zP) : Prop := H'.length = H.length ∧ ∀ (h : Nat) (o' : AObj), H'[h]? = some (some o') → ∃ o : AObj, H[h]? = some (some o) ∧ o'.ty = o.ty ∧ CEq o.c o'.c
theorem CEq.refl (a : Cells) : CEq a a := have _p := ‹Pins›; ⟨rfl, rfl, fun _ _ _ _ => rfl⟩
theorem zAs.refl (H : zP) : zAs H H := ⟨rfl, fun _ o h => ⟨o, h, rfl, CEq.refl _⟩⟩
theorem zAs.nil : zAs [] [] := zAs.refl []
theorem zAs.cons {x y : Option AObj} {H H' : zP} (hx : ∀ o', y = some o' → ∃ o, x = some o ∧ o'.ty = o.ty ∧ CEq o.c o'.c) (h : zAs H H') : zAs (x :: H) (y :: H') := by
 have _p := ‹Pins›
 refine ⟨by simp [h.1], fun i o' ho => ?_⟩
 cases i with
 | zero =>
  simp only [List.getElem?_cons_zero, Option.some.injEq] at ho
  obtain ⟨o, rfl, h1, h2⟩ := hx o' ho
  exact ⟨o, by simp, h1, h2⟩
 | succ i => simpa using h.2 i o' (by simpa using ho)
theorem zAs.same {x : Option AObj} {H H' : zP} (h : zAs H H') : zAs (x :: H) (x :: H') := zAs.cons (fun o ho => ⟨o, ho, rfl, CEq.refl _⟩) h
theorem zAs.eqv {t : TypeId} {a b : Cells} {H H' : zP} (hc : CEq a b) (h : zAs H H') : zAs (some ⟨t, a⟩ :: H) (some ⟨t, b⟩ :: H') :=
 zAs.cons (fun o ho => by cases ho; exact ⟨_, rfl, rfl, hc⟩) h
theorem zAs.drop {x : Option AObj} {H H' : zP} (h : zAs H H') : zAs (x :: H) (none :: H') := zAs.cons (fun o ho => by cases ho) h
theorem Rep.heap {c : Ctx} {w : World} {a : Act} {σ : Nat → Option Blk} {S : Nat → Prop} {n : Nat} {fr : Fr} {H H' : zP} (hr : Rep c w a σ S n fr H) (hs : zAs H H') : Rep c w a σ S n fr H' := by
 refine ⟨⟨fun h o' ho => ?_, fun h h' o o' b s C s' C' q1 q2 e1 e2 => ?_, hr.hr.small, fun h hl => hr.hr.dom h (by rw [← hs.1]; exact hl)⟩, ⟨hr.kp.os, hr.kp.output, hr.kp.tape, hr.kp.size, hr.kp.block, hr.kp.S1, hr.kp.S2, hr.kp.fixed, fun h hf => by rw [hs.1]; exact hr.kp.fixlt h hf, fun h o b s C q e => ?_⟩, hr.defers, hr.size, hr.slots⟩
 ·obtain ⟨o, h1, h2, h3, h4, h5⟩ := hs.2 h o' ho
  rw [h3, zLx h4]
  rcases hr.hr.live h o h1 with g | ⟨b, C, cur, g1, g2, g3, g4, g5, g6, g7⟩
  ·exact .inl g
  ·exact .inr ⟨b, C, cur, g1, g2.kd h2 h4, g3, g4, g5, g6, fun i j hi hj => by rw [h5 i j hi hj]; exact g7 i j hi hj⟩
 ·obtain ⟨p, h1, _⟩ := hs.2 h o q1
  obtain ⟨p', h1', _⟩ := hs.2 h' o' q2
  exact hr.hr.dist h h' p p' b s C s' C' h1 h1' e1 e2
 ·obtain ⟨p, h1, _⟩ := hs.2 h o q
  exact hr.kp.own h p b s C h1 e
section
variable {P : Program} {fn : Func} {c : Ctx} {fr : Fr} {H : zP} {k : List It}
theorem zKc {x : Code} (H' : zP) (hs : zAs H H') (h : Ax P fn c (.code x k) fr H') : Ax P fn c (.code x k) fr H :=
 fun w a σ S hr => h w a σ S (hr.heap hs)
theorem zBH {q : Bool} {all : Array Oper} {rest : List Oper} (H' : zP) (hs : zAs H H') (h : Ax P fn c (.ops q all rest k) fr H') : Ax P fn c (.ops q all rest k) fr H := by
 cases q with
 | true => exact fun hd w a σ S hr => h hd w a σ S (hr.heap hs)
 | false => exact fun hd w a σ S hr => h hd w a σ S (hr.heap hs)
end
end Go.Ax
namespace Go.Ax
variable [Pins]
open Go.ChangeShapes Go.WideShapes Go.ChangeAt Go.RowKit
section
variable {H : Type} {enc : TypeId × Value → H} {P : Program} {W W' : World}
theorem zJN (hk : ∀ b, b < W.heap.size → W'.heap[b]? = W.heap[b]?) (p : MemPlace) (hp : p.block < W.heap.size) : W.sameAt W' p := by
 have _p := ‹Pins›
 cases p with
 | cell b off =>
  show W'.cell? _ = W.cell? _
  exact World.cell?_of_block (hk b hp)
 | map b => exact hk b hp
theorem zGU {spare : Nat → Bool} {base : Nat} {held : Bool} : ∀ {ts : List TypeId} {vs : List Value} {ds : List (DataW H)} {ps : List MemPlace}, DataW.TrodAll enc P W base spare held ts vs ds ps → (∀ p ∈ ps, W.sameAt W' p) → DataW.TrodAll enc P W' base spare held ts vs ds ps
 | [], [], [], _, h, _ => have _p := ‹Pins›; h
 | _ :: _, _ :: _, _ :: _, _, ⟨p, q, ⟨n, h1⟩, h2, e⟩, hs =>
  ⟨p, q, ⟨n, DataW.trod_carry n _ _ _ h1 (fun x hx => hs x (by rw [e]; exact List.mem_append_left _ hx))⟩, zGU h2 (fun x hx => hs x (by rw [e]; exact List.mem_append_right _ hx)), e⟩
theorem zIN (ho : W'.os = W.os) (hp : W'.output = W.output) (hk : ∀ b, b < W.heap.size → W'.heap[b]? = W.heap[b]?) (may : MemPlace → Prop) : W.keptBut W' may := by
 have _p := ‹Pins›
 refine ⟨ho, hp, fun i hi => ?_⟩
 rw [hk i hi]
 split
 ·rename_i h1 h2; rw [h1] at h2; cases h2; exact ⟨rfl, rfl, rfl, fun _ _ => rfl⟩
 ·rename_i h1 h2; rw [h1] at h2; cases h2; exact .inr ⟨rfl, rfl⟩
 ·rfl
/-- What a law's row asks behind the call. -/
theorem zOP {f : Func} {s : ChangeSpec} {t : TypeId} {apart fresh handsOn : Bool} {args : Array Value} {ds gs : List (DataW H)} {before : List MemPlace}
 (hW : DataW.Whole enc P f.params.toList s.vars apart W args.toList ds gs before) (hv : s.vars = []) (hs : s.fn H ds = { results := [.lit (.bool true)], args := ds, vars := [] })
 (hr : f.resultTypes = #[t]) (ht : P.underlying t = some .bool) (hl : laidOutB P = true) (hm : mapsRowed P = true)
 (hz : ((List.range P.types.size).all fun t => match P.underlying t with | some (.slice e) => decide (0 < P.cellsOf e) | _ => true) = true) (hts : (f.params.toList.all (fun t => decide (t < P.types.size))) = true)
 (ho : W'.os = W.os) (hp : W'.output = W.output) (hk : ∀ b, b < W.heap.size → W'.heap[b]? = W.heap[b]?) :
 s.post enc P f apart fresh handsOn false W args (.bool true) W' := by
 have hlt := hW.lt
 have hW' := hW
 obtain ⟨p, q, hA, hV, hpq, _, _⟩ := hW
 rw [hv] at hV
 have hgs : gs = [] ∧ q = [] := by
  cases gs with
  | nil => exact ⟨rfl, hV⟩
  | cons g r => exact hV.elim
 obtain ⟨rfl, rfl⟩ := hgs
 simp only [List.append_nil] at hpq
 subst hpq
 have hA2 := DataW.TrodAll.respare (spare' := fun b => decide (b < W.heap.size)) (kids_rows hl hm) (slices_full_of P hz) (fun t ht => by simpa using List.all_eq_true.1 hts t ht) hA (fun x hx => by simpa using hlt x hx)
 have hA3 := zGU (W' := W') hA2 (fun x hx => zJN hk x (hlt x hx))
 refine ⟨ds, [], before, [], before, [], hW', ?_, ?_, ?_, zIN ho hp hk _, fun h => nomatch h⟩
 ·rw [List.append_nil, hs, hr]
  exact trodAll_cons_mk (shut_bool ht _) trodAll_mk0
 ·rw [List.append_nil, hs]; exact hA3
 ·rw [List.append_nil, hs, hv]; exact rfl
theorem vr_ints {t e : TypeId} {k : IntKind} {v : Value} {d : DataW H} {p : List MemPlace} (ht : P.underlying t = some (.slice e)) (he : P.underlying e = some (.int k)) (hc : P.cellsOf e = 1)
 (hv : ∃ a len cap, v = .slice a len cap) (h : DataW.Trod enc P W 0 (fun _ => true) true t v d p) :
 ∃ l : List Int, VR W (fun b => b < W.heap.size) (fun _ => none) (.ro (.ints k l) 0 l.length) v ∧ (∀ n ∈ l, (Lit.int k n).wf = true) ∧ l.length ≤ maxLen := by
 have _p := ‹Pins›
 obtain ⟨a0, len0, cap0, rfl⟩ := hv
 obtain ⟨n, h⟩ := h
 rcases open_ints ht he hc h with ⟨hcs, _⟩ | ⟨a, len, cap, zs, hcs, _, hl, hmx, hzl, _, hcell, hwf⟩
 ·simp [Value.cells] at hcs
  obtain ⟨rfl, rfl, rfl⟩ := hcs
  exact ⟨[], .ro0 _ _ _ _ _, fun n hn => by simp at hn, Nat.zero_le _⟩
 ·simp [Value.cells] at hcs
  obtain ⟨rfl, rfl, rfl⟩ := hcs
  simp only [if_true] at hzl
  have htl : (zs.take len0).length = len0 := by simp; omega
  refine ⟨zs.take len0, ?_, fun n hn => hwf n (List.mem_of_mem_take hn), by omega⟩
  rw [htl]
  cases len0 with
  | zero => exact .ro0 _ _ _ _ _
  | succ m =>
   have h0 := hcell 0 (by omega)
   have ha : a = ⟨a.block, a.off, none⟩ := by
    have hb := h0
    simp only [Addr.add, if_true] at hb
    unfold World.cell? at hb
    split at hb
    ·cases hsp : a.spot with
     | none => cases a; simp_all
     | some s => simp [hsp] at hb
    ·cases hb
   have hblk : a.block < W.heap.size := by
    rcases Nat.lt_or_ge a.block W.heap.size with hh | hh
    ·exact hh
    ·rw [ha] at h0
     unfold World.cell? at h0
     have : W.heap[a.block]? = none := by simp [hh]
     simp [Addr.add, this] at h0
   rw [ha]
   refine .ro _ _ _ _ _ _ _ (fun d _ => .int k (zs.getD d 0)) hblk hl (fun d j hd hj => ?_) (fun d j hd hj => ?_) (fun d j _ _ => rfl)
   ·have hj0 : j = 0 := by simp only [Cells.sz] at hj; omega
    subst hj0
    have := hcell d (by omega)
    rw [ha, add_plain] at this
    simpa [Cells.sz] using this
   ·simp only [Cells.at, Nat.zero_add]
    have e : (zs.take (m + 1)).getD d 0 = zs.getD d 0 := by
     simp only [List.getD]; rw [List.getElem?_take_of_lt hd]
    rw [e]; exact .int _ _ _
/-- A law, called with what is read. -/
theorem zOB {f : FuncId} {ags : List AV} {args : Array Value} (hc : zl P f ags (.bool true)) (hsz : args.size = ags.length) (hv : ∀ i, i < ags.length → VR W (fun b => b < W.heap.size) (fun _ => none) (ags.getD i .any) (args.getD i undef)) (hp : zC5 W (fun b => b < W.heap.size) (fun _ => none) []) :
 Calls P f args W (fun e W' => e = .returned (.bool true) ∧ W'.os = W.os ∧ W'.output = W.output ∧ ∀ b, b < W.heap.size → W'.heap[b]? = W.heap[b]?) := by
 have hr : HR W (fun b => b < W.heap.size) (fun _ => none) [] := ⟨fun h o ho => by simp at ho, fun h h' o o' b s C s' C' q => by simp at q, fun b h => h, fun _ _ => rfl⟩
 refine Calls.mono ((hc []).2 W (fun _ => none) (fun b => b < W.heap.size) args hp hr (fun h hh => hh) ⟨hsz, hv⟩) fun e W' he => ?_
 obtain ⟨v, r, σ', S', H', rfl, g2, g3, g4, rfl, g6⟩ := he
 have : v = .bool true := by cases g3; rfl
 subst this
 refine ⟨U, g4.os, g4.output, fun b hb => g4.block b hb ?_⟩
 rintro ⟨h, o, s, C, q, _⟩
 simp at q
end
end Go.Ax
namespace Go.Ax
variable [Pins]
open Go.RowKit
section
variable {ind : Bool} {P : Program} {fn : Func} {c : Ctx} {fr : Fr} {H : zP} {k : List It}
variable {d : Option Nat} {ty : TypeId} {pos : String} {after : Array Edge} {g : Option (Nat × Bool)}
theorem zFX {op : BinOp} {t : TypeId} {x y : Operand} {a b : ByteArray} {w : World} : (eqGuard op t x y (.string a) (.string b)).run P w = .ok () w := by
 have _p := ‹Pins›
 unfold eqGuard
 split <;> rfl
theorem zIK (s : List UInt8) : (⟨s.toArray⟩ : ByteArray).toList = s := have _p := ‹Pins›; ByteArray.toList_mk s
theorem zHJ {x y : Operand} {t t' : TypeId} {a b : List UInt8} (hx : ev fr x = some (.str a)) (hy : ev fr y = some (.str b)) : QOp ind P fn c fr H ⟨d, .binOp .eql t x y t', ty, pos, after, g⟩ (.bool (decide (a = b))) := by
 intro w ac σ S hr
 refine ⟨_, .bool _ _, fun w' _ => ?_⟩
 have h1 := hr.evStr hx
 have h2 := hr.evStr hy
 have e : (a == b) = decide (a = b) := by rw [Bool.eq_iff_iff]; simp
 simp [execOp, h1, h2, zGs, zFX, binOp, Op.stringOp, e]
theorem zHK {x y : Operand} {t t' : TypeId} {a b : List UInt8} (hx : ev fr x = some (.str a)) (hy : ev fr y = some (.str b)) : QOp ind P fn c fr H ⟨d, .binOp .neq t x y t', ty, pos, after, g⟩ (.bool (decide (¬ a = b))) := by
 intro w ac σ S hr
 refine ⟨_, .bool _ _, fun w' _ => ?_⟩
 have h1 := hr.evStr hx
 have h2 := hr.evStr hy
 have e : (a == b) = decide (a = b) := by rw [Bool.eq_iff_iff]; simp
 simp [execOp, h1, h2, zGs, zFX, binOp, Op.stringOp, e]
theorem zEM {x i : Operand} {t : TypeId} {s : List UInt8} {kk : IntKind} {m : Int} (ht : P.underlying t = some .string) (hx : ev fr x = some (.str s)) (hi : ev fr i = some (.int kk m)) (hb : 0 ≤ m ∧ m < s.length) :
 QOp ind P fn c fr H ⟨d, .index t x i, ty, pos, after, g⟩ (.int .u8 ((s.getD m.toNat 0).toNat : Nat)) := by
 intro w ac σ S hr
 refine ⟨_, .int _ _ _, fun w' _ => ?_⟩
 have h1 := hr.evStr hx
 have h2 := hr.evInt hi
 have hlt : m.toNat < s.length := by omega
 have e : (⟨s.toArray⟩ : ByteArray)[m.toNat]? = some (s.getD m.toNat 0) := by
  have hsz : (⟨s.toArray⟩ : ByteArray).size = s.length := zLF s
  have : m.toNat < (⟨s.toArray⟩ : ByteArray).size := by rw [hsz]; exact hlt
  rw [getElem?_pos (⟨s.toArray⟩ : ByteArray) m.toNat this]
  congr 1
  show s.toArray[m.toNat] = _
  simp [List.getD, hlt]
 simp [execOp, h1, h2, zGs, Instr.index, asIntOf, run_underlying ht, hb.1, e]
theorem zJq {a : Act} {w0 w : World} {σ : Nat → Option Blk} {S : Nat → Prop} {n : Nat} (hr : Rep c w0 a σ S n fr H) {lo hi : Option Operand} {lo' hi' : Option AV} {len : Nat} {l h : Int} (h1 : evo fr lo = some lo') (h2 : evo fr hi = some hi')
 (h3 : zEp 0 lo' = some l) (h4 : zEp len hi' = some h) (hb : 0 ≤ l ∧ l ≤ h ∧ h ≤ len) :
 (Instr.sliceBounds false len len (lo.map a.eval) (hi.map a.eval) none).run P w = .ok (l.toNat, h.toNat, len) w :=
 zBB hr h1 h2 h3 h4 ⟨hb.1, hb.2.1, hb.2.2⟩
theorem zGm {x : Operand} {t : TypeId} {lo hi : Option Operand} {lo' hi' : Option AV} {s : List UInt8} {l h : Int} (ht : P.underlying t = some .string) (hx : ev fr x = some (.str s)) (h1 : evo fr lo = some lo') (h2 : evo fr hi = some hi')
 (h3 : zEp 0 lo' = some l) (h4 : zEp s.length hi' = some h) (hb : 0 ≤ l ∧ l ≤ h ∧ h ≤ s.length) :
 QOp ind P fn c fr H ⟨d, .slice t x lo hi none, ty, pos, after, g⟩ (.str ((s.drop l.toNat).take (h.toNat - l.toNat))) := by
 intro w ac σ S hr
 refine ⟨_, .str _ _, fun w' _ => ?_⟩
 have e1 := hr.evStr hx
 have hsz : (⟨s.toArray⟩ : ByteArray).size = s.length := zLF s
 have e2 := zJq (P := P) (w := w') hr h1 h2 h3 h4 hb
 have e3 : (⟨s.toArray⟩ : ByteArray).extract l.toNat h.toNat = ⟨((s.drop l.toNat).take (h.toNat - l.toNat)).toArray⟩ := by
  apply WideShapes.bytes_inj
  rw [Lib.extract_data]
 simp [execOp, Instr.sliceAt, run_underlying ht, e1, zGs, Instr.slice, hsz, e2, e3]
theorem q_max {x y : Operand} {ats : Array TypeId} {k1 k2 : IntKind} {m n : Int} (hx : ev fr x = some (.int k1 m)) (hy : ev fr y = some (.int k2 n)) :
 QOp ind P fn c fr H ⟨d, .call { callee := .builtin .max, args := #[x, y], argTypes := ats }, ty, pos, after, g⟩ (.int k1 (if n > m then n else m)) := by
 intro w ac σ S hr
 refine ⟨_, .int _ _ _, fun w' _ => ?_⟩
 simp [execOp, resolve, hr.evInt hx, hr.evInt hy, invoke, builtin, Builtin.max_, Builtin.max2]
theorem zKT {x y : Operand} {ats : Array TypeId} {k1 k2 : IntKind} {m n : Int} (hx : ev fr x = some (.int k1 m)) (hy : ev fr y = some (.int k2 n)) :
 QOp ind P fn c fr H ⟨d, .call { callee := .builtin .min, args := #[x, y], argTypes := ats }, ty, pos, after, g⟩ (.int k1 (if n < m then n else m)) := by
 intro w ac σ S hr
 refine ⟨_, .int _ _ _, fun w' _ => ?_⟩
 simp [execOp, resolve, hr.evInt hx, hr.evInt hy, invoke, builtin, Builtin.min_, Builtin.min2]
/-- cap, of a nil slice -/
theorem zMF {x : Operand} {t e : TypeId} (ht : P.underlying t = some (.slice e)) (hx : ev fr x = some .nil) :
 QOp ind P fn c fr H ⟨d, .call { callee := .builtin .cap, args := #[x], argTypes := #[t] }, ty, pos, after, g⟩ (.int .i64 0) := by
 intro w ac σ S hr
 have h1 := hr.evAt hx
 generalize hz : ac.eval x = z at h1
 cases h1
 refine ⟨_, .int _ _ _, fun w' _ => ?_⟩
 simp [execOp, resolve, hz, invoke, builtin, Builtin.cap_, run_underlying ht, goInt]
/-- nil[:0] -/
theorem zM2 {x : Operand} {t e : TypeId} {lo hi : Option Operand} {lo' hi' : Option AV} {s : Nat} (ht : P.underlying t = some (.slice e)) (hs : (P.info? e).map (·.size) = some s) (hx : ev fr x = some .nil) (h1 : evo fr lo = some lo') (h2 : evo fr hi = some hi')
 (h3 : zEp 0 lo' = some 0) (h4 : zEp 0 hi' = some 0) : QOp ind P fn c fr H ⟨d, .slice t x lo hi none, ty, pos, after, g⟩ .nil := by
 intro w ac σ S hr
 have hv := hr.evAt hx
 generalize hz : ac.eval x = z at hv
 cases hv
 refine ⟨_, .nil _, fun w' _ => ?_⟩
 have e2 := zBB (P := P) (w := w') (isS := true) (len := 0) (cap := 0) hr h1 h2 h3 h4 ⟨by omega, by omega, by omega⟩
 cases hq : P.info? e with
 | none => simp [hq] at hs
 | some inf => simp [execOp, Instr.sliceAt, run_underlying ht, hz, Instr.slice, e2, sizeOf, typeInfo, hq]
/-- A function value. -/
theorem zCn {f : FuncId} {caps : List Operand} {l : List AV} (hl : evs fr caps = some l) :
 QOp ind P fn c fr H ⟨d, .makeFunc (.func f) #[] caps.toArray, ty, pos, after, g⟩ (.fn f l) := by
 intro w ac σ S hr
 obtain ⟨e1, e2⟩ := zFk hr caps l hl
 refine ⟨.func (.func f) #[] (caps.map ac.eval).toArray, .fn _ _ _ _ (by simp [e1]) (fun i hi => ?_), fun w' _ => ?_⟩
 ·have := e2 i hi
  have hlt : i < caps.length := by omega
  have e : (caps.map ac.eval).toArray.getD i undef = (caps.map ac.eval).getD i undef := by simp [List.getD, hlt]
  rw [e]; exact this
 ·simp [execOp, Instr.makeFunc]
/-- Reading a variable that is only read. -/
theorem zD {x : Operand} {t : TypeId} {u : TypeDesc} {l : List AV} {i j : Nat} {v : AV} (ht : P.underlying t = some u) (hu : zBO u = false) (hx : ev fr x = some (.rp (.box l) i j)) (hv : l[j]? = some v) :
 QOp false P fn c fr H ⟨d, .load t x, ty, pos, after, g⟩ v :=
 zGK ht hu hx (Nat.ble_eq_true_of_le (List.getElem?_eq_some_iff.1 hv).1) (by simp [Cells.at, List.getD, hv])
theorem zJ3 {w : World} {S : Nat → Prop} {σ : Nat → Option Blk} {cs : Array Value} {L : List AV} (h : Arr w S σ cs L) : ∀ i j, i < (Cells.box L).len → j < (Cells.box L).sz → ∃ v, cs[i * (Cells.box L).sz + j]? = some v ∧ VR w S σ ((Cells.box L).at i j) v ∧ v.oneCell' = true := by
 have _p := ‹Pins›
 intro i j hi hj
 simp only [Cells.len, Cells.sz] at hi hj
 have : i = 0 := by omega
 subst this
 obtain ⟨h1, h2⟩ := h.2 j hj
 have hlt : j < cs.size := by rw [h.1]; exact hj
 exact ⟨cs.getD j undef, by simp [hlt], h1, h2⟩
/-- A new variable, with a value in it. -/
theorem zAO {all : Array Oper} {d : Nat} {t : TypeId} {x : Operand} {ty : TypeId} {pos : String} {after : Array Edge} {rest : List Oper} {v : AV} {L : List AV}
 (hx : ev fr x = some v) (hc : v.cellsA = some L)
 (hk : Ax P fn c (.ops false all rest k) ((d, .ptr H.length 0 0) :: fr) (H ++ [some ⟨t, .box L⟩])) : Ax P fn c (.ops false all (⟨some d, .box t x, ty, pos, after, none⟩ :: rest) k) fr H := by
 refine ax_w (fun w a σ S hr => ?_) hk
 have h1 := hr.evAt hx
 have ha := zJx h1 hc
 have hrun : (execOp a.eval ⟨some d, .box t x, ty, pos, after, none⟩).run P w = .ok (.value (.pointer (some ⟨w.heap.size, 0, none⟩))) (w.alloc (.cells (a.eval x).cells t (0, 0))) := by
  simp [execOp, Instr.box, newVar, newRow]
 refine ⟨_, _, _, S, hrun, hr.alloc (o := ⟨t, .box L⟩) (C := 1) (cur := (a.eval x).cells) (Nat.le_refl _) (by unfold maxLen; omega) (by simp [Cells.sz, ha.1]) (zJ3 ha), ?_⟩
 have := VR.ptr (w := w.alloc (.cells (a.eval x).cells t (0, 0))) (S := S) (upσ σ H.length (.at w.heap.size (Cells.box L).sz 1)) H.length 0 0 w.heap.size (Cells.box L).sz 1 (by simp [upσ])
 simpa using this
/-- A new variable, zero. -/
theorem zAI {all : Array Oper} {d : Nat} {t : TypeId} {ty : TypeId} {pos : String} {after : Array Edge} {rest : List Oper} {inf : TypeInfo} {z : Value} {zs : List AV}
 (hi : P.info? t = some inf) (hz : inf.zero = some z) (hzs : zav z = some zs)
 (hk : Ax P fn c (.ops false all rest k) ((d, .ptr H.length 0 0) :: fr) (H ++ [some ⟨t, .box zs⟩])) : Ax P fn c (.ops false all (⟨some d, .alloc t, ty, pos, after, none⟩ :: rest) k) fr H := by
 refine ax_w (fun w a σ S hr => ?_) hk
 have ha : Arr w S σ z.cells zs := zFA hzs
 have hrun : (execOp a.eval ⟨some d, .alloc t, ty, pos, after, none⟩).run P w = .ok (.value (.pointer (some ⟨w.heap.size, 0, none⟩))) (w.alloc (.cells z.cells t (0, 0))) := by
  simp [execOp, Instr.alloc, newVar, newRow, zeroValue, typeInfo, hi, hz]
 refine ⟨_, _, _, S, hrun, hr.alloc (o := ⟨t, .box zs⟩) (C := 1) (cur := z.cells) (Nat.le_refl _) (by unfold maxLen; omega) (by simp [Cells.sz, ha.1]) (zJ3 ha), ?_⟩
 have := VR.ptr (w := w.alloc (.cells z.cells t (0, 0))) (S := S) (upσ σ H.length (.at w.heap.size (Cells.box zs).sz 1)) H.length 0 0 w.heap.size (Cells.box zs).sz 1 (by simp [upσ])
 simpa using this
/-- append(nil, make([]T, n)...) -/
theorem ax_growz {all : Array Oper} {d : Nat} {t tn e : TypeId} {x y : Operand} {ty : TypeId} {pos : String} {after : Array Edge} {rest : List Oper} {inf : TypeInfo} {z : Value} {zs : List AV} {n : Int} {k1 kn : IntKind}
 (ht : P.underlying t = some (.slice e)) (htn : P.underlying tn = some (.int kn)) (hi : P.info? e = some inf) (hz : inf.zero = some z) (hsz : inf.size = zs.length) (hzs : zav z = some zs) (hpos : Nat.blt 0 zs.length = true)
 (hx : ev fr x = some .nil) (hy : ev fr y = some (.int k1 n)) (hb : 0 < n ∧ (n : Int) * inf.bytes ≤ 140737488355328 ∧ n ≤ 9223372036854775807)
 (hk : Ax P fn c (.ops false all rest k) ((d, .sl H.length 0 n.toNat) :: fr) (H ++ [some ⟨e, zBL n.toNat zs⟩])) : Ax P fn c (.ops false all (⟨some d, .call { callee := .builtin .append, args := #[x, y], argTypes := #[t, tn] }, ty, pos, after, none⟩ :: rest) k) fr H := by
 refine ax_w (fun w a σ S hr => ?_) hk
 obtain ⟨z1, z2, z3⟩ := zFB n.toNat zs
 obtain ⟨y1, y2⟩ := zFA (w := w) (S := S) (σ := σ) hzs
 have hpos' : 0 < zs.length := Nat.le_of_ble_eq_true hpos
 have h1 := hr.evAt hx
 have h2 := hr.evInt hy
 generalize hzx : a.eval x = vx at h1
 cases h1
 obtain ⟨m, rfl⟩ : ∃ m : Nat, n = m := ⟨n.toNat, by omega⟩
 simp only [Int.toNat_natCast] at *
 have hbb : m * inf.bytes ≤ 140737488355328 := by
  have := hb.2.1
  rw [← Int.natCast_mul] at this
  omega
 have hrun := Lib.run_append_nil_zeros (P := P) w t tn ty e inf z k1 kn ht htn hi hz m (by omega) (by omega) (by omega) (by omega)
 have hexec : (execOp a.eval ⟨some d, .call { callee := .builtin .append, args := #[x, y], argTypes := #[t, tn] }, ty, pos, after, none⟩).run P w = .ok (.value (.slice (some ⟨w.heap.size, 0, none⟩) m (grownCap w m 0 e))) (w.drew.alloc (.cells (Builtin.zeroCells z.cells m ++ Builtin.zeroCells z.cells (grownCap w m 0 e - m)) e)) := by
  simp [execOp, resolve, hzx, h2, invoke, builtin, hrun]
 have hge := grownCap_ge w m 0 e
 have hle := grownCap_le_maxLen w m 0 e (by unfold maxLen; omega)
 generalize grownCap w m 0 e = G at hexec hge hle
 have hd : Rep c w.drew a σ S fn.ntmps fr H := hr.drewN (m := 1)
 refine ⟨_, _, _, S, hexec, hd.alloc (o := ⟨e, zBL m zs⟩) (C := G) (cur := Builtin.zeroCells z.cells m ++ Builtin.zeroCells z.cells (G - m)) (by rw [z1]; exact hge) hle (by
  simp only [Array.size_append, size_zeroCells, z2, y1, ← Nat.add_mul]; congr 1; omega) (fun i j hi hj => ?_), ?_⟩
 ·simp only [z1] at hi
  simp only [z2] at hj ⊢
  rw [z3 i j hi hj]
  have hlt : i * zs.length + j < m * zs.length := by
   have : (i + 1) * zs.length ≤ m * zs.length := Nat.mul_le_mul_right _ (by omega)
   rw [Nat.add_mul] at this; omega
  have hm : (i * zs.length + j) % zs.length = j := by rw [Nat.mul_comm, Nat.mul_add_mod]; exact Nat.mod_eq_of_lt hj
  refine ⟨z.cells.getD j undef, ?_, ?_, (y2 j hj).2⟩
  ·rw [Array.getElem?_append_left (by simp [size_zeroCells, y1]; exact hlt)]
   have hlt2 : i * zs.length + j < m * z.cells.size := by rw [y1]; exact hlt
   have hjz : j < z.cells.size := by rw [y1]; exact hj
   simp [Builtin.zeroCells, y1, hm, Array.getD, hlt, hj]
  ·exact VR.mono (w := w) (w' := w.drew) (S := S) (S' := S) (σ := σ) (fun _ h => h) (fun _ _ => rfl) (y2 j hj).1 _ (fun _ _ h => h)
 ·have := VR.sl (w := w.drew.alloc (.cells (Builtin.zeroCells z.cells m ++ Builtin.zeroCells z.cells (G - m)) e)) (S := S) (upσ σ H.length (.at w.heap.size (zBL m zs).sz G)) H.length 0 m w.heap.size (zBL m zs).sz G G (by simp [upσ]) (by omega) (by omega)
  simpa using this
end
/-- Less is told: some last elements of an object are passed over. -/
def zKa (a b : Cells) : Prop := b.len ≤ a.len ∧ b.kd = a.kd ∧ ∀ i j, i < b.len → j < a.sz → b.at i j = a.at i j
theorem Rep.trunc {c : Ctx} {w : World} {a : Act} {σ : Nat → Option Blk} {S : Nat → Prop} {n : Nat} {fr : Fr} {H : zP} (hr : Rep c w a σ S n fr H) {h : Nat} {o : AObj} (hh : H[h]? = some (some o)) {c' : Cells} (ht : zKa o.c c') : Rep c w a σ S n fr (H.set h (some ⟨o.ty, c'⟩)) := by
 obtain ⟨t1, t2, t3⟩ := ht
 have hlt : h < H.length := (List.getElem?_eq_some_iff.1 hh).1
 have hset : ∀ (h' : Nat) (o' : AObj), (H.set h (some ⟨o.ty, c'⟩))[h']? = some (some o') → ∃ o0 : AObj, H[h']? = some (some o0) ∧ o'.ty = o0.ty ∧ zKa o0.c o'.c := by
  intro h' o' ho
  by_cases he : h' = h
  ·subst he
   simp only [List.getElem?_set_self hlt, Option.some.injEq] at ho
   subst ho
   exact ⟨o, hh, U, t1, t2, t3⟩
  ·rw [List.getElem?_set_ne (Ne.symm he)] at ho
   exact ⟨o', ho, U, Nat.le_refl _, U, fun _ _ _ _ => rfl⟩
 refine ⟨⟨fun h' o' ho => ?_, fun h1 h2 o1 o2 b s C s' C' q1 q2 e1 e2 => ?_, hr.hr.small, fun h' hl => hr.hr.dom h' (by simpa using hl)⟩, ⟨hr.kp.os, hr.kp.output, hr.kp.tape, hr.kp.size, hr.kp.block, hr.kp.S1, hr.kp.S2, hr.kp.fixed, fun h' hf => by simpa using hr.kp.fixlt h' hf, fun h' o' b s C q e => ?_⟩, hr.defers, hr.size, hr.slots⟩
 ·obtain ⟨o0, h1, h2, h3, h4, h5⟩ := hset h' o' ho
  rw [zLx h4]
  rcases hr.hr.live h' o0 h1 with g | ⟨b, C, cur, g1, g2, g3, g4, g5, g6, g7⟩
  ·exact .inl ⟨g.1, by have := g.2; omega⟩
  ·exact .inr ⟨b, C, cur, g1, g2.kd h2 h4, g3, g4, by omega, g6, fun i j hi hj => by rw [h5 i j hi hj]; exact g7 i j (by omega) hj⟩
 ·obtain ⟨p, p1, _⟩ := hset h1 o1 q1
  obtain ⟨p', p1', _⟩ := hset h2 o2 q2
  exact hr.hr.dist h1 h2 p p' b s C s' C' p1 p1' e1 e2
 ·obtain ⟨p, p1, _⟩ := hset h' o' q
  exact hr.kp.own h' p b s C p1 e
section
variable {P : Program} {fn : Func} {c : Ctx} {fr : Fr} {H : zP} {k : List It}
theorem zLW {x : Code} (h : Nat) {o : AObj} (c' : Cells) (hh : H[h]? = some (some o)) (ht : zKa o.c c') (hk : Ax P fn c (.code x k) fr (H.set h (some ⟨o.ty, c'⟩))) : Ax P fn c (.code x k) fr H :=
 fun w a σ S hr => hk w a σ S (hr.trunc hh ht)
theorem zKe {q : Bool} {all : Array Oper} {rest : List Oper} (h : Nat) {o : AObj} (c' : Cells) (hh : H[h]? = some (some o)) (ht : zKa o.c c') (hk : Ax P fn c (.ops q all rest k) fr (H.set h (some ⟨o.ty, c'⟩))) : Ax P fn c (.ops q all rest k) fr H := by
 cases q with
 | true => exact fun hd w a σ S hr => hk hd w a σ S (hr.trunc hh ht)
 | false => exact fun hd w a σ S hr => hk hd w a σ S (hr.trunc hh ht)
end
/-- What the first stands for, the second does too. -/
def AEq (x y : AV) : Prop := ∀ (w : World) (S : Nat → Prop) (σ : Nat → Option Blk) (v : Value), VR w S σ x v → VR w S σ y v
theorem AEq.ro {c c' : Cells} {i i' n : Nat} (hs : c'.sz = c.sz) (h : ∀ d j, d < n → j < c.sz → c'.at (i' + d) j = c.at (i + d) j) : AEq (.ro c i n) (.ro c' i' n) := by
 have _p := ‹Pins›
 intro w S σ v hv
 cases hv with
 | ro0 => exact .ro0 _ _ _ _ _
 | ro _ _ _ _ b o cap val hS hlen hc hv h1 =>
  refine .ro _ _ _ _ b o cap val hS hlen (fun d j hd hj => ?_) (fun d j hd hj => ?_) (fun d j hd hj => h1 d j hd (by rwa [hs] at hj))
  ·rw [hs] at hj ⊢; exact hc d j hd hj
  ·rw [hs] at hj
   rw [h d j hd hj]; exact hv d j hd hj
theorem AEq.of_eq {x y : AV} (h : x = y) : AEq x y := have _p := ‹Pins›; fun _ _ _ _ hv => h ▸ hv
theorem AEq.rfl' {x : AV} : AEq x x := have _p := ‹Pins›; fun _ _ _ _ hv => hv
theorem AEq.trans {x y z : AV} (h : AEq x y) (h' : AEq y z) : AEq x z := have _p := ‹Pins›; fun _ _ _ _ hv => h' _ _ _ _ (h _ _ _ _ hv)
theorem AEq.ro_in {c c' : Cells} {i i' n : Nat} (hs : c'.sz = c.sz) (h : ∀ d j, d < n → j < c.sz → AEq (c.at (i + d) j) (c'.at (i' + d) j)) : AEq (.ro c i n) (.ro c' i' n) := by
 have _p := ‹Pins›
 intro w S σ v hv
 cases hv with
 | ro0 => exact .ro0 _ _ _ _ _
 | ro _ _ _ _ b o cap val hS hlen hc hv h1 =>
  refine .ro _ _ _ _ b o cap val hS hlen (fun d j hd hj => ?_) (fun d j hd hj => ?_) (fun d j hd hj => h1 d j hd (by rwa [hs] at hj))
  ·rw [hs] at hj ⊢; exact hc d j hd hj
  ·rw [hs] at hj
   exact h d j hd hj _ _ _ _ (hv d j hd hj)
/-- Rows of integers. -/
def zJK (ls : List (List Int)) : Cells := .fn ls.length 1 (fun i _ => .ro (.ints .i64 (ls.getD i [])) 0 (ls.getD i []).length)
theorem AEq.take {k : IntKind} {l : List Int} {n : Nat} : AEq (.ro (.ints k l) 0 n) (.ro (.ints k (l.take n)) 0 n) :=
 AEq.ro rfl (fun d j hd _ => by simp only [Cells.at, Nat.zero_add, List.getD, List.getElem?_take, hd, if_true])
theorem AEq.drop {k : IntKind} {l : List Int} {i n : Nat} : AEq (.ro (.ints k l) i n) (.ro (.ints k (l.drop i)) 0 n) :=
 AEq.ro rfl (fun d j hd _ => by simp only [Cells.at, Nat.zero_add, List.getD, List.getElem?_drop])
theorem AEq.nil {c : Cells} {i : Nat} : AEq .nil (.ro c i 0) := by
 have _p := ‹Pins›
 intro w S σ v hv
 cases hv
 exact .ro0 _ _ _ _ _
theorem Rep.slot {c : Ctx} {w : World} {a : Act} {σ : Nat → Option Blk} {S : Nat → Prop} {n t : Nat} {fr : Fr} {H : zP} {x y : AV} (hr : Rep c w a σ S n fr H) (hl : zAa t fr = some x) (h : AEq x y) : Rep c w a σ S n ((t, y) :: fr) H := by
 refine ⟨hr.hr, hr.kp, hr.defers, hr.size, fun u v hu => ?_⟩
 simp only [zAa] at hu
 by_cases he : u = t
 ·subst he
  simp only [Nat.beq_refl, cond_true, Option.some.injEq] at hu
  subst hu
  exact ⟨(hr.slots u x hl).1, h _ _ _ _ (hr.slots u x hl).2⟩
 ·simp only [zBX he, cond_false] at hu
  exact hr.slots u v hu
section
variable {P : Program} {fn : Func} {c : Ctx} {fr : Fr} {H : zP} {k : List It}
theorem zBu {x : Code} (t : Nat) {v : AV} (y : AV) (hl : zAa t fr = some v) (h : AEq v y) (hk : Ax P fn c (.code x k) ((t, y) :: fr) H) : Ax P fn c (.code x k) fr H :=
 fun w a σ S hr => hk w a σ S (hr.slot hl h)
theorem zBI {q : Bool} {all : Array Oper} {rest : List Oper} (t : Nat) {v : AV} (y : AV) (hl : zAa t fr = some v) (h : AEq v y) (hk : Ax P fn c (.ops q all rest k) ((t, y) :: fr) H) : Ax P fn c (.ops q all rest k) fr H := by
 cases q with
 | true => exact fun hd w a σ S hr => hk hd w a σ S (hr.slot hl h)
 | false => exact fun hd w a σ S hr => hk hd w a σ S (hr.slot hl h)
end
/-- What a world's new blocks may hold, and the old ones as they were: a contract on plain values. -/
theorem zl.of_below {P : Program} {f : FuncId} {args : List AV} {r : AV} (hf : ∃ fn, P.funcs[f]? = some fn ∧ (fn.name == "runtime.NumGoroutine") = false ∧ fn.body.isNone = false) (hn : noRef.noRefs args = true) (hr : noRef r = true)
 (h : ∀ (w : World) (S : Nat → Prop) (vals : Array Value), Pins.G w S → (∀ b, S b → b < w.heap.size) → VRs w S (fun _ => none) args vals →
  Calls P f vals w (fun e w' => ∃ v, e = .returned v ∧ Below w.heap.size w w' ∧ VR w' (fun b => S b ∨ (w.heap.size ≤ b ∧ b < w'.heap.size)) (fun _ => none) r v)) : zl P f args r := by
 intro H
 refine ⟨hf, fun w σ S vals hp hrep hfx hv => ?_⟩
 refine (h w S vals hp.now hrep.small (hv.closed hn _)).mono ?_
 rintro e w' ⟨v, rfl, hb, hvr⟩
 have hold : ∀ b, b < w.heap.size → w'.heap[b]? = w.heap[b]? := fun b hb' => hb.block b hb'
 have hup : ∀ {σ1 : Nat → Option Blk} {x v}, VR w S σ1 x v → VR w' (fun b => S b ∨ (w.heap.size ≤ b ∧ b < w'.heap.size)) σ1 x v := fun h => h.mono (fun _ h => .inl h) (fun b hs => hold b (hrep.small b hs)) _ (fun _ _ h => h)
 refine ⟨v, r, σ, fun b => S b ∨ (w.heap.size ≤ b ∧ b < w'.heap.size), H, U, ⟨fun h o ho => ?_, hrep.dist, fun b hs => ?_, hrep.dom⟩, hvr.closed hr σ, ⟨hb.os, hb.output, hb.tape, hb.size, fun b hb' _ => hold b hb', fun b hs => .inl hs, fun b hs => ?_, fun _ _ => rfl, fun _ hl => hl, fun h o b s C h1 h2 => .inl ⟨h, o, s, C, h1, h2⟩⟩, U, U⟩
 ·rcases hrep.live h o ho with g | ⟨b, C, cur, g1, g2, g3, g4, g5, g6, g7⟩
  ·exact .inl g
  ·have hlt := g2.lt
   refine .inr ⟨b, C, cur, g1, g2.mono (hold b hlt) hup, g3, g4, g5, ?_, fun i j hi hj => ?_⟩
   ·rintro (hs | hs)
    ·exact g6 hs
    ·omega
   ·obtain ⟨v, e1, e2, e3⟩ := g7 i j hi hj
    exact ⟨v, e1, hup e2, e3⟩
 ·rcases hs with hs | hs
  ·exact Nat.lt_of_lt_of_le (hrep.small b hs) hb.size
  ·exact hs.2
 ·rcases hs with hs | hs
  ·exact .inl hs
  ·exact .inr (.inr hs.1)
end Go.Ax
namespace Go.Ax
variable [Pins]
open Go.RowKit
section
variable {ind : Bool} {P : Program} {fn : Func} {c : Ctx} {fr : Fr} {H : zP} {k : List It}
variable {d : Option Nat} {ty : TypeId} {pos : String} {after : Array Edge} {g : Option (Nat × Bool)}
/-- x[:h] -/
theorem zMI {x : Operand} {t e : TypeId} {lo hi : Option Operand} {lo' hi' : Option AV} {h' i n : Nat} {ob : AObj} {l h : Int} (ht : P.underlying t = some (.slice e)) (hx : ev fr x = some (.sl h' i n)) (hh : H[h']? = some (some ob)) (hs : (P.info? e).map (·.size) = some ob.c.sz)
 (h1 : evo fr lo = some lo') (h2 : evo fr hi = some hi') (h3 : zEp 0 lo' = some l) (h4 : zEp n hi' = some h) (hb : l = 0 ∧ 0 ≤ h ∧ h ≤ n) :
 QOp ind P fn c fr H ⟨d, .slice t x lo hi none, ty, pos, after, g⟩ (.sl h' i h.toNat) := by
 intro w a σ S hr
 have hxv := hr.evAt hx
 generalize hz : a.eval x = z at hxv
 obtain ⟨rfl, hb1, hb2⟩ := hb
 cases hxv with
 | sl0 _ _ hσ =>
  have h0 : h = 0 := by omega
  subst h0
  refine ⟨.slice none 0 0, .sl0 _ _ hσ, fun w' _ => ?_⟩
  have hbs := zBB (P := P) (w := w') (isS := true) (len := 0) (cap := 0) hr h1 h2 h3 h4 ⟨by omega, by omega, by omega⟩
  cases hq : P.info? e with
  | none => simp [hq] at hs
  | some inf => simp [execOp, hz, Instr.sliceAt, Instr.slice, run_underlying ht, hbs, sizeOf, typeInfo, hq]
 | sl _ _ _ _ b s C cap hσ hlen hcap =>
  obtain ⟨hs', cur, g1, g2, g3, g4, g5, g6⟩ := hr.obj hh hσ
  subst hs'
  refine ⟨.slice (some ⟨b, i * ob.c.sz, none⟩) h.toNat cap, .sl _ _ _ _ _ _ C _ hσ (by omega) (by omega), fun w' _ => ?_⟩
  have hbs := zBB (P := P) (w := w') (isS := true) (cap := cap) hr h1 h2 h3 h4 ⟨by omega, by omega, by omega⟩
  cases hq : P.info? e with
  | none => simp [hq] at hs
  | some inf => simp [execOp, hz, Instr.sliceAt, Instr.slice, run_underlying ht, hbs, sizeOf, typeInfo, hq, Addr.add_lit]
end
end Go.Ax
