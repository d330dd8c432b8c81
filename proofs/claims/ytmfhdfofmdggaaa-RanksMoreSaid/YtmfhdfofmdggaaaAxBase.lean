/-
  Abstract values, abstract memory, and how worlds represent them. Plain definitions and lemmas; no program in sight.
-/
import Derived.WalkKit
import Derived.Deep.Draws
import Derived.Deep.Quiet
set_option linter.unusedVariables false
set_option linter.unusedSimpArgs false
namespace Go.Ax

mutual
/-- An abstract value. -/
inductive AV where
  | int (k : IntKind) (n : Int)
  | bool (b : Bool)
  | str (s : List UInt8)
  | nil
  | ro (c : Cells) (i len : Nat)
  | sl (h i len : Nat)
  | rp (c : Cells) (i j : Nat)
  | ptr (h i j : Nat)
  | nilp
  | fn (f : FuncId) (cap : List AV)
  | nilfn
  | agg (l : List AV)
  | tup (l : List AV)
  | any
/-- What a row of memory holds. -/
inductive Cells where
  | ints (k : IntKind) (l : List Int)
  | strs (l : List (List UInt8))
  | box (l : List AV)
  | fn (n s : Nat) (f : Nat → Nat → AV)
end

def Cells.len : Cells → Nat
  | .ints _ l => l.length
  | .strs l => l.length
  | .box _ => 1
  | .fn n _ _ => n
def Cells.sz : Cells → Nat
  | .ints _ _ => 1
  | .strs _ => 1
  | .box l => l.length
  | .fn _ s _ => s
def Cells.at : Cells → Nat → Nat → AV
  | .ints k l, i, _ => .int k (l.getD i 0)
  | .strs l, i, _ => .str (l.getD i [])
  | .box l, _, j => l.getD j .any
  | .fn _ _ f, i, j => f i j

/-- An object of the abstract memory: its cells' type, and what it holds. -/
structure AObj where
  ty : TypeId
  c : Cells

abbrev AHeap := List (Option AObj)
abbrev Fr := List (Nat × AV)

/-- Where an object lies: a block and how many elements it has room for; or nowhere (a nil slice). -/
inductive Blk where
  | at (b s cap : Nat)
  | nowhere

def strV (s : List UInt8) : Value := .string ⟨s.toArray⟩

/-- The value that an abstract value stands for, in a world, with a region of blocks that stay as they are. -/
inductive VR (w : World) (S : Nat → Prop) : (Nat → Option Blk) → AV → Value → Prop
  | int (σ k n) : VR w S σ (.int k n) (.int k n)
  | bool (σ b) : VR w S σ (.bool b) (.bool b)
  | str (σ s) : VR w S σ (.str s) (strV s)
  | nil (σ) : VR w S σ .nil (.slice none 0 0)
  | ro0 (σ c i a cap) : VR w S σ (.ro c i 0) (.slice a 0 cap)
  | ro (σ c i len b o cap) (val : Nat → Nat → Value) (hS : S b) (hlen : len ≤ cap)
      (hc : ∀ d j, d < len → j < c.sz → w.cell? ⟨b, o + d * c.sz + j, none⟩ = some (val d j))
      (hv : ∀ d j, d < len → j < c.sz → VR w S (fun _ => none) (c.at (i + d) j) (val d j)) (h1 : ∀ d j, d < len → j < c.sz → (val d j).oneCell' = true) :
      VR w S σ (.ro c i len) (.slice (some ⟨b, o, none⟩) len cap)
  | sl (σ h i len b s C cap) (hσ : σ h = some (.at b s C)) (hlen : len ≤ cap) (hcap : i + cap = C) :
      VR w S σ (.sl h i len) (.slice (some ⟨b, i * s, none⟩) len cap)
  | sl0 (σ h) (hσ : σ h = some .nowhere) : VR w S σ (.sl h 0 0) (.slice none 0 0)
  | rp (σ c i j b o) (val : Nat → Value) (hS : S b)
      (hc : ∀ e, j + e < c.sz → w.cell? ⟨b, o + e, none⟩ = some (val e))
      (hv : ∀ e, j + e < c.sz → VR w S (fun _ => none) (c.at i (j + e)) (val e)) (h1 : ∀ e, j + e < c.sz → (val e).oneCell' = true) :
      VR w S σ (.rp c i j) (.pointer (some ⟨b, o, none⟩))
  | ptr (σ h i j b s C) (hσ : σ h = some (.at b s C)) : VR w S σ (.ptr h i j) (.pointer (some ⟨b, i * s + j, none⟩))
  | nilp (σ) : VR w S σ .nilp (.pointer none)
  | fn (σ f cap) (vs : Array Value) (hl : vs.size = cap.length) (hv : ∀ i, i < cap.length → VR w S σ (cap.getD i .any) (vs.getD i undef)) :
      VR w S σ (.fn f cap) (.func (.func f) #[] vs)
  | nilfn (σ) : VR w S σ .nilfn .nilFunc
  | agg (σ l) (vs : Array Value) (hl : vs.size = l.length) (hv : ∀ i, i < l.length → VR w S σ (l.getD i .any) (vs.getD i undef)) (h1 : ∀ i, i < l.length → (vs.getD i undef).oneCell' = true) :
      VR w S σ (.agg l) (.agg vs)
  | tup (σ l) (vs : Array Value) (hl : vs.size = l.length) (hv : ∀ i, i < l.length → VR w S σ (l.getD i .any) (vs.getD i undef)) :
      VR w S σ (.tup l) (.tuple vs)
  | any (σ v) : VR w S σ .any v

/-- A later world, a larger region, more objects: a value that was represented still is. -/
theorem VR.mono {w w' : World} {S S' : Nat → Prop} (hS : ∀ b, S b → S' b) (hb : ∀ b, S b → w'.heap[b]? = w.heap[b]?) {σ : Nat → Option Blk} {x : AV} {v : Value}
    (h : VR w S σ x v) : ∀ σ', (∀ h B, σ h = some B → σ' h = some B) → VR w' S' σ' x v := by
  have hcell : ∀ b o, S b → w'.cell? ⟨b, o, none⟩ = w.cell? ⟨b, o, none⟩ := fun b o hs => World.cell?_of_block (hb b hs)
  induction h with
  | int => intros; constructor
  | bool => intros; constructor
  | str => intros; constructor
  | nil => intros; constructor
  | ro0 => intros; constructor
  | ro σ c i len b o cap val hSb hlen hc hv h1 ih =>
    intro σ' hσ
    refine .ro _ _ _ _ _ _ _ val (hS _ hSb) hlen (fun d j hd hj => by rw [hcell _ _ hSb]; exact hc d j hd hj) (fun d j hd hj => ih d j hd hj _ (fun _ _ h => h)) h1
  | sl σ h i len b s C cap hσh hlen hcap => intro σ' hσ; exact .sl _ _ _ _ _ _ _ _ (hσ _ _ hσh) hlen hcap
  | sl0 σ h hσh => intro σ' hσ; exact .sl0 _ _ (hσ _ _ hσh)
  | rp σ c i j b o val hSb hc hv h1 ih =>
    intro σ' hσ
    exact .rp _ _ _ _ _ _ val (hS _ hSb) (fun e he => by rw [hcell _ _ hSb]; exact hc e he) (fun e he => ih e he _ (fun _ _ h => h)) h1
  | ptr σ h i j b s C hσh => intro σ' hσ; exact .ptr _ _ _ _ _ _ _ (hσ _ _ hσh)
  | nilp => intros; constructor
  | fn σ f cap vs hl hv ih => intro σ' hσ; exact .fn _ _ _ _ hl (fun i hi => ih i hi _ hσ)
  | nilfn => intros; constructor
  | agg σ l vs hl hv h1 ih => intro σ' hσ; exact .agg _ _ _ hl (fun i hi => ih i hi _ hσ) h1
  | tup σ l vs hl hv ih => intro σ' hσ; exact .tup _ _ _ hl (fun i hi => ih i hi _ hσ)
  | any => intros; constructor

/-- The abstract memory is represented. -/
structure HR (w : World) (S : Nat → Prop) (σ : Nat → Option Blk) (H : AHeap) : Prop where
  live : ∀ h o, H[h]? = some (some o) →
    (σ h = some .nowhere ∧ o.c.len = 0) ∨
    ∃ b C cur, σ h = some (.at b o.c.sz C) ∧ w.heap[b]? = some (.cells cur o.ty (0, 0)) ∧ cur.size = C * o.c.sz ∧ C ≤ maxLen ∧ o.c.len ≤ C ∧ ¬ S b ∧
      ∀ i j, i < o.c.len → j < o.c.sz → ∃ v, cur[i * o.c.sz + j]? = some v ∧ VR w S σ (o.c.at i j) v ∧ v.oneCell' = true
  dist : ∀ h h' o o' b s C s' C', H[h]? = some (some o) → H[h']? = some (some o') → σ h = some (.at b s C) → σ h' = some (.at b s' C') → h = h'
  small : ∀ b, S b → b < w.heap.size
  dom : ∀ h, H.length ≤ h → σ h = none
