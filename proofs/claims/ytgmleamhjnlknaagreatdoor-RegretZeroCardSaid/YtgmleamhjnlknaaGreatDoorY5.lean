import Derived.Laws.Bits64
import Derived.Test.YtgmleamhjnlknaaGreatDoorRows
import Derived.Test.YtgmleamhjnlknaaGreatDoorTie
import Derived.Test.YtgmleamhjnlknaaGreatDoorCards
import Derived.LaidMore
import Derived.Lay
import Derived.SevenTiedAt
import Derived.Stop.Joined
import Derived.Stop.ErrReads
import Derived.MakeChecks
import Derived.Test.YtgmleamhjnlknaaGreatDoorY4
set_option linter.unusedVariables false
set_option linter.unusedSimpArgs false
/-
  A function proved over an empty memory, called over another one: all that it made is the caller's.
-/
namespace Go.Ax
variable [Pins]
open Go.RowKit

mutual
/-- The objects stand behind N others. -/
def AV.shift (N : Nat) : AV → AV
  | .sl h i n => .sl (h + N) i n
  | .ptr h i j => .ptr (h + N) i j
  | .fn f l => .fn f (AV.shifts N l)
  | .agg l => .agg (AV.shifts N l)
  | .tup l => .tup (AV.shifts N l)
  | .mp h => .mp (h + N)
  | v => v
def AV.shifts (N : Nat) : List AV → List AV
  | [] => []
  | v :: r => v.shift N :: AV.shifts N r
end
theorem length_shifts (N : Nat) (l : List AV) : (AV.shifts N l).length = l.length := by
  have _pin := (inferInstance : Pins)
  induction l with
  | nil => rfl
  | cons v r ih => simp [AV.shifts, ih]
theorem getD_shifts (N : Nat) (l : List AV) (i : Nat) (hi : i < l.length) : (AV.shifts N l).getD i .any = (l.getD i .any).shift N := by
  have _pin := (inferInstance : Pins)
  induction l generalizing i with
  | nil => simp at hi
  | cons v r ih => cases i with
    | zero => rfl
    | succ i => simpa [AV.shifts] using ih i (by simpa using hi)
theorem VR.shift {w : World} {S : Nat → Prop} {σ : Nat → Option Blk} {x : AV} {v : Value} {N : Nat} (hv : VR w S σ x v) : ∀ σ' : Nat → Option Blk, (∀ h B, σ h = some B → σ' (h + N) = some B) → VR w S σ' (x.shift N) v := by
  induction hv with
  | int => intros; constructor
  | bool => intros; constructor
  | str => intros; constructor
  | nil => intros; constructor
  | ro0 => intros; constructor
  | ro σ c i len b o cap val hSb hlen hc hv h1 ih => intro σ' _; exact .ro _ _ _ _ _ _ _ val hSb hlen hc hv h1
  | sl σ h' i len b s C cap hσ hlen hcap => intro σ' hs; exact .sl _ _ _ _ _ _ _ _ (hs _ _ hσ) hlen hcap
  | sl0 σ h' hσ => intro σ' hs; exact .sl0 _ _ (hs _ _ hσ)
  | rp σ c i j b o val hSb hc hv h1 ih => intro σ' _; exact .rp _ _ _ _ _ _ val hSb hc hv h1
  | ptr σ h' i j b s C hσ => intro σ' hs; exact .ptr _ _ _ _ _ _ _ (hs _ _ hσ)
  | nilp => intros; constructor
  | fn σ f cap vs hl hv ih => intro σ' hs; exact .fn _ _ _ _ (by rw [length_shifts]; exact hl) (fun i hi => by rw [length_shifts] at hi; rw [getD_shifts N cap i hi]; exact ih i hi σ' hs)
  | nilfn => intros; constructor
  | iface => intros; constructor
  | nilif => intros; constructor
  | agg σ l vs hl hv h1 ih => intro σ' hs; exact .agg _ _ _ (by rw [length_shifts]; exact hl) (fun i hi => by rw [length_shifts] at hi; rw [getD_shifts N l i hi]; exact ih i hi σ' hs) (fun i hi => h1 i (by rwa [length_shifts] at hi))
  | tup σ l vs hl hv ih => intro σ' hs; exact .tup _ _ _ (by rw [length_shifts]; exact hl) (fun i hi => by rw [length_shifts] at hi; rw [getD_shifts N l i hi]; exact ih i hi σ' hs)
  | mp σ h' b hσ => intro σ' hs; exact .mp _ _ _ (hs _ _ hσ)
  | rom σ ks vs b es clock e hSb hb hn hl hd he hk hv => intro σ' hs; exact .rom _ _ _ b es clock e hSb hb hn hl hd he hk hv
  | any => intros; constructor
def Cells.shift (N : Nat) : Cells → Cells
  | .ints k l => .ints k l
  | .strs l => .strs l
  | .box l => .box (AV.shifts N l)
  | .mp ks vs => .mp (AV.shifts N ks) (AV.shifts N vs)
  | .fn n s f => .fn n s (fun i j => (f i j).shift N)
theorem Cells.shift_len (N : Nat) (c : Cells) : (c.shift N).len = c.len := by have _pin := (inferInstance : Pins); cases c <;> rfl
theorem Cells.shift_sz (N : Nat) (c : Cells) : (c.shift N).sz = c.sz := by
  cases c <;> first | rfl | exact length_shifts _ _
theorem Cells.shift_at (N : Nat) (c : Cells) (i j : Nat) (hj : j < c.sz) : (c.shift N).at i j = (c.at i j).shift N := by
  cases c with
  | box l => exact getD_shifts N l j hj
  | _ => rfl
def shiftO (N : Nat) : Option AObj → Option AObj
  | some o => some ⟨o.ty, o.c.shift N⟩
  | none => none
def shiftH (N : Nat) : AHeap → AHeap
  | [] => []
  | o :: r => shiftO N o :: shiftH N r
theorem shiftH_get (N : Nat) (H : AHeap) (i : Nat) : (shiftH N H)[i]? = (H[i]?).map (shiftO N) := by
  have _pin := (inferInstance : Pins)
  induction H generalizing i with
  | nil => simp [shiftH]
  | cons o r ih => cases i with
    | zero => simp [shiftH]
    | succ i => simpa [shiftH] using ih i
theorem shiftH_length (N : Nat) (H : AHeap) : (shiftH N H).length = H.length := by
  have _pin := (inferInstance : Pins)
  induction H with
  | nil => rfl
  | cons o r ih => simp [shiftH, ih]
theorem Lays.shift {w : World} {S : Nat → Prop} {σ σ' : Nat → Option Blk} {t : TypeId} {c : Cells} {b : Nat} {cur : Array Value} {C : Nat} {N : Nat} (hs : ∀ h B, σ h = some B → σ' (h + N) = some B)
    (hL : Lays w S σ ⟨t, c⟩ b cur C) : Lays w S σ' ⟨t, c.shift N⟩ b cur C := by
  have _pin := (inferInstance : Pins)
  cases hL with
  | row mk h hm hC => exact .row mk h hm hC
  | map ks vs es clock hc hC h hn hl hd he =>
    simp only at hc
    subst hc
    exact .map _ _ es clock rfl hC h (by rw [length_shifts]; exact hn) (by rw [length_shifts, length_shifts]; exact hl) hd (fun i hi => by
      rw [length_shifts] at hi
      obtain ⟨e, e1, e2, e3⟩ := he i hi
      exact ⟨e, e1, by rw [getD_shifts _ _ _ hi]; exact e2.shift σ' hs, by rw [getD_shifts _ _ _ (by omega)]; exact e3.shift σ' hs⟩)
def joinσ (N : Nat) (σ σ0 : Nat → Option Blk) (h : Nat) : Option Blk := if h < N then σ h else σ0 (h - N)
theorem joinσ_back {N : Nat} {σ σ0 : Nat → Option Blk} : ∀ h B, σ0 h = some B → joinσ N σ σ0 (h + N) = some B := by
  have _pin := (inferInstance : Pins)
  intro h B hB
  unfold joinσ
  rw [if_neg (by omega), Nat.add_sub_cancel]; exact hB
theorem HR.join {w : World} {S : Nat → Prop} {σ σ0 : Nat → Option Blk} {H H0 : AHeap} (h : HR w S σ H) (h0 : HR w S σ0 H0)
    (hd : ∀ h h' o o' b s C s' C', H[h]? = some (some o) → H0[h']? = some (some o') → σ h = some (.at b s C) → σ0 h' = some (.at b s' C') → False) :
    HR w S (joinσ H.length σ σ0) (H ++ shiftH H.length H0) := by
  have hfr : ∀ h B, σ h = some B → joinσ H.length σ σ0 h = some B := by
    intro h' B hB
    unfold joinσ
    split
    · exact hB
    · rename_i hl; rw [h.dom h' (by omega)] at hB; cases hB
  have hcase : ∀ h' o', (H ++ shiftH H.length H0)[h']? = some (some o') → (h' < H.length ∧ H[h']? = some (some o')) ∨ (H.length ≤ h' ∧ ∃ o, H0[h' - H.length]? = some (some o) ∧ o' = ⟨o.ty, o.c.shift H.length⟩) := by
    intro h' o' ho
    by_cases he : h' < H.length
    · rw [List.getElem?_append_left he] at ho; exact .inl ⟨he, ho⟩
    · rw [List.getElem?_append_right (by omega), shiftH_get] at ho
      cases e : H0[h' - H.length]? with
      | none => rw [e] at ho; cases ho
      | some x =>
        rw [e] at ho
        cases x with
        | none => simp [shiftO] at ho
        | some o => simp [shiftO] at ho; exact .inr ⟨by omega, o, rfl, ho.symm⟩
  refine ⟨fun h' o' ho => ?_, fun h1 h2 o1 o2 b s C s' C' q1 q2 e1 e2 => ?_, h.small, fun h' hl => ?_⟩
  · rcases hcase h' o' ho with ⟨hl, ho'⟩ | ⟨hl, o, ho', rfl⟩
    · rcases h.live h' o' ho' with ⟨h1, h2⟩ | ⟨b, C, cur, h1, h2, h3, h4, h5, h6, h7⟩
      · exact .inl ⟨hfr _ _ h1, h2⟩
      · refine .inr ⟨b, C, cur, hfr _ _ h1, h2.mono rfl (fun hv => hv.mono (fun _ h => h) (fun _ _ => rfl) _ hfr), h3, h4, h5, h6, fun i j hi hj => ?_⟩
        obtain ⟨v, e1, e2, e3⟩ := h7 i j hi hj
        exact ⟨v, e1, e2.mono (fun _ h => h) (fun _ _ => rfl) _ hfr, e3⟩
    · have hj : joinσ H.length σ σ0 h' = σ0 (h' - H.length) := by unfold joinσ; rw [if_neg (by omega)]
      rw [hj]
      rcases h0.live _ o ho' with ⟨h1, h2⟩ | ⟨b, C, cur, h1, h2, h3, h4, h5, h6, h7⟩
      · exact .inl ⟨h1, by rw [Cells.shift_len]; exact h2⟩
      · refine .inr ⟨b, C, cur, by rw [Cells.shift_sz]; exact h1, Lays.shift joinσ_back h2, by rw [Cells.shift_sz]; exact h3, h4, by rw [Cells.shift_len]; exact h5, h6, fun i j hi hj => ?_⟩
        rw [Cells.shift_len] at hi
        rw [Cells.shift_sz] at hj ⊢
        obtain ⟨v, e1, e2, e3⟩ := h7 i j hi hj
        exact ⟨v, e1, by rw [Cells.shift_at _ _ _ _ hj]; exact e2.shift _ joinσ_back, e3⟩
  · rcases hcase h1 o1 q1 with ⟨l1, r1⟩ | ⟨l1, x1, r1, rfl⟩ <;> rcases hcase h2 o2 q2 with ⟨l2, r2⟩ | ⟨l2, x2, r2, rfl⟩
    · unfold joinσ at e1 e2
      rw [if_pos l1] at e1
      rw [if_pos l2] at e2
      exact h.dist h1 h2 o1 o2 b s C s' C' r1 r2 e1 e2
    · unfold joinσ at e1 e2
      rw [if_pos l1] at e1
      rw [if_neg (by omega)] at e2
      exact (hd _ _ _ _ _ _ _ _ _ r1 r2 e1 e2).elim
    · unfold joinσ at e1 e2
      rw [if_neg (by omega)] at e1
      rw [if_pos l2] at e2
      exact (hd _ _ _ _ _ _ _ _ _ r2 r1 e2 e1).elim
    · unfold joinσ at e1 e2
      rw [if_neg (by omega)] at e1 e2
      have := h0.dist _ _ x1 x2 b s C s' C' r1 r2 e1 e2
      omega
  · rw [List.length_append, shiftH_length] at hl
    unfold joinσ
    rw [if_neg (by omega)]
    exact h0.dom _ (by omega)
/-- All that a function makes belongs to its caller. -/
theorem ACall.lift {P : Program} {f : FuncId} {args : List AV} {fix : Nat → Prop} {K K' : AV → AHeap → Prop} {H : AHeap} (hc : ACall P f args [] fix K) (hfx : ∀ h, ¬ fix h) (hn : noRef.noRefs args = true)
    (hK : ∀ (r0 : AV) (H0 : AHeap), K r0 H0 → K' (r0.shift H.length) (H ++ shiftH H.length H0)) : ACall P f args H (fun h => h < H.length) K' := by
  refine ⟨hc.1, fun w σ S vals hp hr hf hv => ?_⟩
  have hp0 : PinUp w S (fun _ => none) [] := hp.less (fun _ h => h) (fun _ h => h.nil)
  refine (hc.2 w (fun _ => none) S vals hp0 hr.empty (fun h hh => absurd hh (hfx h)) (hv.closed hn _)).mono ?_
  rintro e w' ⟨v, r0, σ', S', H0, rfl, g1, g2, g3, g4⟩
  obtain ⟨a1, a2⟩ := HR.after hr g1 g3
  have a3 := a2 K' hp
  have hno : ∀ b, ¬ Owned (fun _ => none) [] b := by rintro b ⟨h, o, s, C, h1, _⟩; simp at h1
  have hlto : ∀ h o b s C, H[h]? = some (some o) → σ h = some (.at b s C) → b < w.heap.size := by
    intro h o b s C ho hb
    rcases hr.live h o ho with ⟨hn, _⟩ | ⟨b', C', cur, hσ', g, _⟩
    · rw [hb] at hn; cases hn
    · rw [hb] at hσ'
      simp only [Option.some.injEq, Blk.at.injEq] at hσ'
      rw [hσ'.1]
      exact g.lt
  have hnew : ∀ h o b s C, H0[h]? = some (some o) → σ' h = some (.at b s C) → w.heap.size ≤ b := by
    intro h o b s C ho hb
    rcases g3.own h o b s C ho hb with h3 | h3
    · exact absurd h3 (hno b)
    · exact h3
  have hj := a1.join g1 (fun h h' o o' b s C s' C' q1 q2 e1 e2 => by
    have := hlto h o b s C q1 e1
    have := hnew h' o' b s' C' q2 e2
    omega)
  refine ⟨v, _, _, S', _, rfl, hj, g2.shift _ joinσ_back, ⟨a3.os, a3.output, a3.tape, a3.size, a3.block, a3.S1, a3.S2, fun h hl => ?_, fun h hl => ?_, fun h o b s C ho hb => ?_⟩, hK r0 H0 g4⟩
  · have hl : h < H.length := hl
    show joinσ H.length σ σ' h = σ h
    unfold joinσ; rw [if_pos hl]
  · have hl : h < H.length := hl
    rw [List.length_append]; omega
  · by_cases he : h < H.length
    · rw [List.getElem?_append_left he] at ho
      unfold joinσ at hb
      rw [if_pos he] at hb
      exact .inl ⟨h, o, s, C, ho, hb⟩
    · rw [List.getElem?_append_right (by omega), shiftH_get] at ho
      unfold joinσ at hb
      rw [if_neg he] at hb
      cases e : H0[h - H.length]? with
      | none => rw [e] at ho; cases ho
      | some x =>
        rw [e] at ho
        cases x with
        | none => simp [shiftO] at ho
        | some o' => exact .inr (hnew _ o' b s C e hb)
/-- A contract on a function that makes several objects: they are the caller's. -/
def MCall (P : Program) (f : FuncId) (args : List AV) (r : AV) (H0 : AHeap) : Prop := ∀ H, ACall P f args H (fun h => h < H.length) (fun r' H' => r' = r.shift H.length ∧ H' = H ++ shiftH H.length H0)
theorem ACall.many {P : Program} {f : FuncId} {args : List AV} {fix : Nat → Prop} {r : AV} {H0 : AHeap} (hc : ACall P f args [] fix (fun r' H' => r' = r ∧ H' = H0)) (hfx : ∀ h, ¬ fix h) (hn : noRef.noRefs args = true) : MCall P f args r H0 := fun H =>
  hc.lift hfx hn (fun r0 H1 h => by obtain ⟨rfl, rfl⟩ := h; exact ⟨rfl, rfl⟩)
section
variable {P : Program} {fn : Func} {c : Ctx} {fr : Fr} {H : AHeap} {k : List It} {all : Array Oper} {d : Nat} {g : Operand} {args : List Operand} {ats : Array TypeId} {ty : TypeId} {pos : String} {after : Array Edge} {rest : List Oper} {f : FuncId}
/-- A call that makes several objects. -/
theorem ax_calls {caps ags ags' : List AV} {r : AV} {H0 : AHeap} (r' : AV) (H' : AHeap) (hg : ev fr g = some (.fn f caps)) (ha : evs fr args = some ags) (has : ags ++ caps = ags') (hcall : MCall P f ags' r H0) (hr : r.shift H.length = r') (hH : H ++ shiftH H.length H0 = H')
    (hk : Ax P fn c (.ops false all rest k) ((d, r') :: fr) H') : Ax P fn c (.ops false all (⟨some d, .call { callee := .value g, args := args.toArray, argTypes := ats }, ty, pos, after, none⟩ :: rest) k) fr H :=
  ax_call hg ha has (hcall H) (fun _ h => h) (fun _ h => h) (fun r1 H1 h => by obtain ⟨rfl, rfl⟩ := h; subst hr; subst hH; exact hk)
end
mutual
theorem noRef_shift : ∀ (x : AV), noRef x = true → ∀ N, x.shift N = x
  | .int _ _, _, _ => rfl
  | .bool _, _, _ => rfl
  | .str _, _, _ => rfl
  | .nil, _, _ => rfl
  | .ro _ _ _, _, _ => rfl
  | .sl _ _ _, h, _ => by simp [noRef] at h
  | .rp _ _ _, _, _ => rfl
  | .ptr _ _ _, h, _ => by simp [noRef] at h
  | .nilp, _, _ => rfl
  | .fn f l, h, N => by
    have _pin := (inferInstance : Pins)
    simp only [AV.shift]; rw [noRefs_shift l (by simpa [noRef] using h) N]
  | .nilfn, _, _ => rfl
  | .iface, _, _ => rfl
  | .nilif, _, _ => rfl
  | .agg l, h, N => by simp only [AV.shift]; rw [noRefs_shift l (by simpa [noRef] using h) N]
  | .tup l, h, N => by simp only [AV.shift]; rw [noRefs_shift l (by simpa [noRef] using h) N]
  | .mp _, h, _ => by simp [noRef] at h
  | .rom _ _, _, _ => rfl
  | .any, _, _ => rfl
theorem noRefs_shift : ∀ (l : List AV), noRef.noRefs l = true → ∀ N, AV.shifts N l = l
  | [], _, _ => rfl
  | v :: r, h, N => by
    have _pin := (inferInstance : Pins)
    simp only [noRef.noRefs, Bool.and_eq_true] at h
    simp only [AV.shifts]
    rw [noRef_shift v h.1 N, noRefs_shift r h.2 N]
end
end Go.Ax

/-
  Solutions and determinants, on texts. No program in sight.
-/
namespace Go.Ax.Rt
open Go.Ax.Bg Go.Ax.Dt

theorem dig_D {k : Nat} {q : Rat} (h1 : (Lib.decDigits q.num.natAbs).length ≤ k) (h2 : (Lib.decDigits q.den).length ≤ k) : D k q :=
  ⟨Nat.lt_of_lt_of_le (digits_lt _) (Nat.pow_le_pow_right (by decide) h1), Nat.lt_of_lt_of_le (digits_lt _) (Nat.pow_le_pow_right (by decide) h2)⟩
theorem valid_in {m : List (List Text)} (h : matE m = 0) : ∀ r ∈ inM m, r.length = widM m ∧ ∀ q ∈ r, D 2000 q := by
  have hM := matE_zero h
  intro r hr
  refine ⟨inM_cols hM r hr, ?_⟩
  obtain ⟨x, hx, rfl⟩ := List.mem_map.1 hr
  intro q hq
  obtain ⟨s, hs, rfl⟩ := List.mem_map.1 hq
  have hf := (IsQ.self (hM.ok x hx s hs)).fit
  unfold fitB at hf
  rw [Bool.and_eq_true, decide_eq_true_eq, decide_eq_true_eq] at hf
  exact dig_D hf.1 hf.2
end Go.Ax.Rt

namespace Go.Proofs.YtgmleamhjnlknaaGreatDoor
open Go.Ax Go.Ax.Bg Go.Ax.Rt Go.RowKit Go.Ax.Idx Go.Ax.Cd
attribute [local irreducible] Ax Post QOp ACall PureOp
set_option maxRecDepth 100000
set_option maxHeartbeats 4000000

def bothA (p : (List Text × List Text) × Int) : AV := .tup [.ro (.strs p.1.1) 0 p.1.1.length, .ro (.strs p.1.2) 0 p.1.2.length, .int .i64 p.2]
theorem both_ok (a b : List Rat) (hla : a.length ≤ 1000000) (hlb : b.length ≤ 1000000) (ha : ∀ q ∈ a, Sz 100000 q) (hb : ∀ q ∈ b, Sz 100000 q) : VCall Tryz.prog 83 [.ro (qsC a) 0 a.length, .ro (qsC b) 0 b.length] (bothA (bothR a b)) := by
  have two : ∀ x : List Rat, ¬ (outAllF x).2 = 0 → (outAllF x).2 = 2 := fun x h => by
    unfold outAllF at h ⊢
    split at h
    · exact absurd rfl h
    · rename_i g; rw [if_neg g]
  have yes : ∀ x : List Rat, (outAllF x).2 = 0 → (outAllF x).1 = x.map textQ := fun x h => by
    unfold outAllF at h ⊢
    split at h
    · rename_i g; rw [if_pos g]
    · cases h
  obtain ⟨r1, c1, e1⟩ := outAll_ok a hla ha
  obtain ⟨r2, c2, e2⟩ := outAll_ok b hlb hb
  refine ACall.value0 (acall_of_ax (P := Tryz.prog) (fn := Tryz.f83) rfl rfl (by kernel_rfl) rfl (fun c hR hfix => ?_)) (fix := fun _ => False) (fun _ h => h) rfl rfl
  repeat (first
    | refine ax_q (q_move rfl) ?_
    | refine ax_q (q_assign rfl) ?_
    | refine ax_ops_nil ?_
    | refine ax_post_code ?_
    | refine ax_seq ?_
    | refine ax_region rfl ?_)
  refine ax_callv rfl rfl rfl c1 ?_
  repeat (first
    | refine ax_q (q_move rfl) ?_
    | refine ax_q (q_assign rfl) ?_
    | refine ax_ops_nil ?_
    | refine ax_post_code ?_
    | refine ax_seq ?_
    | refine ax_region rfl ?_
    | refine ax_q (q_neq rfl rfl) ?_
    | refine ax_q (q_extract rfl rfl) ?_)
  refine ax_cond_dec rfl (fun h1 => ?_) (fun h1 => ?_)
  · have e : bothR a b = (([], []), (outAllF a).2) := by unfold bothR; rw [if_pos h1, two a h1]
    rw [e] at hR
    repeat (first
      | refine ax_q (q_move rfl) ?_
      | refine ax_q (q_assign rfl) ?_
      | refine ax_ops_nil ?_
      | refine ax_post_code ?_
      | refine ax_seq ?_
      | refine ax_region rfl ?_)
    refine ax_slot 4 (.ro (.strs []) 0 0) rfl AEq.nil ?_
    refine ax_slot 5 (.ro (.strs []) 0 0) rfl AEq.nil ?_
    repeat (first
      | refine ax_return ?_
      | refine ax_ret_code ?_)
    exact ax_ret hR rfl rfl
  have h1' := Classical.not_not.1 h1
  repeat (first
    | refine ax_q (q_move rfl) ?_
    | refine ax_post_code ?_
    | refine ax_seq ?_
    | refine ax_region rfl ?_
    | refine ax_skip ?_)
  refine ax_callv rfl rfl rfl c2 ?_
  repeat (first
    | refine ax_q (q_move rfl) ?_
    | refine ax_q (q_assign rfl) ?_
    | refine ax_ops_nil ?_
    | refine ax_post_code ?_
    | refine ax_seq ?_
    | refine ax_region rfl ?_
    | refine ax_q (q_neq rfl rfl) ?_
    | refine ax_q (q_extract rfl rfl) ?_)
  refine ax_cond_dec rfl (fun h2 => ?_) (fun h2 => ?_)
  · have e : bothR a b = (([], []), (outAllF b).2) := by unfold bothR; rw [if_neg h1, if_pos h2, two b h2]
    rw [e] at hR
    repeat (first
      | refine ax_q (q_move rfl) ?_
      | refine ax_q (q_assign rfl) ?_
      | refine ax_ops_nil ?_
      | refine ax_post_code ?_
      | refine ax_seq ?_
      | refine ax_region rfl ?_)
    refine ax_slot 4 (.ro (.strs []) 0 0) rfl AEq.nil ?_
    refine ax_slot 5 (.ro (.strs []) 0 0) rfl AEq.nil ?_
    repeat (first
      | refine ax_return ?_
      | refine ax_ret_code ?_)
    exact ax_ret hR rfl rfl
  have h2' := Classical.not_not.1 h2
  have e : bothR a b = ((a.map textQ, b.map textQ), 0) := by unfold bothR; rw [if_neg h1, if_neg h2]
  rw [e] at hR
  rw [yes a h1'] at e1
  rw [yes b h2'] at e2
  repeat (first
    | refine ax_q (q_move rfl) ?_
    | refine ax_q (q_assign rfl) ?_
    | refine ax_ops_nil ?_
    | refine ax_post_code ?_
    | refine ax_seq ?_
    | refine ax_region rfl ?_
    | refine ax_skip ?_)
  refine ax_slot 4 (.ro (.strs (a.map textQ)) 0 (a.map textQ).length) rfl e1 ?_
  refine ax_slot 5 (.ro (.strs (b.map textQ)) 0 (b.map textQ).length) rfl e2 ?_
  repeat (refine ax_return ?_)
  exact ax_ret hR rfl rfl
theorem cntQ_D3 (f : Int × Int → Int) (l : Hist) (n : Nat) (hl : l.length ≤ 200) : ∀ q ∈ cntQ f l n, D 3 q := by
  intro q hq
  obtain ⟨i, _, rfl⟩ := List.mem_map.1 hq
  have h := cnt_len_le f l i
  refine ⟨?_, ?_⟩
  · show ((cnt f l i : Nat) : Rat).num.natAbs < _
    rw [← Rat.intCast_natCast]
    show ((cnt f l i : Nat) : Int).natAbs < _
    rw [Int.natAbs_natCast]; omega
  · rw [← Rat.intCast_natCast]
    show 1 < _
    decide
theorem sums_ok (m : List (List Text)) (l : Hist) (hE : histE m l = 0) (hr : ∀ r ∈ m, r.length ≤ 9223372036854775807 ∧ ∀ s ∈ r, s.length ≤ 9223372036854775807) :
    MCall Tryz.prog 81 [.ro (rowsT m) 0 m.length, .ro (pairsC l) 0 l.length] (.tup [.sl 0 0 m.length, .sl 1 0 (widM m)]) [some ⟨108, qsC (rowsS (inM m) l (widM m))⟩, some ⟨108, qsC (colsS (inM m) l (widM m))⟩] := by
  obtain ⟨hg, hl, hin⟩ := histE_zero hE
  obtain ⟨g1, g2, g3, g4, g5⟩ := gameE_zero hg
  have cc := counts_ok m l g2 g5 g4 hl hin
  have hM := matE_zero g1
  have hv := valid_in g1
  have nm := min_ok m (by omega) (fun r h => ⟨by have := hM.cols r h; omega, fun s hs => ⟨(hr r h).2 s hs, hM.ok r h s hs⟩⟩)
  have nc := cols_ok (inM m) (widM m) (by rw [inM_len]; omega) (by omega) (fun r h => (hv r h).1)
  rw [inM_len] at nc
  have hm1 : 0 < m.length := by cases m with | nil => exact absurd rfl g5 | cons _ _ => exact Nat.succ_pos _
  have hwd : (m.getD 0 []).length = widM m := rfl
  have hcl := colsQ_len (inM m) (widM m)
  have hml0 := inM_len m
  have hcd : ∀ c ∈ colsQ (inM m) (widM m), c.length = m.length ∧ ∀ q ∈ c, D 2000 q := fun c hc => by
    obtain ⟨k, hk, rfl⟩ := List.mem_map.1 hc
    refine ⟨by rw [colQ_len, hml0], fun q hq => ?_⟩
    obtain ⟨r, hr, rfl⟩ := List.mem_map.1 hq
    have hk' : k < r.length := by rw [(hv r hr).1]; simpa using hk
    exact (hv r hr).2 _ (get_in 0 hk')
  have d1 := cntQ_D3 Prod.fst l m.length hl
  have d2 := cntQ_D3 Prod.snd l (widM m) hl
  have n1 := cntQ_len Prod.fst l m.length
  have n2 := cntQ_len Prod.snd l (widM m)
  have er : rowsS (inM m) l (widM m) = (inM m).map (fun r => dotQ r (cntQ Prod.snd l (widM m))) := rfl
  have ec : colsS (inM m) l (widM m) = (colsQ (inM m) (widM m)).map (fun c => dotQ c (cntQ Prod.fst l m.length)) := by unfold colsS; rw [hml0]
  rw [er, ec]
  refine ACall.many (acall_of_ax (P := Tryz.prog) (fn := Tryz.f81) rfl rfl (by kernel_rfl) rfl (fun c hR hfix => ?_)) (fix := fun _ => False) (fun _ h => h) rfl
  generalize cntQ Prod.fst l m.length = A at *
  generalize cntQ Prod.snd l (widM m) = B at *
  generalize colsQ (inM m) (widM m) = C at *
  generalize inM m = M at *
  repeat (first
    | refine ax_q (q_move rfl) ?_
    | refine ax_q (q_assign rfl) ?_
    | refine ax_ops_nil ?_
    | refine ax_post_code ?_
    | refine ax_seq ?_
    | refine ax_region rfl ?_)
  refine ax_callv rfl rfl rfl cc ?_
  repeat (first
    | refine ax_q (q_move rfl) ?_
    | refine ax_q (q_assign rfl) ?_
    | refine ax_ops_nil ?_
    | refine ax_post_code ?_
    | refine ax_seq ?_
    | refine ax_region rfl ?_
    | refine ax_q (q_extract rfl rfl) ?_)
  refine ax_callv rfl rfl rfl nm ?_
  repeat (first
    | refine ax_q (q_move rfl) ?_
    | refine ax_q (q_assign rfl) ?_
    | refine ax_ops_nil ?_
    | refine ax_post_code ?_
    | refine ax_seq ?_
    | refine ax_region rfl ?_
    | refine ax_q (q_len rfl rfl rfl) ?_)
  refine ax_nilobj 9 ⟨108, qsC []⟩ rfl rfl ?_
  repeat (refine ax_block ?_)
  refine ax_loop (ι := Nat) (fun k => [(0, .ro (rowsT m) 0 m.length), (6, .ro (qsC A) 0 m.length), (7, .ro (qsC B) 0 (widM m)), (8, .ro (rowsQ M) 0 m.length), (9, .sl 0 0 k), (10, .nil), (23, .ro (rowsQ M) 0 m.length), (24, .int .i64 (m.length : Nat)), (25, .int .i64 (k : Nat))]) (fun k => [some ⟨108, qsC ((M.take k).map (fun r => dotQ r B))⟩])
    (fun k => k ≤ M.length) (fun k => M.length - k) 0 ⟨⟨rfl, rfl, rfl, rfl, rfl, rfl, rfl, rfl, rfl, trivial⟩, rfl, Nat.zero_le _⟩ ?_
  intro k hk
  repeat (first
    | refine ax_ops_nil ?_
    | refine ax_post_code ?_
    | refine ax_seq ?_
    | refine ax_region rfl ?_
    | refine ax_q (q_lss rfl rfl) ?_)
  refine ax_cond_dec rfl (fun h => ?_) (fun h => ?_)
  · have hk' : k < M.length := by omega
    obtain ⟨rl, rd⟩ := hv _ (get_in [] hk')
    have hdot := dot_ok (M.getD k []) B 2000 3 rd d2 (by omega) (by omega) (by rw [rl]; have := Nat.mul_le_mul_right 2004 g4; omega)
    rw [n2] at hdot
    have htk := map_take_succ (fun r : List Rat => dotQ r B) M [] k hk'
    have hml : ((M.take k).map (fun r : List Rat => dotQ r B)).length = k := by rw [List.length_map, List.length_take]; omega
    generalize (M.take k).map (fun r : List Rat => dotQ r B) = qs at *
    generalize dotQ (M.getD k []) B = q at *
    repeat (first
      | refine ax_q (q_move rfl) ?_
      | refine ax_q (q_assign rfl) ?_
      | refine ax_ops_nil ?_
      | refine ax_post_code ?_
      | refine ax_seq ?_
      | refine ax_region rfl ?_
      | refine ax_block ?_
      | refine ax_skip ?_
      | refine ax_q (q_loadf_rp rfl rfl rfl rfl) ?_
      | refine ax_q (q_index_ro' rfl rfl rfl rfl (by first | (simp only [Nat.zero_add, Int.toNat_natCast, Int.toNat_zero]; exact rfl) | exact rfl) (by omega)) ?_)
    refine ax_callv rfl rfl rfl hdot ?_
    unfold qA
    repeat (refine ax_buildSliceRo rfl rfl rfl rfl rfl rfl rfl rfl rfl rfl rfl ?_)
    refine ax_append rfl rfl rfl rfl rfl rfl rfl rfl rfl hml rfl rfl (by show 0 + 1 ≤ 1; omega) rfl (by show (k + 1) * 56 ≤ _ ∧ _; omega) ?_ (by rw [hfix]; exact fun h => h) ?_
    · intro i' j hi hj
      exact rowE_noref 0 3 cellsQ cellsQ_noref qs q _ (rowQ1 _) 0 i' j hi hj
    repeat (first
      | refine ax_q (q_assign rfl) ?_
      | refine ax_ops_nil ?_
      | refine ax_post_blk ?_)
    refine ax_post_code ?_
    refine ax_heap [some ⟨108, qsC ((M.take (k + 1)).map (fun r => dotQ r B))⟩] ?_ ?_
    · rw [htk]
      exact HSub.eqv (rowE_snoc 0 3 cellsQ qs q _ (rowQ1 _)) HSub.nil
    repeat (first
      | refine ax_q (q_move rfl) ?_
      | refine ax_ops_nil ?_
      | refine ax_region rfl ?_
      | refine ax_q (q_add rfl rfl (by omega)) ?_)
    exact ax_post_inv ⟨k + 1, by omega, by omega, ⟨rfl, rfl, rfl, rfl, rfl, rfl, rfl, rfl, rfl, trivial⟩, rfl⟩
  · have hk' : k = M.length := by omega
    subst hk'
    rw [List.take_length]
    have hl1 : (M.map (fun r : List Rat => dotQ r B)).length = M.length := List.length_map _
    generalize M.map (fun r : List Rat => dotQ r B) = R at *
    repeat (first
      | refine ax_q (q_move rfl) ?_
      | refine ax_post_code ?_
      | refine ax_seq ?_
      | refine ax_region rfl ?_
      | refine ax_exit ?_
      | refine ax_exit_here ?_
      | refine ax_exit_code ?_
      | refine ax_exit_inv ?_
      | refine ax_q (q_loadf_rp rfl rfl rfl rfl) ?_
      | refine ax_q (q_len rfl rfl rfl) ?_
      | refine ax_q (q_index_ro' rfl rfl rfl rfl (by first | (simp only [Nat.zero_add, Int.toNat_natCast, Int.toNat_zero]; exact rfl) | exact rfl) (by omega)) ?_)
    refine ax_callv rfl rfl rfl nc ?_
    repeat (first
      | refine ax_q (q_move rfl) ?_
      | refine ax_ops_nil ?_
      | refine ax_post_code ?_
      | refine ax_q (q_len rfl rfl rfl) ?_)
    refine ax_nilobj 10 ⟨108, qsC []⟩ rfl rfl ?_
    repeat (refine ax_block ?_)
    refine ax_loop (ι := Nat) (fun k => [(6, .ro (qsC A) 0 m.length), (9, .sl 0 0 M.length), (10, .sl 1 0 k), (41, .ro (rowsQ C) 0 (widM m)), (42, .int .i64 (widM m : Nat)), (43, .int .i64 (k : Nat))]) (fun k => [some ⟨108, qsC R⟩, some ⟨108, qsC ((C.take k).map (fun r => dotQ r A))⟩])
      (fun k => k ≤ C.length) (fun k => C.length - k) 0 ⟨⟨rfl, rfl, rfl, rfl, rfl, rfl, trivial⟩, rfl, Nat.zero_le _⟩ ?_
    intro k hk
    repeat (first
      | refine ax_ops_nil ?_
      | refine ax_post_code ?_
      | refine ax_seq ?_
      | refine ax_region rfl ?_
      | refine ax_q (q_lss rfl rfl) ?_)
    refine ax_cond_dec rfl (fun h => ?_) (fun h => ?_)
    · have hk' : k < C.length := by omega
      obtain ⟨rl, rd⟩ := hcd _ (get_in [] hk')
      have hdot := dot_ok (C.getD k []) A 2000 3 rd d1 (by omega) (by omega) (by rw [rl]; have := Nat.mul_le_mul_right 2004 g2; omega)
      rw [n1] at hdot
      have htk := map_take_succ (fun r : List Rat => dotQ r A) C [] k hk'
      have hml : ((C.take k).map (fun r : List Rat => dotQ r A)).length = k := by rw [List.length_map, List.length_take]; omega
      generalize (C.take k).map (fun r : List Rat => dotQ r A) = qs at *
      generalize dotQ (C.getD k []) A = q at *
      repeat (first
        | refine ax_q (q_move rfl) ?_
        | refine ax_q (q_assign rfl) ?_
        | refine ax_ops_nil ?_
        | refine ax_post_code ?_
        | refine ax_seq ?_
        | refine ax_region rfl ?_
        | refine ax_block ?_
        | refine ax_skip ?_
        | refine ax_q (q_loadf_rp rfl rfl rfl rfl) ?_
        | refine ax_q (q_index_ro' rfl rfl rfl rfl (by first | (simp only [Nat.zero_add, Int.toNat_natCast, Int.toNat_zero]; exact rfl) | exact rfl) (by omega)) ?_)
      refine ax_callv rfl rfl rfl hdot ?_
      unfold qA
      repeat (refine ax_buildSliceRo rfl rfl rfl rfl rfl rfl rfl rfl rfl rfl rfl ?_)
      refine ax_append rfl rfl rfl rfl rfl rfl rfl rfl rfl hml rfl rfl (by show 0 + 1 ≤ 1; omega) rfl (by show (k + 1) * 56 ≤ _ ∧ _; omega) ?_ (by rw [hfix]; exact fun h => h) ?_
      · intro i' j hi hj
        exact rowE_noref 0 3 cellsQ cellsQ_noref qs q _ (rowQ1 _) 1 i' j hi hj
      repeat (first
        | refine ax_q (q_assign rfl) ?_
        | refine ax_ops_nil ?_
        | refine ax_post_blk ?_)
      refine ax_post_code ?_
      refine ax_heap [some ⟨108, qsC R⟩, some ⟨108, qsC ((C.take (k + 1)).map (fun r => dotQ r A))⟩] ?_ ?_
      · rw [htk]
        exact HSub.eqv ⟨rfl, rfl, fun i j _ hj => (cellsQ_noref _ j _ hj).symm⟩ (HSub.eqv (rowE_snoc 0 3 cellsQ qs q _ (rowQ1 _)) HSub.nil)
      repeat (first
        | refine ax_q (q_move rfl) ?_
        | refine ax_ops_nil ?_
        | refine ax_region rfl ?_
        | refine ax_q (q_add rfl rfl (by omega)) ?_)
      exact ax_post_inv ⟨k + 1, by omega, by omega, ⟨rfl, rfl, rfl, rfl, rfl, rfl, trivial⟩, rfl⟩
    · have hk' : k = C.length := by omega
      subst hk'
      rw [List.take_length]
      repeat (first
        | refine ax_q (q_move rfl) ?_
        | refine ax_q (q_assign rfl) ?_
        | refine ax_ops_nil ?_
        | refine ax_post_code ?_
        | refine ax_seq ?_
        | refine ax_region rfl ?_
        | refine ax_exit ?_
        | refine ax_exit_here ?_
        | refine ax_exit_code ?_
        | refine ax_exit_inv ?_
        | refine ax_return ?_)
      exact ax_ret hR rfl ⟨by rw [hml0, hcl]; rfl, rfl⟩
end Go.Proofs.YtgmleamhjnlknaaGreatDoor

namespace Go.Proofs.YtgmleamhjnlknaaGreatDoor
open Go.Ax Go.Ax.Bg Go.Ax.Rt Go.RowKit Go.Ax.Idx Go.Ax.Cd
attribute [local irreducible] Ax Post QOp ACall PureOp
set_option maxRecDepth 100000
set_option maxHeartbeats 4000000

theorem cellsQ_plain (q : Rat) (j : Nat) : noRef ((cellsQ q).getD j .any) = true := by
  match j with
  | 0 => rfl
  | 1 => rfl
  | 2 => rfl
  | n + 3 => rfl
theorem shift_qs (N : Nat) (l : List Rat) : Cells.shift N (qsC l) = qsC l := by
  show Cells.fn _ _ _ = Cells.fn _ _ _
  congr 1
  funext i j
  exact noRef_shift _ (cellsQ_plain _ j) N
theorem rowsS_D {m : List (List Text)} {l : Hist} (hE : histE m l = 0) : (∀ q ∈ rowsS (inM m) l (widM m), D 24049 q) ∧ ∀ q ∈ colsS (inM m) l (widM m), D 24049 q := by
  obtain ⟨hg, hl, hin⟩ := histE_zero hE
  obtain ⟨g1, g2, g3, g4, g5⟩ := gameE_zero hg
  have hv := valid_in g1
  have hml0 := inM_len m
  have d1 := cntQ_D3 Prod.fst l m.length hl
  have d2 := cntQ_D3 Prod.snd l (widM m) hl
  have n1 := cntQ_len Prod.fst l m.length
  have n2 := cntQ_len Prod.snd l (widM m)
  constructor
  · intro q hq
    obtain ⟨r, hr, rfl⟩ := List.mem_map.1 hq
    have h := dotQ_D (hv r hr).2 d2 (by rw [(hv r hr).1, n2]; exact Nat.le_refl _)
    refine h.mono ?_
    rw [(hv r hr).1]
    have := Nat.mul_le_mul_right (2000 + 3 + 1) g4
    omega
  · intro q hq
    obtain ⟨c, hc, rfl⟩ := List.mem_map.1 hq
    obtain ⟨k, hk, rfl⟩ := List.mem_map.1 hc
    have hcl : (colQ (inM m) k).length = m.length := by rw [colQ_len, hml0]
    rw [hml0]
    have h := dotQ_D (j := 2000) (a := colQ (inM m) k) (fun q hq => by
      obtain ⟨r, hr, rfl⟩ := List.mem_map.1 hq
      have hk' : k < r.length := by rw [(hv r hr).1]; simpa using hk
      exact (hv r hr).2 _ (get_in 0 hk')) d1 (by rw [hcl, n1]; exact Nat.le_refl _)
    refine h.mono ?_
    rw [hcl]
    have := Nat.mul_le_mul_right (2000 + 3 + 1) g2
    omega
theorem elQ_at {m : List (List Text)} {i j : Nat} (hi : i < m.length) (hj : j < (m.getD i []).length) : elQ (inM m) ((i : Int), (j : Int)) = ratV ((m.getD i []).getD j []) := by
  show ((inM m).getD i []).getD j 0 = _
  unfold inM
  rw [map_getD _ _ [] _ _ hi, map_getD _ _ [] _ _ hj]
theorem regrets_ok (m : List (List Text)) (l : Hist) (hll : l.length ≤ 9223372036854775807) (hlen : m.length ≤ 9223372036854775807) (hr : ∀ r ∈ m, r.length ≤ 9223372036854775807 ∧ ∀ s ∈ r, s.length ≤ 9223372036854775807) : VCall Tryz.prog 26 [.ro (rowsT m) 0 m.length, .ro (pairsC l) 0 l.length] (bothA (regretsR m l)) := by
  have ch := hist_ok m l hll hlen hr
  refine ACall.value0 (acall_of_ax (P := Tryz.prog) (fn := Tryz.f26) rfl rfl (by kernel_rfl) rfl (fun c hR hfix => ?_)) (fix := fun _ => False) (fun _ h => h) rfl rfl
  repeat (first
    | refine ax_q (q_move rfl) ?_
    | refine ax_q (q_assign rfl) ?_
    | refine ax_ops_nil ?_
    | refine ax_post_code ?_
    | refine ax_seq ?_
    | refine ax_region rfl ?_)
  refine ax_callv rfl rfl rfl ch ?_
  repeat (first
    | refine ax_q (q_move rfl) ?_
    | refine ax_q (q_assign rfl) ?_
    | refine ax_ops_nil ?_
    | refine ax_post_code ?_
    | refine ax_seq ?_
    | refine ax_region rfl ?_
    | refine ax_q (q_neq rfl rfl) ?_)
  refine ax_cond_dec rfl (fun hE => ?_) (fun hE => ?_)
  · have e : regretsR m l = (([], []), histE m l) := by unfold regretsR; rw [if_pos hE]
    rw [e] at hR
    repeat (first
      | refine ax_q (q_move rfl) ?_
      | refine ax_q (q_assign rfl) ?_
      | refine ax_ops_nil ?_
      | refine ax_post_code ?_
      | refine ax_seq ?_
      | refine ax_region rfl ?_)
    refine ax_slot 4 (.ro (.strs []) 0 0) rfl AEq.nil ?_
    refine ax_slot 5 (.ro (.strs []) 0 0) rfl AEq.nil ?_
    repeat (first
      | refine ax_return ?_
      | refine ax_ret_code ?_)
    exact ax_ret hR rfl rfl
  have hE' := Classical.not_not.1 hE
  have e : regretsR m l = bothR (regA (inM m) l (widM m)) (regB (inM m) l (widM m)) := by unfold regretsR; rw [if_neg hE]
  rw [e] at hR
  obtain ⟨hg, hl, hin⟩ := histE_zero hE'
  obtain ⟨g1, g2, g3, g4, g5⟩ := gameE_zero hg
  have hM := matE_zero g1
  have cs := sums_ok m l hE' hr
  obtain ⟨dr, dc⟩ := rowsS_D hE'
  have lr := rowsS_len (inM m) l (widM m)
  have lc := colsS_len (inM m) l (widM m)
  rw [inM_len] at lr
  have hgd : ∀ k, D (1 + k * 2001) (sumQ 0 ((l.take k).map (elQ (inM m)))) := fun k => by
    refine (sumQ_Dk (k := 2000) (l := (l.take k).map (elQ (inM m))) (fun q hq => ?_) (j := 1) ⟨by decide, by decide⟩).mono ?_
    · obtain ⟨x, hx, rfl⟩ := List.mem_map.1 hq
      exact elQ_D (fun r hr => (valid_in g1 r hr).2) (by decide) x
    · rw [List.length_map, List.length_take]
      have := Nat.mul_le_mul_right 2001 (Nat.min_le_left k l.length)
      omega
  repeat (first
    | refine ax_post_code ?_
    | refine ax_seq ?_
    | refine ax_region rfl ?_
    | refine ax_skip ?_)
  refine ax_callv rfl rfl rfl of_zero ?_
  repeat (refine ax_alloc rfl rfl rfl ?_)
  unfold qA
  refine ax_storeagg (c' := .box (cellsQ 0)) rfl rfl rfl rfl rfl Nat.zero_lt_one rfl rfl (fun i' j' hi' hj' => ?_) ?_
  · rw [if_pos (Nat.lt_one_iff.1 hi')]; rfl
  repeat (first
    | refine ax_q (q_move rfl) ?_
    | refine ax_ops_nil ?_
    | refine ax_post_code ?_
    | refine ax_seq ?_
    | refine ax_region rfl ?_
    | refine ax_block ?_
    | refine ax_q (q_len rfl rfl rfl) ?_)
  refine ax_loop (ι := Nat) (fun k => [(0, .ro (rowsT m) 0 m.length), (1, .ro (pairsC l) 0 l.length), (8, .ptr 0 0 0), (24, .ro (pairsC l) 0 l.length), (25, .int .i64 (l.length : Nat)), (26, .int .i64 (k : Nat))]) (fun k => [some ⟨108, .box (cellsQ (sumQ 0 ((l.take k).map (elQ (inM m)))))⟩])
    (fun k => k ≤ l.length) (fun k => l.length - k) 0 ⟨⟨rfl, rfl, rfl, rfl, rfl, rfl, trivial⟩, rfl, Nat.zero_le _⟩ ?_
  intro k hk
  repeat (first
    | refine ax_ops_nil ?_
    | refine ax_post_code ?_
    | refine ax_seq ?_
    | refine ax_region rfl ?_
    | refine ax_q (q_lss rfl rfl) ?_)
  refine ax_cond_dec rfl (fun h => ?_) (fun h => ?_)
  · have hk' : k < l.length := by omega
    have hx := hin _ (getD_mem (0, 0) hk')
    have hsn : sumQ 0 ((l.take (k + 1)).map (elQ (inM m))) = sumQ 0 ((l.take k).map (elQ (inM m))) + elQ (inM m) (l.getD k (0, 0)) := by rw [take_map_snoc (elQ (inM m)) l (0, 0) k hk', sumQ_snoc]
    have hDa := hgd k
    generalize sumQ 0 ((l.take k).map (elQ (inM m))) = acc at *
    generalize hxe : l.getD k (0, 0) = x at *
    obtain ⟨x1, x2⟩ := x
    simp only at hx
    obtain ⟨i, rfl⟩ := Int.eq_ofNat_of_zero_le hx.1
    obtain ⟨j, rfl⟩ := Int.eq_ofNat_of_zero_le hx.2.2.1
    have hi : i < m.length := by omega
    have hrl : (m.getD i []).length = widM m := hM.cols _ (get_in [] hi)
    have hj : j < (m.getD i []).length := by omega
    have hs := (hr _ (get_in [] hi)).2 _ (get_in [] hj)
    have ho := hM.ok _ (get_in [] hi) _ (get_in [] hj)
    have cp := parse_ok _ hs ho
    rw [elQ_at hi hj] at hsn
    have hb : k * 2001 ≤ 200 * 2001 := Nat.mul_le_mul_right _ (by omega)
    have ca := qadd_ok acc (ratV ((m.getD i []).getD j [])) (sz_D (hDa.mono (by omega))) (sz_D ((valid_D (r := [(m.getD i []).getD j []]) (fun s h => by simp at h; rw [h]; exact ho) _ (by simp)).mono (by omega)))
    repeat (first
      | refine ax_post_code ?_
      | refine ax_seq ?_
      | refine ax_region rfl ?_
      | refine ax_block ?_
      | refine ax_skip ?_
      | refine ax_q (q_index_ro' rfl rfl rfl rfl (by first | (simp only [Nat.zero_add, Int.toNat_natCast, Int.toNat_zero]; exact rfl) | exact rfl) (by omega)) ?_
      | refine ax_q (q_loadagg_rp rfl rfl rfl rfl rfl rfl) ?_
      | refine ax_alloc rfl rfl rfl ?_)
    refine ax_slot_ops 29 (.agg (cellsP ((i : Int), (j : Int)))) rfl (AEq.of_eq (by rw [← hxe]; rfl)) ?_
    refine ax_storeagg (c' := .box (cellsP ((i : Int), (j : Int)))) rfl rfl rfl rfl rfl Nat.zero_lt_one rfl rfl (fun i' j' hi' hj' => ?_) ?_
    · rw [if_pos (Nat.lt_one_iff.1 hi')]; rfl
    repeat (first
      | refine ax_ops_nil ?_
      | refine ax_post_code ?_)
    refine ax_regiond (by kernel_rfl) ?_
    refine ax_any_run (fuel := 1) [0, 1, 2, 3, 4, 5, 6, 7, 8, 9, 10, 11] [(0, .ro (rowsT m) 0 m.length), (8, .ptr 0 0 0), (10, .ptr 1 0 0), (24, .ro (pairsC l) 0 l.length), (25, .int .i64 (l.length : Nat)), (26, .int .i64 (k : Nat)), (1, .ro (pairsC l) 0 l.length)] ⟨rfl, rfl, rfl, rfl, rfl, rfl, rfl, trivial⟩ (by kernel_rfl) (by decide) rfl rfl ?_
    refine px_q rfl rfl (q_loadpart_ptr rfl rfl rfl rfl rfl rfl rfl (by first | exact Nat.zero_lt_one | assumption | omega)) ?_
    refine px_q rfl rfl (q_move rfl) ?_
    refine px_q rfl rfl (q_idxarr_ptr rfl rfl rfl rfl (by first | (simp only [Nat.zero_add, Int.toNat_natCast]; exact rfl) | exact rfl) (by omega)) ?_
    refine px_q rfl rfl (q_loadb_ptr rfl rfl rfl rfl rfl) ?_
    refine px_q rfl rfl (q_index_ro' rfl rfl rfl rfl (by first | (simp only [Nat.zero_add, Int.toNat_natCast, Int.toNat_zero]; exact rfl) | exact rfl) (by omega)) ?_
    refine px_q rfl rfl (q_loadf_rp rfl rfl rfl rfl) ?_
    refine px_q rfl rfl (q_idxarr_ptr rfl rfl rfl rfl (by first | (simp only [Nat.zero_add, Int.toNat_natCast]; exact rfl) | exact rfl) (by omega)) ?_
    refine px_q rfl rfl (q_loadb_ptr rfl rfl rfl rfl rfl) ?_
    refine px_q rfl rfl (q_index_ro' rfl rfl rfl rfl (by first | (simp only [Nat.zero_add, Int.toNat_natCast, Int.toNat_zero]; exact rfl) | exact rfl) (by omega)) ?_
    refine px_q rfl rfl (q_loads_rp rfl rfl rfl) ?_
    refine px_v rfl rfl rfl rfl rfl cp ?_
    refine px_v rfl rfl rfl rfl rfl ca ?_
    refine px_done ?_
    refine ax_any_step (is := [12]) (by kernel_rfl) (by simp) rfl ⟨fun o ho => ?_, trivial⟩
    all_goals (cases ho)
    skip
    unfold qA
    refine ax_storeagg (c' := .box (cellsQ (acc + ratV ((m.getD i []).getD j [])))) rfl rfl rfl rfl rfl Nat.zero_lt_one rfl rfl (fun i' j' hi' hj' => ?_) ?_
    · rw [if_pos (Nat.lt_one_iff.1 hi')]; rfl
    repeat (first
      | refine ax_ops_nil ?_
      | refine ax_post_any ?_)
    refine ax_any_done (by kernel_rfl) ?_
    repeat (refine ax_post_blk ?_)
    refine ax_post_code ?_
    refine ax_heap ([some ⟨108, .box (cellsQ (sumQ 0 ((l.take (k + 1)).map (elQ (inM m)))))⟩] ++ [none]) ?_ ?_
    · rw [hsn]
      exact HSub.eqv (CEq.refl _) (HSub.drop HSub.nil)
    refine ax_drop (H1 := [some ⟨108, .box (cellsQ (sumQ 0 ((l.take (k + 1)).map (elQ (inM m)))))⟩]) rfl (by rw [hfix]; exact fun h => h) ?_
    repeat (first
      | refine ax_q (q_move rfl) ?_
      | refine ax_ops_nil ?_
      | refine ax_region rfl ?_
      | refine ax_q (q_add rfl rfl (by omega)) ?_)
    exact ax_post_inv ⟨k + 1, by omega, by omega, ⟨rfl, rfl, rfl, rfl, rfl, rfl, trivial⟩, rfl⟩
  have hke : k = l.length := by omega
  subst hke
  rw [List.take_length]
  have hgl := hgd l.length
  rw [List.take_length] at hgl
  have egot : gotQ (inM m) l = sumQ 0 (l.map (elQ (inM m))) := rfl
  have eA : regA (inM m) l (widM m) = (rowsS (inM m) l (widM m)).map (fun q => q - gotQ (inM m) l) := rfl
  have eB : regB (inM m) l (widM m) = (colsS (inM m) l (widM m)).map (fun q => gotQ (inM m) l - q) := rfl
  rw [eA, eB] at hR
  rw [← egot] at hgl
  rw [← egot]
  have hb : l.length * 2001 ≤ 200 * 2001 := Nat.mul_le_mul_right _ hl
  generalize gotQ (inM m) l = G at *
  generalize rowsS (inM m) l (widM m) = R at *
  generalize colsS (inM m) l (widM m) = C at *
  repeat (first
    | refine ax_q (q_move rfl) ?_
    | refine ax_post_code ?_
    | refine ax_seq ?_
    | refine ax_region rfl ?_
    | refine ax_exit ?_
    | refine ax_exit_here ?_
    | refine ax_exit_code ?_
    | refine ax_exit_inv ?_)
  refine ax_calls (.tup [.sl 1 0 m.length, .sl 2 0 (widM m)]) [some ⟨108, .box (cellsQ G)⟩, some ⟨108, qsC R⟩, some ⟨108, qsC C⟩] rfl rfl rfl cs rfl (by simp only [shiftH, shiftO, shift_qs]; rfl) ?_
  repeat (first
    | refine ax_q (q_move rfl) ?_
    | refine ax_q (q_assign rfl) ?_
    | refine ax_ops_nil ?_
    | refine ax_post_code ?_
    | refine ax_seq ?_
    | refine ax_region rfl ?_
    | refine ax_block ?_
    | refine ax_q (q_extract rfl rfl) ?_
    | refine ax_q (q_len rfl rfl rfl) ?_)
  have ef : ∃ f : Rat → Rat, f = (fun q => q - G) := ⟨_, rfl⟩
  obtain ⟨f, ef⟩ := ef
  rw [← ef] at hR
  have lR := lr
  refine ax_loop (ι := Nat) (fun k => [(8, .ptr 0 0 0), (11, .sl 1 0 m.length), (12, .sl 2 0 (widM m)), (49, .sl 1 0 m.length), (50, .int .i64 (m.length : Nat)), (51, .int .i64 (k : Nat))]) (fun k => [some ⟨108, .box (cellsQ G)⟩, some ⟨108, qsC (mixL f R k)⟩, some ⟨108, qsC C⟩])
    (fun k => k ≤ R.length) (fun k => R.length - k) 0 ⟨⟨rfl, rfl, rfl, rfl, rfl, rfl, trivial⟩, by rw [mixL_zero], Nat.zero_le _⟩ ?_
  intro k hk
  repeat (first
    | refine ax_ops_nil ?_
    | refine ax_post_code ?_
    | refine ax_seq ?_
    | refine ax_region rfl ?_
    | refine ax_q (q_lss rfl rfl) ?_)
  refine ax_cond_dec rfl (fun h => ?_) (fun h => ?_)
  · have hk' : k < R.length := by omega
    have hq := dr _ (get_in 0 hk')
    have hset := mixL_set f R 0 hk'
    have hget := mixL_get f R 0 hk'
    have hml := mixL_len f R k
    generalize mixL f R k = zs at *
    generalize R.getD k 0 = q at *
    have hkz : k < zs.length := by omega
    have hv : f q = q - G := by rw [ef]
    rw [hv] at hset
    have hnew : mixL f R (k + 1) = zs.set k (q - G) := hset.symm
    have cq := qsub_ok q G (sz_D (hq.mono (by omega))) (sz_D (hgl.mono (by omega)))
    repeat (first
      | refine ax_q (q_move rfl) ?_
      | refine ax_q (q_assign rfl) ?_
      | refine ax_post_code ?_
      | refine ax_seq ?_
      | refine ax_region rfl ?_
      | refine ax_block ?_
      | refine ax_skip ?_
      | refine ax_q (q_index_sl' rfl rfl rfl rfl rfl (by first | (simp only [Nat.zero_add, Int.toNat_natCast, Int.toNat_zero]; exact rfl) | exact rfl) (by omega)) ?_
      | refine ax_q (q_loadpart_ptr rfl rfl rfl rfl rfl rfl rfl (by first | exact Nat.zero_lt_one | assumption | omega)) ?_
      | refine ax_alloc rfl rfl rfl ?_)
    refine ax_slot_ops 55 (.agg (cellsQ q)) rfl (AEq.of_eq (by rw [← hget]; rfl)) ?_
    refine ax_storeagg (c' := .box (cellsQ q)) rfl rfl rfl rfl rfl Nat.zero_lt_one rfl rfl (fun i' j' hi' hj' => ?_) ?_
    · rw [if_pos (Nat.lt_one_iff.1 hi')]; rfl
    repeat (first
      | refine ax_q (q_move rfl) ?_
      | refine ax_ops_nil ?_
      | refine ax_post_code ?_
      | refine ax_region rfl ?_
      | refine ax_q (q_loadpart_ptr rfl rfl rfl rfl rfl rfl rfl (by first | exact Nat.zero_lt_one | assumption | omega)) ?_)
    refine ax_callv rfl rfl rfl cq ?_
    repeat (refine ax_q (q_index_sl' rfl rfl rfl rfl rfl (by first | (simp only [Nat.zero_add, Int.toNat_natCast, Int.toNat_zero]; exact rfl) | exact rfl) (by omega)) ?_)
    unfold qA
    refine ax_storeagg (c' := qsC (zs.set k (q - G))) rfl rfl rfl rfl rfl hkz (by show (zs.set k (q - G)).length = zs.length; simp) rfl (fun i' j' hi' hj' => set_qs zs k (q - G) hkz i' j' hi' hj') ?_
    repeat (first
      | refine ax_ops_nil ?_
      | refine ax_post_blk ?_)
    refine ax_post_code ?_
    refine ax_heap ([some ⟨108, .box (cellsQ G)⟩, some ⟨108, qsC (mixL f R (k + 1))⟩, some ⟨108, qsC C⟩] ++ [none]) ?_ ?_
    · rw [hnew]
      exact HSub.eqv (CEq.refl _) (HSub.eqv (CEq.refl _) (HSub.eqv (CEq.refl _) (HSub.drop HSub.nil)))
    refine ax_drop (H1 := [some ⟨108, .box (cellsQ G)⟩, some ⟨108, qsC (mixL f R (k + 1))⟩, some ⟨108, qsC C⟩]) rfl (by rw [hfix]; exact fun h => h) ?_
    refine ax_heap [some ⟨108, .box (cellsQ G)⟩, some ⟨108, qsC (mixL f R (k + 1))⟩, some ⟨108, qsC C⟩] ?_ ?_
    · exact HSub.eqv ⟨rfl, rfl, fun i j _ hj => rfl⟩ (HSub.eqv ⟨rfl, rfl, fun i j _ hj => (cellsQ_noref _ j _ hj).symm⟩ (HSub.eqv ⟨rfl, rfl, fun i j _ hj => (cellsQ_noref _ j _ hj).symm⟩ HSub.nil))
    repeat (first
      | refine ax_q (q_move rfl) ?_
      | refine ax_ops_nil ?_
      | refine ax_region rfl ?_
      | refine ax_q (q_add rfl rfl (by omega)) ?_)
    exact ax_post_inv ⟨k + 1, by omega, by omega, ⟨rfl, rfl, rfl, rfl, rfl, rfl, trivial⟩, rfl⟩
  have hke : k = R.length := by omega
  subst hke
  rw [mixL_all]
  have dA : ∀ q ∈ R.map f, Sz 100000 q := fun q hq => by
    obtain ⟨z, hz, rfl⟩ := List.mem_map.1 hq
    rw [ef]
    exact sz_D ((D.sub (dr z hz) hgl).mono (by omega))
  have lA : (R.map f).length = m.length := by rw [List.length_map, lr]
  generalize R.map f = A at *
  repeat (first
    | refine ax_q (q_move rfl) ?_
    | refine ax_ops_nil ?_
    | refine ax_post_code ?_
    | refine ax_seq ?_
    | refine ax_region rfl ?_
    | refine ax_block ?_
    | refine ax_exit ?_
    | refine ax_exit_here ?_
    | refine ax_exit_code ?_
    | refine ax_exit_inv ?_
    | refine ax_q (q_len rfl rfl rfl) ?_)
  have ef2 : ∃ f2 : Rat → Rat, f2 = (fun q => G - q) := ⟨_, rfl⟩
  obtain ⟨f2, ef2⟩ := ef2
  rw [← ef2] at hR
  have lC := lc
  refine ax_loop (ι := Nat) (fun k => [(8, .ptr 0 0 0), (11, .sl 1 0 m.length), (12, .sl 2 0 (widM m)), (63, .sl 2 0 (widM m)), (64, .int .i64 (widM m : Nat)), (65, .int .i64 (k : Nat))]) (fun k => [some ⟨108, .box (cellsQ G)⟩, some ⟨108, qsC A⟩, some ⟨108, qsC (mixL f2 C k)⟩])
    (fun k => k ≤ C.length) (fun k => C.length - k) 0 ⟨⟨rfl, rfl, rfl, rfl, rfl, rfl, trivial⟩, by rw [mixL_zero], Nat.zero_le _⟩ ?_
  intro k hk
  repeat (first
    | refine ax_ops_nil ?_
    | refine ax_post_code ?_
    | refine ax_seq ?_
    | refine ax_region rfl ?_
    | refine ax_q (q_lss rfl rfl) ?_)
  refine ax_cond_dec rfl (fun h => ?_) (fun h => ?_)
  · have hk' : k < C.length := by omega
    have hq := dc _ (get_in 0 hk')
    have hset := mixL_set f2 C 0 hk'
    have hget := mixL_get f2 C 0 hk'
    have hml := mixL_len f2 C k
    generalize mixL f2 C k = zs at *
    generalize C.getD k 0 = q at *
    have hkz : k < zs.length := by omega
    have hv : f2 q = G - q := by rw [ef2]
    rw [hv] at hset
    have hnew : mixL f2 C (k + 1) = zs.set k (G - q) := hset.symm
    have cq := qsub_ok G q (sz_D (hgl.mono (by omega))) (sz_D (hq.mono (by omega)))
    repeat (first
      | refine ax_q (q_move rfl) ?_
      | refine ax_q (q_assign rfl) ?_
      | refine ax_post_code ?_
      | refine ax_seq ?_
      | refine ax_region rfl ?_
      | refine ax_block ?_
      | refine ax_skip ?_
      | refine ax_q (q_index_sl' rfl rfl rfl rfl rfl (by first | (simp only [Nat.zero_add, Int.toNat_natCast, Int.toNat_zero]; exact rfl) | exact rfl) (by omega)) ?_
      | refine ax_q (q_loadpart_ptr rfl rfl rfl rfl rfl rfl rfl (by first | exact Nat.zero_lt_one | assumption | omega)) ?_
      | refine ax_alloc rfl rfl rfl ?_)
    refine ax_slot_ops 69 (.agg (cellsQ q)) rfl (AEq.of_eq (by rw [← hget]; rfl)) ?_
    refine ax_storeagg (c' := .box (cellsQ q)) rfl rfl rfl rfl rfl Nat.zero_lt_one rfl rfl (fun i' j' hi' hj' => ?_) ?_
    · rw [if_pos (Nat.lt_one_iff.1 hi')]; rfl
    repeat (first
      | refine ax_q (q_move rfl) ?_
      | refine ax_ops_nil ?_
      | refine ax_post_code ?_
      | refine ax_region rfl ?_
      | refine ax_q (q_loadpart_ptr rfl rfl rfl rfl rfl rfl rfl (by first | exact Nat.zero_lt_one | assumption | omega)) ?_)
    refine ax_callv rfl rfl rfl cq ?_
    repeat (refine ax_q (q_index_sl' rfl rfl rfl rfl rfl (by first | (simp only [Nat.zero_add, Int.toNat_natCast, Int.toNat_zero]; exact rfl) | exact rfl) (by omega)) ?_)
    unfold qA
    refine ax_storeagg (c' := qsC (zs.set k (G - q))) rfl rfl rfl rfl rfl hkz (by show (zs.set k (G - q)).length = zs.length; simp) rfl (fun i' j' hi' hj' => set_qs zs k (G - q) hkz i' j' hi' hj') ?_
    repeat (first
      | refine ax_ops_nil ?_
      | refine ax_post_blk ?_)
    refine ax_post_code ?_
    refine ax_heap ([some ⟨108, .box (cellsQ G)⟩, some ⟨108, qsC A⟩, some ⟨108, qsC (mixL f2 C (k + 1))⟩] ++ [none]) ?_ ?_
    · rw [hnew]
      exact HSub.eqv (CEq.refl _) (HSub.eqv (CEq.refl _) (HSub.eqv (CEq.refl _) (HSub.drop HSub.nil)))
    refine ax_drop (H1 := [some ⟨108, .box (cellsQ G)⟩, some ⟨108, qsC A⟩, some ⟨108, qsC (mixL f2 C (k + 1))⟩]) rfl (by rw [hfix]; exact fun h => h) ?_
    refine ax_heap [some ⟨108, .box (cellsQ G)⟩, some ⟨108, qsC A⟩, some ⟨108, qsC (mixL f2 C (k + 1))⟩] ?_ ?_
    · exact HSub.eqv ⟨rfl, rfl, fun i j _ hj => rfl⟩ (HSub.eqv ⟨rfl, rfl, fun i j _ hj => (cellsQ_noref _ j _ hj).symm⟩ (HSub.eqv ⟨rfl, rfl, fun i j _ hj => (cellsQ_noref _ j _ hj).symm⟩ HSub.nil))
    repeat (first
      | refine ax_q (q_move rfl) ?_
      | refine ax_ops_nil ?_
      | refine ax_region rfl ?_
      | refine ax_q (q_add rfl rfl (by omega)) ?_)
    exact ax_post_inv ⟨k + 1, by omega, by omega, ⟨rfl, rfl, rfl, rfl, rfl, rfl, trivial⟩, rfl⟩
  have hke : k = C.length := by omega
  subst hke
  rw [mixL_all]
  have dB : ∀ q ∈ C.map f2, Sz 100000 q := fun q hq => by
    obtain ⟨z, hz, rfl⟩ := List.mem_map.1 hq
    rw [ef2]
    exact sz_D ((D.sub hgl (dc z hz)).mono (by omega))
  have lB : (C.map f2).length = widM m := by rw [List.length_map, lc]
  generalize C.map f2 = B at *
  repeat (first
    | refine ax_post_code ?_
    | refine ax_seq ?_
    | refine ax_exit ?_
    | refine ax_exit_here ?_
    | refine ax_exit_code ?_
    | refine ax_exit_inv ?_)
  refine ax_give_code 1 11 m.length [(12, .sl 2 0 (widM m))] rfl (refless_qs _) rfl (by show _ ≤ A.length; omega) ⟨rfl, trivial⟩ ?_
  refine ax_give_code 2 12 (widM m) [(11, .ro (qsC A) 0 m.length)] rfl (refless_qs _) rfl (by show _ ≤ B.length; omega) ⟨rfl, trivial⟩ ?_
  have cb := both_ok A B (by omega) (by omega) dA dB
  rw [lA, lB] at cb
  repeat (first
    | refine ax_q (q_move rfl) ?_
    | refine ax_region rfl ?_)
  refine ax_callv rfl rfl rfl cb ?_
  unfold bothA
  repeat (first
    | refine ax_q (q_assign rfl) ?_
    | refine ax_ops_nil ?_
    | refine ax_post_code ?_
    | refine ax_return ?_
    | refine ax_q (q_extract rfl rfl) ?_)
  exact ax_ret hR rfl rfl
end Go.Proofs.YtgmleamhjnlknaaGreatDoor

namespace Go.Proofs.YtgmleamhjnlknaaGreatDoor
open Go.Ax Go.Ax.Bg Go.Ax.Rt Go.RowKit Go.Ax.Idx Go.Ax.Cd
attribute [local irreducible] Ax Post QOp ACall PureOp
set_option maxRecDepth 100000
set_option maxHeartbeats 4000000

def averageR (m : List (List Text)) (l : Hist) : (List Text × List Text) × Int :=
  if histE m l ≠ 0 then (([], []), histE m l) else if l = [] then (([], []), 8)
  else bothR ((cntQ Prod.fst l m.length).map (fun q => q / (l.length : Rat))) ((cntQ Prod.snd l (widM m)).map (fun q => q / (l.length : Rat)))
theorem nat_D3 {n : Nat} (h : n < 1000) : D 3 (n : Rat) := by
  refine ⟨?_, ?_⟩
  · rw [← Rat.intCast_natCast]
    show (n : Int).natAbs < _
    rw [Int.natAbs_natCast]; exact h
  · rw [← Rat.intCast_natCast]
    show 1 < _
    decide
theorem average_ok (m : List (List Text)) (l : Hist) (hll : l.length ≤ 9223372036854775807) (hlen : m.length ≤ 9223372036854775807) (hr : ∀ r ∈ m, r.length ≤ 9223372036854775807 ∧ ∀ s ∈ r, s.length ≤ 9223372036854775807) : VCall Tryz.prog 58 [.ro (rowsT m) 0 m.length, .ro (pairsC l) 0 l.length] (bothA (averageR m l)) := by
  have ch := hist_ok m l hll hlen hr
  refine ACall.value0 (acall_of_ax (P := Tryz.prog) (fn := Tryz.f58) rfl rfl (by kernel_rfl) rfl (fun c hR hfix => ?_)) (fix := fun _ => False) (fun _ h => h) rfl rfl
  repeat (first
    | refine ax_q (q_move rfl) ?_
    | refine ax_q (q_assign rfl) ?_
    | refine ax_ops_nil ?_
    | refine ax_post_code ?_
    | refine ax_seq ?_
    | refine ax_region rfl ?_)
  refine ax_callv rfl rfl rfl ch ?_
  repeat (first
    | refine ax_q (q_move rfl) ?_
    | refine ax_q (q_assign rfl) ?_
    | refine ax_ops_nil ?_
    | refine ax_post_code ?_
    | refine ax_seq ?_
    | refine ax_region rfl ?_
    | refine ax_q (q_neq rfl rfl) ?_)
  refine ax_cond_dec rfl (fun hE => ?_) (fun hE => ?_)
  · have e : averageR m l = (([], []), histE m l) := by unfold averageR; rw [if_pos hE]
    rw [e] at hR
    repeat (first
      | refine ax_q (q_move rfl) ?_
      | refine ax_q (q_assign rfl) ?_
      | refine ax_ops_nil ?_
      | refine ax_post_code ?_
      | refine ax_seq ?_
      | refine ax_region rfl ?_)
    refine ax_slot 4 (.ro (.strs []) 0 0) rfl AEq.nil ?_
    refine ax_slot 5 (.ro (.strs []) 0 0) rfl AEq.nil ?_
    repeat (first
      | refine ax_return ?_
      | refine ax_ret_code ?_)
    exact ax_ret hR rfl rfl
  have hE' := Classical.not_not.1 hE
  repeat (first
    | refine ax_q (q_move rfl) ?_
    | refine ax_ops_nil ?_
    | refine ax_post_code ?_
    | refine ax_seq ?_
    | refine ax_region rfl ?_
    | refine ax_skip ?_
    | refine ax_q (q_eql rfl rfl) ?_
    | refine ax_q (q_len rfl rfl rfl) ?_)
  refine ax_cond_dec rfl (fun h2 => ?_) (fun h2 => ?_)
  · have hn : l = [] := List.length_eq_zero_iff.1 (by omega)
    have e : averageR m l = (([], []), 8) := by unfold averageR; rw [if_neg hE, if_pos hn]
    rw [e] at hR
    repeat (first
      | refine ax_q (q_assign rfl) ?_
      | refine ax_ops_nil ?_
      | refine ax_post_code ?_
      | refine ax_seq ?_
      | refine ax_region rfl ?_)
    refine ax_slot 4 (.ro (.strs []) 0 0) rfl AEq.nil ?_
    refine ax_slot 5 (.ro (.strs []) 0 0) rfl AEq.nil ?_
    repeat (first
      | refine ax_return ?_
      | refine ax_ret_code ?_)
    exact ax_ret hR rfl rfl
  have hn : ¬ l = [] := by rintro rfl; exact h2 rfl
  have e : averageR m l = bothR ((cntQ Prod.fst l m.length).map (fun q => q / (l.length : Rat))) ((cntQ Prod.snd l (widM m)).map (fun q => q / (l.length : Rat))) := by unfold averageR; rw [if_neg hE, if_neg hn]
  rw [e] at hR
  obtain ⟨hg, hl, hin⟩ := histE_zero hE'
  obtain ⟨g1, g2, g3, g4, g5⟩ := gameE_zero hg
  have cc := counts_ok m l g2 g5 g4 hl hin
  have d1 := cntQ_D3 Prod.fst l m.length hl
  have d2 := cntQ_D3 Prod.snd l (widM m) hl
  have n1 := cntQ_len Prod.fst l m.length
  have n2 := cntQ_len Prod.snd l (widM m)
  have hlp : 0 < l.length := List.length_pos_iff.2 hn
  generalize cntQ Prod.fst l m.length = A at *
  generalize cntQ Prod.snd l (widM m) = B at *
  have hnD : D 3 (l.length : Rat) := nat_D3 (by omega)
  have hn0 : (l.length : Rat) ≠ 0 := by
    rw [← Rat.intCast_natCast]
    exact intc_ne (by omega)
  have p1 := parts_ok A l.length (by omega) (by omega) (fun q hq => sz_D (m := 100000) ((d1 q hq).mono (by omega)))
  have p2 := parts_ok B l.length (by omega) (by omega) (fun q hq => sz_D (m := 100000) ((d2 q hq).mono (by omega)))
  have cb := both_ok (A.map (fun q => q / (l.length : Rat))) (B.map (fun q => q / (l.length : Rat))) (by rw [List.length_map]; omega) (by rw [List.length_map]; omega)
    (fun q hq => by obtain ⟨z, hz, rfl⟩ := List.mem_map.1 hq; exact sz_D (m := 100000) (((d1 z hz).div hnD hn0).mono (by omega)))
    (fun q hq => by obtain ⟨z, hz, rfl⟩ := List.mem_map.1 hq; exact sz_D (m := 100000) (((d2 z hz).div hnD hn0).mono (by omega)))
  rw [List.length_map, List.length_map, n1, n2] at cb
  rw [n1] at p1
  rw [n2] at p2
  repeat (first
    | refine ax_q (q_move rfl) ?_
    | refine ax_post_code ?_
    | refine ax_seq ?_
    | refine ax_region rfl ?_
    | refine ax_skip ?_)
  refine ax_callv rfl rfl rfl cc ?_
  repeat (first
    | refine ax_q (q_move rfl) ?_
    | refine ax_q (q_assign rfl) ?_
    | refine ax_ops_nil ?_
    | refine ax_post_code ?_
    | refine ax_seq ?_
    | refine ax_region rfl ?_
    | refine ax_q (q_extract rfl rfl) ?_
    | refine ax_q (q_len rfl rfl rfl) ?_)
  refine ax_callv rfl rfl rfl p1 ?_
  repeat (first
    | refine ax_q (q_move rfl) ?_
    | refine ax_q (q_len rfl rfl rfl) ?_)
  refine ax_callv rfl rfl rfl p2 ?_
  skip
  refine ax_callv rfl rfl rfl cb ?_
  unfold bothA
  repeat (first
    | refine ax_q (q_assign rfl) ?_
    | refine ax_ops_nil ?_
    | refine ax_post_code ?_
    | refine ax_return ?_
    | refine ax_q (q_extract rfl rfl) ?_)
  exact ax_ret hR rfl rfl
def boundsA (p : (Text × Text) × Int) : AV := .tup [.str p.1.1, .str p.1.2, .int .i64 p.2]
theorem bounds_ok (m : List (List Text)) (l : Hist) (hll : l.length ≤ 9223372036854775807) (hlen : m.length ≤ 9223372036854775807) (hr : ∀ r ∈ m, r.length ≤ 9223372036854775807 ∧ ∀ s ∈ r, s.length ≤ 9223372036854775807) : VCall Tryz.prog 27 [.ro (rowsT m) 0 m.length, .ro (pairsC l) 0 l.length] (boundsA (boundsR m l)) := by
  have ch := hist_ok m l hll hlen hr
  refine ACall.value0 (acall_of_ax (P := Tryz.prog) (fn := Tryz.f27) rfl rfl (by kernel_rfl) rfl (fun c hR hfix => ?_)) (fix := fun _ => False) (fun _ h => h) rfl rfl
  repeat (first
    | refine ax_q (q_move rfl) ?_
    | refine ax_q (q_assign rfl) ?_
    | refine ax_ops_nil ?_
    | refine ax_post_code ?_
    | refine ax_seq ?_
    | refine ax_region rfl ?_)
  refine ax_callv rfl rfl rfl ch ?_
  repeat (first
    | refine ax_q (q_move rfl) ?_
    | refine ax_q (q_assign rfl) ?_
    | refine ax_ops_nil ?_
    | refine ax_post_code ?_
    | refine ax_seq ?_
    | refine ax_region rfl ?_
    | refine ax_q (q_neq rfl rfl) ?_)
  refine ax_cond_dec rfl (fun hE => ?_) (fun hE => ?_)
  · have e : boundsR m l = (([], []), histE m l) := by unfold boundsR; rw [if_pos hE]
    rw [e] at hR
    repeat (first
      | refine ax_q (q_move rfl) ?_
      | refine ax_q (q_assign rfl) ?_
      | refine ax_ops_nil ?_
      | refine ax_post_code ?_
      | refine ax_seq ?_
      | refine ax_region rfl ?_
      | refine ax_return ?_
      | refine ax_ret_code ?_)
    exact ax_ret hR rfl rfl
  have hE' := Classical.not_not.1 hE
  repeat (first
    | refine ax_q (q_move rfl) ?_
    | refine ax_ops_nil ?_
    | refine ax_post_code ?_
    | refine ax_seq ?_
    | refine ax_region rfl ?_
    | refine ax_skip ?_
    | refine ax_q (q_eql rfl rfl) ?_
    | refine ax_q (q_len rfl rfl rfl) ?_)
  refine ax_cond_dec rfl (fun h2 => ?_) (fun h2 => ?_)
  · have hn : l = [] := List.length_eq_zero_iff.1 (by omega)
    have e : boundsR m l = (([], []), 8) := by unfold boundsR; rw [if_neg hE, if_pos hn]
    rw [e] at hR
    repeat (first
      | refine ax_q (q_assign rfl) ?_
      | refine ax_ops_nil ?_
      | refine ax_post_code ?_
      | refine ax_seq ?_
      | refine ax_region rfl ?_
      | refine ax_return ?_
      | refine ax_ret_code ?_)
    exact ax_ret hR rfl rfl
  have hn : ¬ l = [] := by rintro rfl; exact h2 rfl
  have e : boundsR m l = if fitB (lowQ (inM m) l (widM m) / (l.length : Nat)) && fitB (highQ (inM m) l (widM m) / (l.length : Nat)) then ((textQ (lowQ (inM m) l (widM m) / (l.length : Nat)), textQ (highQ (inM m) l (widM m) / (l.length : Nat))), 0) else (([], []), 2) := by unfold boundsR; rw [if_neg hE, if_neg hn]
  have eL : lowQ (inM m) l (widM m) = (colsS (inM m) l (widM m)).getD (bestG (-1) (colsS (inM m) l (widM m)) (widM m)) 0 := rfl
  have eH : highQ (inM m) l (widM m) = (rowsS (inM m) l (widM m)).getD (bestG 1 (rowsS (inM m) l (widM m)) m.length) 0 := by unfold highQ; rw [inM_len]
  rw [e] at hR
  obtain ⟨hg, hl, hin⟩ := histE_zero hE'
  obtain ⟨g1, g2, g3, g4, g5⟩ := gameE_zero hg
  have hm1 : 0 < m.length := by cases m with | nil => exact absurd rfl g5 | cons _ _ => exact Nat.succ_pos _
  have cs := sums_ok m l hE' hr
  obtain ⟨dr, dc⟩ := rowsS_D hE'
  have lr := rowsS_len (inM m) l (widM m)
  have lc := colsS_len (inM m) l (widM m)
  rw [inM_len] at lr
  have hlp : 0 < l.length := List.length_pos_iff.2 hn
  generalize lowQ (inM m) l (widM m) = low at *
  generalize highQ (inM m) l (widM m) = high at *
  generalize rowsS (inM m) l (widM m) = R at *
  generalize colsS (inM m) l (widM m) = C at *
  have b1 := rbest_ok C (-1) (.inr rfl) (by omega) (fun q hq => sz_D (m := 100000) ((dc q hq).mono (by omega)))
  have b2 := rbest_ok R 1 (.inl rfl) (by omega) (fun q hq => sz_D (m := 100000) ((dr q hq).mono (by omega)))
  rw [lc] at b1
  rw [lr] at b2
  have k1 : bestG (-1) C (widM m) < C.length := by rw [lc]; exact bestG_lt _ _ _ g3
  have k2 : bestG 1 R m.length < R.length := by rw [lr]; exact bestG_lt _ _ _ (by omega)
  have dL : D 24049 low := by rw [eL]; exact dc _ (get_in 0 k1)
  have dH : D 24049 high := by rw [eH]; exact dr _ (get_in 0 k2)
  generalize bestG (-1) C (widM m) = i1 at *
  generalize bestG 1 R m.length = i2 at *
  have hnD : D 3 (l.length : Rat) := nat_D3 (by omega)
  have hn0 : (l.length : Rat) ≠ 0 := by
    rw [← Rat.intCast_natCast]
    exact intc_ne (by omega)
  have cp := parts_ok [low, high] l.length (by omega) (by show 2 ≤ 1000000; omega) (fun q hq => by
    simp at hq
    rcases hq with rfl | rfl
    · exact sz_D (m := 100000) (dL.mono (by omega))
    · exact sz_D (m := 100000) (dH.mono (by omega)))
  obtain ⟨r, co, er⟩ := outAll_ok [low / (l.length : Rat), high / (l.length : Rat)] (by show 2 ≤ 1000000; omega) (fun q hq => by
    simp at hq
    rcases hq with rfl | rfl
    · exact sz_D (m := 100000) ((dL.div hnD hn0).mono (by omega))
    · exact sz_D (m := 100000) ((dH.div hnD hn0).mono (by omega)))
  have eO : outAllF [low / (l.length : Rat), high / (l.length : Rat)] = if (fitB (low / (l.length : Rat)) && fitB (high / (l.length : Rat))) = true then ([textQ (low / (l.length : Rat)), textQ (high / (l.length : Rat))], 0) else ([], 2) := by
    unfold outAllF
    simp only [List.all_cons, List.all_nil, Bool.and_true, List.map_cons, List.map_nil]
  repeat (first
    | refine ax_q (q_move rfl) ?_
    | refine ax_post_code ?_
    | refine ax_seq ?_
    | refine ax_region rfl ?_
    | refine ax_skip ?_)
  refine ax_calls (.tup [.sl 0 0 m.length, .sl 1 0 (widM m)]) [some ⟨108, qsC R⟩, some ⟨108, qsC C⟩] rfl rfl rfl cs rfl (by simp only [shiftH, shiftO, shift_qs]; rfl) ?_
  repeat (first
    | refine ax_q (q_move rfl) ?_
    | refine ax_q (q_assign rfl) ?_
    | refine ax_ops_nil ?_
    | refine ax_post_code ?_
    | refine ax_seq ?_
    | refine ax_q (q_extract rfl rfl) ?_)
  refine ax_give_code 0 8 m.length [(1, .ro (pairsC l) 0 l.length), (9, .sl 1 0 (widM m))] rfl (refless_qs _) rfl (by show _ ≤ R.length; omega) ⟨rfl, rfl, trivial⟩ ?_
  refine ax_give_code 1 9 (widM m) [(1, .ro (pairsC l) 0 l.length), (8, .ro (qsC R) 0 m.length)] rfl (refless_qs _) rfl (by show _ ≤ C.length; omega) ⟨rfl, rfl, trivial⟩ ?_
  refine ax_drop (H1 := [none]) rfl (by rw [hfix]; exact fun h => h) ?_
  refine ax_drop (H1 := []) rfl (by rw [hfix]; exact fun h => h) ?_
  skip
  refine ax_regiond (by kernel_rfl) ?_
  refine ax_any_q 0 rfl (by kernel_rfl) (by kernel_rfl) (by kernel_rfl) rfl (q_move rfl) rfl ?_
  refine ax_any_q 1 rfl (by kernel_rfl) (by kernel_rfl) (by kernel_rfl) rfl (q_move rfl) rfl ?_
  refine ax_any_q 5 rfl (by kernel_rfl) (by kernel_rfl) (by kernel_rfl) rfl (q_move rfl) rfl ?_
  refine ax_any_q 6 rfl (by kernel_rfl) (by kernel_rfl) (by kernel_rfl) rfl (q_move rfl) rfl ?_
  apply ax_tail_any [(1, .ro (pairsC l) 0 l.length), (11, .ptr 0 0 0), (10, .ptr 1 0 0)]
  · intro fin40
    apply ax_tail_any [(1, .ro (pairsC l) 0 l.length), (10, .ptr 0 0 0), (11, .ptr 1 0 0)]
    · intro fin39
      apply ax_tail_any [(1, .ro (pairsC l) 0 l.length), (29, .ro (qsC C) 0 (widM m)), (30, .ro (qsC C) 0 (widM m)), (34, .ro (qsC R) 0 m.length), (35, .ro (qsC R) 0 m.length), (32, .rp (qsC C) i1 0), (33, .agg (cellsQ low)), (37, .rp (qsC R) i2 0), (38, .agg (cellsQ high)), (11, .ptr 0 0 0), (10, .ptr 1 0 0)]
      · intro fin38
        apply ax_tail_any [(1, .ro (pairsC l) 0 l.length), (29, .ro (qsC C) 0 (widM m)), (30, .ro (qsC C) 0 (widM m)), (34, .ro (qsC R) 0 m.length), (35, .ro (qsC R) 0 m.length), (32, .rp (qsC C) i1 0), (33, .agg (cellsQ low)), (37, .rp (qsC R) i2 0), (38, .agg (cellsQ high)), (10, .ptr 0 0 0), (11, .ptr 1 0 0)]
        · intro fin37
          apply ax_tail_any [(1, .ro (pairsC l) 0 l.length), (29, .ro (qsC C) 0 (widM m)), (30, .ro (qsC C) 0 (widM m)), (34, .ro (qsC R) 0 m.length), (35, .ro (qsC R) 0 m.length), (32, .rp (qsC C) i1 0), (33, .agg (cellsQ low)), (37, .rp (qsC R) i2 0), (38, .agg (cellsQ high)), (11, .ptr 0 0 0), (10, .ptr 1 0 0)]
          · intro fin36
            apply ax_tail_any [(1, .ro (pairsC l) 0 l.length), (29, .ro (qsC C) 0 (widM m)), (30, .ro (qsC C) 0 (widM m)), (34, .ro (qsC R) 0 m.length), (35, .ro (qsC R) 0 m.length), (32, .rp (qsC C) i1 0), (33, .agg (cellsQ low)), (37, .rp (qsC R) i2 0), (38, .agg (cellsQ high)), (10, .ptr 0 0 0), (11, .ptr 1 0 0)]
            · intro fin35
              apply ax_tail_any [(1, .ro (pairsC l) 0 l.length), (29, .ro (qsC C) 0 (widM m)), (30, .ro (qsC C) 0 (widM m)), (34, .ro (qsC R) 0 m.length), (35, .ro (qsC R) 0 m.length), (32, .rp (qsC C) i1 0), (33, .agg (cellsQ low)), (37, .rp (qsC R) i2 0), (11, .ptr 0 0 0), (10, .ptr 1 0 0)]
              · intro fin34
                apply ax_tail_any [(1, .ro (pairsC l) 0 l.length), (29, .ro (qsC C) 0 (widM m)), (30, .ro (qsC C) 0 (widM m)), (34, .ro (qsC R) 0 m.length), (35, .ro (qsC R) 0 m.length), (32, .rp (qsC C) i1 0), (33, .agg (cellsQ low)), (37, .rp (qsC R) i2 0), (10, .ptr 0 0 0), (11, .ptr 1 0 0)]
                · intro fin33
                  apply ax_tail_any [(1, .ro (pairsC l) 0 l.length), (29, .ro (qsC C) 0 (widM m)), (30, .ro (qsC C) 0 (widM m)), (34, .ro (qsC R) 0 m.length), (35, .ro (qsC R) 0 m.length), (32, .rp (qsC C) i1 0), (37, .rp (qsC R) i2 0), (38, .agg (cellsQ high)), (11, .ptr 0 0 0), (10, .ptr 1 0 0)]
                  · intro fin32
                    apply ax_tail_any [(1, .ro (pairsC l) 0 l.length), (29, .ro (qsC C) 0 (widM m)), (30, .ro (qsC C) 0 (widM m)), (34, .ro (qsC R) 0 m.length), (35, .ro (qsC R) 0 m.length), (32, .rp (qsC C) i1 0), (37, .rp (qsC R) i2 0), (38, .agg (cellsQ high)), (10, .ptr 0 0 0), (11, .ptr 1 0 0)]
                    · intro fin31
                      apply ax_tail_any [(1, .ro (pairsC l) 0 l.length), (29, .ro (qsC C) 0 (widM m)), (30, .ro (qsC C) 0 (widM m)), (34, .ro (qsC R) 0 m.length), (35, .ro (qsC R) 0 m.length), (32, .rp (qsC C) i1 0), (33, .agg (cellsQ low)), (37, .rp (qsC R) i2 0), (38, .agg (cellsQ high)), (11, .ptr 0 0 0)]
                      · intro fin30
                        apply ax_tail_any [(1, .ro (pairsC l) 0 l.length), (29, .ro (qsC C) 0 (widM m)), (30, .ro (qsC C) 0 (widM m)), (34, .ro (qsC R) 0 m.length), (35, .ro (qsC R) 0 m.length), (32, .rp (qsC C) i1 0), (33, .agg (cellsQ low)), (37, .rp (qsC R) i2 0), (38, .agg (cellsQ high)), (10, .ptr 0 0 0)]
                        · intro fin29
                          apply ax_tail_any [(1, .ro (pairsC l) 0 l.length), (29, .ro (qsC C) 0 (widM m)), (30, .ro (qsC C) 0 (widM m)), (34, .ro (qsC R) 0 m.length), (35, .ro (qsC R) 0 m.length), (32, .rp (qsC C) i1 0), (33, .agg (cellsQ low)), (37, .rp (qsC R) i2 0), (11, .ptr 0 0 0), (10, .ptr 1 0 0)]
                          · intro fin28
                            apply ax_tail_any [(1, .ro (pairsC l) 0 l.length), (29, .ro (qsC C) 0 (widM m)), (30, .ro (qsC C) 0 (widM m)), (34, .ro (qsC R) 0 m.length), (35, .ro (qsC R) 0 m.length), (32, .rp (qsC C) i1 0), (33, .agg (cellsQ low)), (37, .rp (qsC R) i2 0), (10, .ptr 0 0 0), (11, .ptr 1 0 0)]
                            · intro fin27
                              apply ax_tail_any [(1, .ro (pairsC l) 0 l.length), (29, .ro (qsC C) 0 (widM m)), (30, .ro (qsC C) 0 (widM m)), (34, .ro (qsC R) 0 m.length), (35, .ro (qsC R) 0 m.length), (32, .rp (qsC C) i1 0), (37, .rp (qsC R) i2 0), (38, .agg (cellsQ high)), (11, .ptr 0 0 0)]
                              · intro fin26
                                apply ax_tail_any [(1, .ro (pairsC l) 0 l.length), (29, .ro (qsC C) 0 (widM m)), (30, .ro (qsC C) 0 (widM m)), (34, .ro (qsC R) 0 m.length), (35, .ro (qsC R) 0 m.length), (32, .rp (qsC C) i1 0), (37, .rp (qsC R) i2 0), (38, .agg (cellsQ high)), (10, .ptr 0 0 0)]
                                · intro fin25
                                  apply ax_tail_any [(1, .ro (pairsC l) 0 l.length), (29, .ro (qsC C) 0 (widM m)), (30, .ro (qsC C) 0 (widM m)), (34, .ro (qsC R) 0 m.length), (35, .ro (qsC R) 0 m.length), (32, .rp (qsC C) i1 0), (37, .rp (qsC R) i2 0), (11, .ptr 0 0 0), (10, .ptr 1 0 0)]
                                  · intro fin24
                                    apply ax_tail_any [(1, .ro (pairsC l) 0 l.length), (29, .ro (qsC C) 0 (widM m)), (30, .ro (qsC C) 0 (widM m)), (34, .ro (qsC R) 0 m.length), (35, .ro (qsC R) 0 m.length), (32, .rp (qsC C) i1 0), (37, .rp (qsC R) i2 0), (10, .ptr 0 0 0), (11, .ptr 1 0 0)]
                                    · intro fin23
                                      apply ax_tail_any [(1, .ro (pairsC l) 0 l.length), (29, .ro (qsC C) 0 (widM m)), (30, .ro (qsC C) 0 (widM m)), (34, .ro (qsC R) 0 m.length), (35, .ro (qsC R) 0 m.length), (32, .rp (qsC C) i1 0), (33, .agg (cellsQ low)), (37, .rp (qsC R) i2 0), (38, .agg (cellsQ high))]
                                      · intro fin22
                                        apply ax_tail_any [(1, .ro (pairsC l) 0 l.length), (29, .ro (qsC C) 0 (widM m)), (30, .ro (qsC C) 0 (widM m)), (34, .ro (qsC R) 0 m.length), (35, .ro (qsC R) 0 m.length), (32, .rp (qsC C) i1 0), (33, .agg (cellsQ low)), (37, .rp (qsC R) i2 0), (11, .ptr 0 0 0)]
                                        · intro fin21
                                          apply ax_tail_any [(1, .ro (pairsC l) 0 l.length), (29, .ro (qsC C) 0 (widM m)), (30, .ro (qsC C) 0 (widM m)), (34, .ro (qsC R) 0 m.length), (35, .ro (qsC R) 0 m.length), (32, .rp (qsC C) i1 0), (33, .agg (cellsQ low)), (37, .rp (qsC R) i2 0), (10, .ptr 0 0 0)]
                                          · intro fin20
                                            apply ax_tail_any [(1, .ro (pairsC l) 0 l.length), (29, .ro (qsC C) 0 (widM m)), (30, .ro (qsC C) 0 (widM m)), (34, .ro (qsC R) 0 m.length), (35, .ro (qsC R) 0 m.length), (32, .rp (qsC C) i1 0), (33, .agg (cellsQ low)), (11, .ptr 0 0 0), (10, .ptr 1 0 0)]
                                            · intro fin19
                                              apply ax_tail_any [(1, .ro (pairsC l) 0 l.length), (29, .ro (qsC C) 0 (widM m)), (30, .ro (qsC C) 0 (widM m)), (34, .ro (qsC R) 0 m.length), (35, .ro (qsC R) 0 m.length), (32, .rp (qsC C) i1 0), (33, .agg (cellsQ low)), (10, .ptr 0 0 0), (11, .ptr 1 0 0)]
                                              · intro fin18
                                                apply ax_tail_any [(1, .ro (pairsC l) 0 l.length), (29, .ro (qsC C) 0 (widM m)), (30, .ro (qsC C) 0 (widM m)), (34, .ro (qsC R) 0 m.length), (35, .ro (qsC R) 0 m.length), (32, .rp (qsC C) i1 0), (11, .ptr 0 0 0), (10, .ptr 1 0 0)]
                                                · intro fin17
                                                  apply ax_tail_any [(1, .ro (pairsC l) 0 l.length), (29, .ro (qsC C) 0 (widM m)), (30, .ro (qsC C) 0 (widM m)), (34, .ro (qsC R) 0 m.length), (35, .ro (qsC R) 0 m.length), (32, .rp (qsC C) i1 0), (10, .ptr 0 0 0), (11, .ptr 1 0 0)]
                                                  · intro fin16
                                                    apply ax_tail_any [(1, .ro (pairsC l) 0 l.length), (29, .ro (qsC C) 0 (widM m)), (30, .ro (qsC C) 0 (widM m)), (34, .ro (qsC R) 0 m.length), (35, .ro (qsC R) 0 m.length), (32, .rp (qsC C) i1 0), (37, .rp (qsC R) i2 0), (38, .agg (cellsQ high))]
                                                    · intro fin15
                                                      apply ax_tail_any [(1, .ro (pairsC l) 0 l.length), (29, .ro (qsC C) 0 (widM m)), (30, .ro (qsC C) 0 (widM m)), (34, .ro (qsC R) 0 m.length), (35, .ro (qsC R) 0 m.length), (32, .rp (qsC C) i1 0), (37, .rp (qsC R) i2 0), (11, .ptr 0 0 0)]
                                                      · intro fin14
                                                        apply ax_tail_any [(1, .ro (pairsC l) 0 l.length), (29, .ro (qsC C) 0 (widM m)), (30, .ro (qsC C) 0 (widM m)), (34, .ro (qsC R) 0 m.length), (35, .ro (qsC R) 0 m.length), (32, .rp (qsC C) i1 0), (37, .rp (qsC R) i2 0), (10, .ptr 0 0 0)]
                                                        · intro fin13
                                                          apply ax_tail_any [(1, .ro (pairsC l) 0 l.length), (29, .ro (qsC C) 0 (widM m)), (30, .ro (qsC C) 0 (widM m)), (34, .ro (qsC R) 0 m.length), (35, .ro (qsC R) 0 m.length), (32, .rp (qsC C) i1 0), (33, .agg (cellsQ low)), (37, .rp (qsC R) i2 0)]
                                                          · intro fin12
                                                            apply ax_tail_any [(1, .ro (pairsC l) 0 l.length), (29, .ro (qsC C) 0 (widM m)), (30, .ro (qsC C) 0 (widM m)), (34, .ro (qsC R) 0 m.length), (35, .ro (qsC R) 0 m.length), (32, .rp (qsC C) i1 0), (33, .agg (cellsQ low)), (11, .ptr 0 0 0)]
                                                            · intro fin11
                                                              apply ax_tail_any [(1, .ro (pairsC l) 0 l.length), (29, .ro (qsC C) 0 (widM m)), (30, .ro (qsC C) 0 (widM m)), (34, .ro (qsC R) 0 m.length), (35, .ro (qsC R) 0 m.length), (32, .rp (qsC C) i1 0), (33, .agg (cellsQ low)), (10, .ptr 0 0 0)]
                                                              · intro fin10
                                                                apply ax_tail_any [(1, .ro (pairsC l) 0 l.length), (29, .ro (qsC C) 0 (widM m)), (30, .ro (qsC C) 0 (widM m)), (34, .ro (qsC R) 0 m.length), (35, .ro (qsC R) 0 m.length), (32, .rp (qsC C) i1 0), (11, .ptr 0 0 0)]
                                                                · intro fin9
                                                                  apply ax_tail_any [(1, .ro (pairsC l) 0 l.length), (29, .ro (qsC C) 0 (widM m)), (30, .ro (qsC C) 0 (widM m)), (34, .ro (qsC R) 0 m.length), (35, .ro (qsC R) 0 m.length), (32, .rp (qsC C) i1 0), (10, .ptr 0 0 0)]
                                                                  · intro fin8
                                                                    apply ax_tail_any [(1, .ro (pairsC l) 0 l.length), (29, .ro (qsC C) 0 (widM m)), (30, .ro (qsC C) 0 (widM m)), (34, .ro (qsC R) 0 m.length), (35, .ro (qsC R) 0 m.length), (32, .rp (qsC C) i1 0), (37, .rp (qsC R) i2 0)]
                                                                    · intro fin7
                                                                      apply ax_tail_any [(1, .ro (pairsC l) 0 l.length), (29, .ro (qsC C) 0 (widM m)), (30, .ro (qsC C) 0 (widM m)), (34, .ro (qsC R) 0 m.length), (35, .ro (qsC R) 0 m.length), (32, .rp (qsC C) i1 0), (33, .agg (cellsQ low))]
                                                                      · intro fin6
                                                                        apply ax_tail_any [(1, .ro (pairsC l) 0 l.length), (29, .ro (qsC C) 0 (widM m)), (30, .ro (qsC C) 0 (widM m)), (34, .ro (qsC R) 0 m.length), (35, .ro (qsC R) 0 m.length), (11, .ptr 0 0 0), (10, .ptr 1 0 0)]
                                                                        · intro fin5
                                                                          apply ax_tail_any [(1, .ro (pairsC l) 0 l.length), (29, .ro (qsC C) 0 (widM m)), (30, .ro (qsC C) 0 (widM m)), (34, .ro (qsC R) 0 m.length), (35, .ro (qsC R) 0 m.length), (10, .ptr 0 0 0), (11, .ptr 1 0 0)]
                                                                          · intro fin4
                                                                            apply ax_tail_any [(1, .ro (pairsC l) 0 l.length), (29, .ro (qsC C) 0 (widM m)), (30, .ro (qsC C) 0 (widM m)), (34, .ro (qsC R) 0 m.length), (35, .ro (qsC R) 0 m.length), (32, .rp (qsC C) i1 0)]
                                                                            · intro fin3
                                                                              apply ax_tail_any [(1, .ro (pairsC l) 0 l.length), (29, .ro (qsC C) 0 (widM m)), (30, .ro (qsC C) 0 (widM m)), (34, .ro (qsC R) 0 m.length), (35, .ro (qsC R) 0 m.length), (11, .ptr 0 0 0)]
                                                                              · intro fin2
                                                                                apply ax_tail_any [(1, .ro (pairsC l) 0 l.length), (29, .ro (qsC C) 0 (widM m)), (30, .ro (qsC C) 0 (widM m)), (34, .ro (qsC R) 0 m.length), (35, .ro (qsC R) 0 m.length), (10, .ptr 0 0 0)]
                                                                                · intro fin1
                                                                                  refine ax_any_step (is := [2, 10, 11]) (by kernel_rfl) (by simp) rfl ⟨fun o ho => ?_, fun o ho => ?_, fun o ho => ?_, trivial⟩
                                                                                  all_goals (cases ho)
                                                                                  · skip
                                                                                    refine ax_callv rfl rfl rfl b1 ?_
                                                                                    repeat (first
                                                                                      | refine ax_ops_nil ?_
                                                                                      | refine ax_post_any ?_)
                                                                                    refine ax_any_q 3 rfl (by kernel_rfl) (by kernel_rfl) (by kernel_rfl) rfl (q_index_ro' rfl rfl rfl rfl (by first | (simp only [Nat.zero_add, Int.toNat_natCast, Int.toNat_zero]; exact rfl) | exact rfl) (by omega)) rfl ?_
                                                                                    exact fin3 _ ⟨rfl, rfl, rfl, rfl, rfl, rfl, trivial⟩
                                                                                  · repeat (first
                                                                                      | refine ax_ops_nil ?_
                                                                                      | refine ax_post_any ?_
                                                                                      | refine ax_alloc rfl rfl rfl ?_)
                                                                                    exact fin1 _ ⟨rfl, rfl, rfl, rfl, rfl, rfl, trivial⟩
                                                                                  · repeat (first
                                                                                      | refine ax_ops_nil ?_
                                                                                      | refine ax_post_any ?_
                                                                                      | refine ax_alloc rfl rfl rfl ?_)
                                                                                    exact fin2 _ ⟨rfl, rfl, rfl, rfl, rfl, rfl, trivial⟩
                                                                                · refine ax_any_step (is := [2, 11]) (by kernel_rfl) (by simp) rfl ⟨fun o ho => ?_, fun o ho => ?_, trivial⟩
                                                                                  all_goals (cases ho)
                                                                                  · skip
                                                                                    refine ax_callv rfl rfl rfl b1 ?_
                                                                                    repeat (first
                                                                                      | refine ax_ops_nil ?_
                                                                                      | refine ax_post_any ?_)
                                                                                    refine ax_any_q 3 rfl (by kernel_rfl) (by kernel_rfl) (by kernel_rfl) rfl (q_index_ro' rfl rfl rfl rfl (by first | (simp only [Nat.zero_add, Int.toNat_natCast, Int.toNat_zero]; exact rfl) | exact rfl) (by omega)) rfl ?_
                                                                                    exact fin8 _ ⟨rfl, rfl, rfl, rfl, rfl, rfl, rfl, trivial⟩
                                                                                  · repeat (first
                                                                                      | refine ax_ops_nil ?_
                                                                                      | refine ax_post_any ?_
                                                                                      | refine ax_alloc rfl rfl rfl ?_)
                                                                                    exact fin4 _ ⟨rfl, rfl, rfl, rfl, rfl, rfl, rfl, trivial⟩
                                                                              · refine ax_any_step (is := [2, 10]) (by kernel_rfl) (by simp) rfl ⟨fun o ho => ?_, fun o ho => ?_, trivial⟩
                                                                                all_goals (cases ho)
                                                                                · skip
                                                                                  refine ax_callv rfl rfl rfl b1 ?_
                                                                                  repeat (first
                                                                                    | refine ax_ops_nil ?_
                                                                                    | refine ax_post_any ?_)
                                                                                  refine ax_any_q 3 rfl (by kernel_rfl) (by kernel_rfl) (by kernel_rfl) rfl (q_index_ro' rfl rfl rfl rfl (by first | (simp only [Nat.zero_add, Int.toNat_natCast, Int.toNat_zero]; exact rfl) | exact rfl) (by omega)) rfl ?_
                                                                                  exact fin9 _ ⟨rfl, rfl, rfl, rfl, rfl, rfl, rfl, trivial⟩
                                                                                · repeat (first
                                                                                    | refine ax_ops_nil ?_
                                                                                    | refine ax_post_any ?_
                                                                                    | refine ax_alloc rfl rfl rfl ?_)
                                                                                  exact fin5 _ ⟨rfl, rfl, rfl, rfl, rfl, rfl, rfl, trivial⟩
                                                                            · refine ax_any_step (is := [4, 7, 10, 11]) (by kernel_rfl) (by simp) rfl ⟨fun o ho => ?_, fun o ho => ?_, fun o ho => ?_, fun o ho => ?_, trivial⟩
                                                                              all_goals (cases ho)
                                                                              · repeat (first
                                                                                  | refine ax_ops_nil ?_
                                                                                  | refine ax_post_any ?_
                                                                                  | refine ax_q (q_loadagg_rp rfl rfl rfl rfl rfl rfl) ?_)
                                                                                refine ax_slot_any 33 (.agg (cellsQ low)) rfl (AEq.of_eq (by rw [eL]; rfl)) ?_
                                                                                exact fin6 _ ⟨rfl, rfl, rfl, rfl, rfl, rfl, rfl, trivial⟩
                                                                              · skip
                                                                                refine ax_callv rfl rfl rfl b2 ?_
                                                                                repeat (first
                                                                                  | refine ax_ops_nil ?_
                                                                                  | refine ax_post_any ?_)
                                                                                refine ax_any_q 8 rfl (by kernel_rfl) (by kernel_rfl) (by kernel_rfl) rfl (q_index_ro' rfl rfl rfl rfl (by first | (simp only [Nat.zero_add, Int.toNat_natCast, Int.toNat_zero]; exact rfl) | exact rfl) (by omega)) rfl ?_
                                                                                exact fin7 _ ⟨rfl, rfl, rfl, rfl, rfl, rfl, rfl, trivial⟩
                                                                              · repeat (first
                                                                                  | refine ax_ops_nil ?_
                                                                                  | refine ax_post_any ?_
                                                                                  | refine ax_alloc rfl rfl rfl ?_)
                                                                                exact fin8 _ ⟨rfl, rfl, rfl, rfl, rfl, rfl, rfl, trivial⟩
                                                                              · repeat (first
                                                                                  | refine ax_ops_nil ?_
                                                                                  | refine ax_post_any ?_
                                                                                  | refine ax_alloc rfl rfl rfl ?_)
                                                                                exact fin9 _ ⟨rfl, rfl, rfl, rfl, rfl, rfl, rfl, trivial⟩
                                                                          · refine ax_any_step (is := [2]) (by kernel_rfl) (by simp) rfl ⟨fun o ho => ?_, trivial⟩
                                                                            all_goals (cases ho)
                                                                            · skip
                                                                              refine ax_callv rfl rfl rfl b1 ?_
                                                                              repeat (first
                                                                                | refine ax_ops_nil ?_
                                                                                | refine ax_post_any ?_)
                                                                              refine ax_any_q 3 rfl (by kernel_rfl) (by kernel_rfl) (by kernel_rfl) rfl (q_index_ro' rfl rfl rfl rfl (by first | (simp only [Nat.zero_add, Int.toNat_natCast, Int.toNat_zero]; exact rfl) | exact rfl) (by omega)) rfl ?_
                                                                              exact fin16 _ ⟨rfl, rfl, rfl, rfl, rfl, rfl, rfl, rfl, trivial⟩
                                                                        · refine ax_any_step (is := [2]) (by kernel_rfl) (by simp) rfl ⟨fun o ho => ?_, trivial⟩
                                                                          all_goals (cases ho)
                                                                          · skip
                                                                            refine ax_callv rfl rfl rfl b1 ?_
                                                                            repeat (first
                                                                              | refine ax_ops_nil ?_
                                                                              | refine ax_post_any ?_)
                                                                            refine ax_any_q 3 rfl (by kernel_rfl) (by kernel_rfl) (by kernel_rfl) rfl (q_index_ro' rfl rfl rfl rfl (by first | (simp only [Nat.zero_add, Int.toNat_natCast, Int.toNat_zero]; exact rfl) | exact rfl) (by omega)) rfl ?_
                                                                            exact fin17 _ ⟨rfl, rfl, rfl, rfl, rfl, rfl, rfl, rfl, trivial⟩
                                                                      · refine ax_any_step (is := [7, 10, 11]) (by kernel_rfl) (by simp) rfl ⟨fun o ho => ?_, fun o ho => ?_, fun o ho => ?_, trivial⟩
                                                                        all_goals (cases ho)
                                                                        · skip
                                                                          refine ax_callv rfl rfl rfl b2 ?_
                                                                          repeat (first
                                                                            | refine ax_ops_nil ?_
                                                                            | refine ax_post_any ?_)
                                                                          refine ax_any_q 8 rfl (by kernel_rfl) (by kernel_rfl) (by kernel_rfl) rfl (q_index_ro' rfl rfl rfl rfl (by first | (simp only [Nat.zero_add, Int.toNat_natCast, Int.toNat_zero]; exact rfl) | exact rfl) (by omega)) rfl ?_
                                                                          exact fin12 _ ⟨rfl, rfl, rfl, rfl, rfl, rfl, rfl, rfl, trivial⟩
                                                                        · repeat (first
                                                                            | refine ax_ops_nil ?_
                                                                            | refine ax_post_any ?_
                                                                            | refine ax_alloc rfl rfl rfl ?_)
                                                                          exact fin10 _ ⟨rfl, rfl, rfl, rfl, rfl, rfl, rfl, rfl, trivial⟩
                                                                        · repeat (first
                                                                            | refine ax_ops_nil ?_
                                                                            | refine ax_post_any ?_
                                                                            | refine ax_alloc rfl rfl rfl ?_)
                                                                          exact fin11 _ ⟨rfl, rfl, rfl, rfl, rfl, rfl, rfl, rfl, trivial⟩
                                                                    · refine ax_any_step (is := [4, 9, 10, 11]) (by kernel_rfl) (by simp) rfl ⟨fun o ho => ?_, fun o ho => ?_, fun o ho => ?_, fun o ho => ?_, trivial⟩
                                                                      all_goals (cases ho)
                                                                      · repeat (first
                                                                          | refine ax_ops_nil ?_
                                                                          | refine ax_post_any ?_
                                                                          | refine ax_q (q_loadagg_rp rfl rfl rfl rfl rfl rfl) ?_)
                                                                        refine ax_slot_any 33 (.agg (cellsQ low)) rfl (AEq.of_eq (by rw [eL]; rfl)) ?_
                                                                        exact fin12 _ ⟨rfl, rfl, rfl, rfl, rfl, rfl, rfl, rfl, trivial⟩
                                                                      · repeat (first
                                                                          | refine ax_ops_nil ?_
                                                                          | refine ax_post_any ?_
                                                                          | refine ax_q (q_loadagg_rp rfl rfl rfl rfl rfl rfl) ?_)
                                                                        refine ax_slot_any 38 (.agg (cellsQ high)) rfl (AEq.of_eq (by rw [eH]; rfl)) ?_
                                                                        exact fin15 _ ⟨rfl, rfl, rfl, rfl, rfl, rfl, rfl, rfl, trivial⟩
                                                                      · repeat (first
                                                                          | refine ax_ops_nil ?_
                                                                          | refine ax_post_any ?_
                                                                          | refine ax_alloc rfl rfl rfl ?_)
                                                                        exact fin13 _ ⟨rfl, rfl, rfl, rfl, rfl, rfl, rfl, rfl, trivial⟩
                                                                      · repeat (first
                                                                          | refine ax_ops_nil ?_
                                                                          | refine ax_post_any ?_
                                                                          | refine ax_alloc rfl rfl rfl ?_)
                                                                        exact fin14 _ ⟨rfl, rfl, rfl, rfl, rfl, rfl, rfl, rfl, trivial⟩
                                                                  · refine ax_any_step (is := [4, 7, 11]) (by kernel_rfl) (by simp) rfl ⟨fun o ho => ?_, fun o ho => ?_, fun o ho => ?_, trivial⟩
                                                                    all_goals (cases ho)
                                                                    · repeat (first
                                                                        | refine ax_ops_nil ?_
                                                                        | refine ax_post_any ?_
                                                                        | refine ax_q (q_loadagg_rp rfl rfl rfl rfl rfl rfl) ?_)
                                                                      refine ax_slot_any 33 (.agg (cellsQ low)) rfl (AEq.of_eq (by rw [eL]; rfl)) ?_
                                                                      exact fin10 _ ⟨rfl, rfl, rfl, rfl, rfl, rfl, rfl, rfl, trivial⟩
                                                                    · skip
                                                                      refine ax_callv rfl rfl rfl b2 ?_
                                                                      repeat (first
                                                                        | refine ax_ops_nil ?_
                                                                        | refine ax_post_any ?_)
                                                                      refine ax_any_q 8 rfl (by kernel_rfl) (by kernel_rfl) (by kernel_rfl) rfl (q_index_ro' rfl rfl rfl rfl (by first | (simp only [Nat.zero_add, Int.toNat_natCast, Int.toNat_zero]; exact rfl) | exact rfl) (by omega)) rfl ?_
                                                                      exact fin13 _ ⟨rfl, rfl, rfl, rfl, rfl, rfl, rfl, rfl, trivial⟩
                                                                    · repeat (first
                                                                        | refine ax_ops_nil ?_
                                                                        | refine ax_post_any ?_
                                                                        | refine ax_alloc rfl rfl rfl ?_)
                                                                      exact fin16 _ ⟨rfl, rfl, rfl, rfl, rfl, rfl, rfl, rfl, trivial⟩
                                                                · refine ax_any_step (is := [4, 7, 10]) (by kernel_rfl) (by simp) rfl ⟨fun o ho => ?_, fun o ho => ?_, fun o ho => ?_, trivial⟩
                                                                  all_goals (cases ho)
                                                                  · repeat (first
                                                                      | refine ax_ops_nil ?_
                                                                      | refine ax_post_any ?_
                                                                      | refine ax_q (q_loadagg_rp rfl rfl rfl rfl rfl rfl) ?_)
                                                                    refine ax_slot_any 33 (.agg (cellsQ low)) rfl (AEq.of_eq (by rw [eL]; rfl)) ?_
                                                                    exact fin11 _ ⟨rfl, rfl, rfl, rfl, rfl, rfl, rfl, rfl, trivial⟩
                                                                  · skip
                                                                    refine ax_callv rfl rfl rfl b2 ?_
                                                                    repeat (first
                                                                      | refine ax_ops_nil ?_
                                                                      | refine ax_post_any ?_)
                                                                    refine ax_any_q 8 rfl (by kernel_rfl) (by kernel_rfl) (by kernel_rfl) rfl (q_index_ro' rfl rfl rfl rfl (by first | (simp only [Nat.zero_add, Int.toNat_natCast, Int.toNat_zero]; exact rfl) | exact rfl) (by omega)) rfl ?_
                                                                    exact fin14 _ ⟨rfl, rfl, rfl, rfl, rfl, rfl, rfl, rfl, trivial⟩
                                                                  · repeat (first
                                                                      | refine ax_ops_nil ?_
                                                                      | refine ax_post_any ?_
                                                                      | refine ax_alloc rfl rfl rfl ?_)
                                                                    exact fin17 _ ⟨rfl, rfl, rfl, rfl, rfl, rfl, rfl, rfl, trivial⟩
                                                              · refine ax_any_step (is := [7, 11]) (by kernel_rfl) (by simp) rfl ⟨fun o ho => ?_, fun o ho => ?_, trivial⟩
                                                                all_goals (cases ho)
                                                                · skip
                                                                  refine ax_callv rfl rfl rfl b2 ?_
                                                                  repeat (first
                                                                    | refine ax_ops_nil ?_
                                                                    | refine ax_post_any ?_)
                                                                  refine ax_any_q 8 rfl (by kernel_rfl) (by kernel_rfl) (by kernel_rfl) rfl (q_index_ro' rfl rfl rfl rfl (by first | (simp only [Nat.zero_add, Int.toNat_natCast, Int.toNat_zero]; exact rfl) | exact rfl) (by omega)) rfl ?_
                                                                  exact fin20 _ ⟨rfl, rfl, rfl, rfl, rfl, rfl, rfl, rfl, rfl, trivial⟩
                                                                · repeat (first
                                                                    | refine ax_ops_nil ?_
                                                                    | refine ax_post_any ?_
                                                                    | refine ax_alloc rfl rfl rfl ?_)
                                                                  exact fin18 _ ⟨rfl, rfl, rfl, rfl, rfl, rfl, rfl, rfl, rfl, trivial⟩
                                                            · refine ax_any_step (is := [7, 10]) (by kernel_rfl) (by simp) rfl ⟨fun o ho => ?_, fun o ho => ?_, trivial⟩
                                                              all_goals (cases ho)
                                                              · skip
                                                                refine ax_callv rfl rfl rfl b2 ?_
                                                                repeat (first
                                                                  | refine ax_ops_nil ?_
                                                                  | refine ax_post_any ?_)
                                                                refine ax_any_q 8 rfl (by kernel_rfl) (by kernel_rfl) (by kernel_rfl) rfl (q_index_ro' rfl rfl rfl rfl (by first | (simp only [Nat.zero_add, Int.toNat_natCast, Int.toNat_zero]; exact rfl) | exact rfl) (by omega)) rfl ?_
                                                                exact fin21 _ ⟨rfl, rfl, rfl, rfl, rfl, rfl, rfl, rfl, rfl, trivial⟩
                                                              · repeat (first
                                                                  | refine ax_ops_nil ?_
                                                                  | refine ax_post_any ?_
                                                                  | refine ax_alloc rfl rfl rfl ?_)
                                                                exact fin19 _ ⟨rfl, rfl, rfl, rfl, rfl, rfl, rfl, rfl, rfl, trivial⟩
                                                          · refine ax_any_step (is := [9, 10, 11]) (by kernel_rfl) (by simp) rfl ⟨fun o ho => ?_, fun o ho => ?_, fun o ho => ?_, trivial⟩
                                                            all_goals (cases ho)
                                                            · repeat (first
                                                                | refine ax_ops_nil ?_
                                                                | refine ax_post_any ?_
                                                                | refine ax_q (q_loadagg_rp rfl rfl rfl rfl rfl rfl) ?_)
                                                              refine ax_slot_any 38 (.agg (cellsQ high)) rfl (AEq.of_eq (by rw [eH]; rfl)) ?_
                                                              exact fin22 _ ⟨rfl, rfl, rfl, rfl, rfl, rfl, rfl, rfl, rfl, trivial⟩
                                                            · repeat (first
                                                                | refine ax_ops_nil ?_
                                                                | refine ax_post_any ?_
                                                                | refine ax_alloc rfl rfl rfl ?_)
                                                              exact fin20 _ ⟨rfl, rfl, rfl, rfl, rfl, rfl, rfl, rfl, rfl, trivial⟩
                                                            · repeat (first
                                                                | refine ax_ops_nil ?_
                                                                | refine ax_post_any ?_
                                                                | refine ax_alloc rfl rfl rfl ?_)
                                                              exact fin21 _ ⟨rfl, rfl, rfl, rfl, rfl, rfl, rfl, rfl, rfl, trivial⟩
                                                        · refine ax_any_step (is := [4, 9, 11]) (by kernel_rfl) (by simp) rfl ⟨fun o ho => ?_, fun o ho => ?_, fun o ho => ?_, trivial⟩
                                                          all_goals (cases ho)
                                                          · repeat (first
                                                              | refine ax_ops_nil ?_
                                                              | refine ax_post_any ?_
                                                              | refine ax_q (q_loadagg_rp rfl rfl rfl rfl rfl rfl) ?_)
                                                            refine ax_slot_any 33 (.agg (cellsQ low)) rfl (AEq.of_eq (by rw [eL]; rfl)) ?_
                                                            exact fin20 _ ⟨rfl, rfl, rfl, rfl, rfl, rfl, rfl, rfl, rfl, trivial⟩
                                                          · repeat (first
                                                              | refine ax_ops_nil ?_
                                                              | refine ax_post_any ?_
                                                              | refine ax_q (q_loadagg_rp rfl rfl rfl rfl rfl rfl) ?_)
                                                            refine ax_slot_any 38 (.agg (cellsQ high)) rfl (AEq.of_eq (by rw [eH]; rfl)) ?_
                                                            exact fin25 _ ⟨rfl, rfl, rfl, rfl, rfl, rfl, rfl, rfl, rfl, trivial⟩
                                                          · repeat (first
                                                              | refine ax_ops_nil ?_
                                                              | refine ax_post_any ?_
                                                              | refine ax_alloc rfl rfl rfl ?_)
                                                            exact fin23 _ ⟨rfl, rfl, rfl, rfl, rfl, rfl, rfl, rfl, rfl, trivial⟩
                                                      · refine ax_any_step (is := [4, 9, 10]) (by kernel_rfl) (by simp) rfl ⟨fun o ho => ?_, fun o ho => ?_, fun o ho => ?_, trivial⟩
                                                        all_goals (cases ho)
                                                        · repeat (first
                                                            | refine ax_ops_nil ?_
                                                            | refine ax_post_any ?_
                                                            | refine ax_q (q_loadagg_rp rfl rfl rfl rfl rfl rfl) ?_)
                                                          refine ax_slot_any 33 (.agg (cellsQ low)) rfl (AEq.of_eq (by rw [eL]; rfl)) ?_
                                                          exact fin21 _ ⟨rfl, rfl, rfl, rfl, rfl, rfl, rfl, rfl, rfl, trivial⟩
                                                        · repeat (first
                                                            | refine ax_ops_nil ?_
                                                            | refine ax_post_any ?_
                                                            | refine ax_q (q_loadagg_rp rfl rfl rfl rfl rfl rfl) ?_)
                                                          refine ax_slot_any 38 (.agg (cellsQ high)) rfl (AEq.of_eq (by rw [eH]; rfl)) ?_
                                                          exact fin26 _ ⟨rfl, rfl, rfl, rfl, rfl, rfl, rfl, rfl, rfl, trivial⟩
                                                        · repeat (first
                                                            | refine ax_ops_nil ?_
                                                            | refine ax_post_any ?_
                                                            | refine ax_alloc rfl rfl rfl ?_)
                                                          exact fin24 _ ⟨rfl, rfl, rfl, rfl, rfl, rfl, rfl, rfl, rfl, trivial⟩
                                                    · refine ax_any_step (is := [4, 10, 11]) (by kernel_rfl) (by simp) rfl ⟨fun o ho => ?_, fun o ho => ?_, fun o ho => ?_, trivial⟩
                                                      all_goals (cases ho)
                                                      · repeat (first
                                                          | refine ax_ops_nil ?_
                                                          | refine ax_post_any ?_
                                                          | refine ax_q (q_loadagg_rp rfl rfl rfl rfl rfl rfl) ?_)
                                                        refine ax_slot_any 33 (.agg (cellsQ low)) rfl (AEq.of_eq (by rw [eL]; rfl)) ?_
                                                        exact fin22 _ ⟨rfl, rfl, rfl, rfl, rfl, rfl, rfl, rfl, rfl, trivial⟩
                                                      · repeat (first
                                                          | refine ax_ops_nil ?_
                                                          | refine ax_post_any ?_
                                                          | refine ax_alloc rfl rfl rfl ?_)
                                                        exact fin25 _ ⟨rfl, rfl, rfl, rfl, rfl, rfl, rfl, rfl, rfl, trivial⟩
                                                      · repeat (first
                                                          | refine ax_ops_nil ?_
                                                          | refine ax_post_any ?_
                                                          | refine ax_alloc rfl rfl rfl ?_)
                                                        exact fin26 _ ⟨rfl, rfl, rfl, rfl, rfl, rfl, rfl, rfl, rfl, trivial⟩
                                                  · refine ax_any_step (is := [4, 7]) (by kernel_rfl) (by simp) rfl ⟨fun o ho => ?_, fun o ho => ?_, trivial⟩
                                                    all_goals (cases ho)
                                                    · repeat (first
                                                        | refine ax_ops_nil ?_
                                                        | refine ax_post_any ?_
                                                        | refine ax_q (q_loadagg_rp rfl rfl rfl rfl rfl rfl) ?_)
                                                      refine ax_slot_any 33 (.agg (cellsQ low)) rfl (AEq.of_eq (by rw [eL]; rfl)) ?_
                                                      exact fin18 _ ⟨rfl, rfl, rfl, rfl, rfl, rfl, rfl, rfl, rfl, trivial⟩
                                                    · skip
                                                      refine ax_callv rfl rfl rfl b2 ?_
                                                      repeat (first
                                                        | refine ax_ops_nil ?_
                                                        | refine ax_post_any ?_)
                                                      refine ax_any_q 8 rfl (by kernel_rfl) (by kernel_rfl) (by kernel_rfl) rfl (q_index_ro' rfl rfl rfl rfl (by first | (simp only [Nat.zero_add, Int.toNat_natCast, Int.toNat_zero]; exact rfl) | exact rfl) (by omega)) rfl ?_
                                                      exact fin23 _ ⟨rfl, rfl, rfl, rfl, rfl, rfl, rfl, rfl, rfl, trivial⟩
                                                · refine ax_any_step (is := [4, 7]) (by kernel_rfl) (by simp) rfl ⟨fun o ho => ?_, fun o ho => ?_, trivial⟩
                                                  all_goals (cases ho)
                                                  · repeat (first
                                                      | refine ax_ops_nil ?_
                                                      | refine ax_post_any ?_
                                                      | refine ax_q (q_loadagg_rp rfl rfl rfl rfl rfl rfl) ?_)
                                                    refine ax_slot_any 33 (.agg (cellsQ low)) rfl (AEq.of_eq (by rw [eL]; rfl)) ?_
                                                    exact fin19 _ ⟨rfl, rfl, rfl, rfl, rfl, rfl, rfl, rfl, rfl, trivial⟩
                                                  · skip
                                                    refine ax_callv rfl rfl rfl b2 ?_
                                                    repeat (first
                                                      | refine ax_ops_nil ?_
                                                      | refine ax_post_any ?_)
                                                    refine ax_any_q 8 rfl (by kernel_rfl) (by kernel_rfl) (by kernel_rfl) rfl (q_index_ro' rfl rfl rfl rfl (by first | (simp only [Nat.zero_add, Int.toNat_natCast, Int.toNat_zero]; exact rfl) | exact rfl) (by omega)) rfl ?_
                                                    exact fin24 _ ⟨rfl, rfl, rfl, rfl, rfl, rfl, rfl, rfl, rfl, trivial⟩
                                              · refine ax_any_step (is := [7]) (by kernel_rfl) (by simp) rfl ⟨fun o ho => ?_, trivial⟩
                                                all_goals (cases ho)
                                                · skip
                                                  refine ax_callv rfl rfl rfl b2 ?_
                                                  repeat (first
                                                    | refine ax_ops_nil ?_
                                                    | refine ax_post_any ?_)
                                                  refine ax_any_q 8 rfl (by kernel_rfl) (by kernel_rfl) (by kernel_rfl) rfl (q_index_ro' rfl rfl rfl rfl (by first | (simp only [Nat.zero_add, Int.toNat_natCast, Int.toNat_zero]; exact rfl) | exact rfl) (by omega)) rfl ?_
                                                  exact fin27 _ ⟨rfl, rfl, rfl, rfl, rfl, rfl, rfl, rfl, rfl, rfl, trivial⟩
                                            · refine ax_any_step (is := [7]) (by kernel_rfl) (by simp) rfl ⟨fun o ho => ?_, trivial⟩
                                              all_goals (cases ho)
                                              · skip
                                                refine ax_callv rfl rfl rfl b2 ?_
                                                repeat (first
                                                  | refine ax_ops_nil ?_
                                                  | refine ax_post_any ?_)
                                                refine ax_any_q 8 rfl (by kernel_rfl) (by kernel_rfl) (by kernel_rfl) rfl (q_index_ro' rfl rfl rfl rfl (by first | (simp only [Nat.zero_add, Int.toNat_natCast, Int.toNat_zero]; exact rfl) | exact rfl) (by omega)) rfl ?_
                                                exact fin28 _ ⟨rfl, rfl, rfl, rfl, rfl, rfl, rfl, rfl, rfl, rfl, trivial⟩
                                          · refine ax_any_step (is := [9, 11]) (by kernel_rfl) (by simp) rfl ⟨fun o ho => ?_, fun o ho => ?_, trivial⟩
                                            all_goals (cases ho)
                                            · repeat (first
                                                | refine ax_ops_nil ?_
                                                | refine ax_post_any ?_
                                                | refine ax_q (q_loadagg_rp rfl rfl rfl rfl rfl rfl) ?_)
                                              refine ax_slot_any 38 (.agg (cellsQ high)) rfl (AEq.of_eq (by rw [eH]; rfl)) ?_
                                              exact fin29 _ ⟨rfl, rfl, rfl, rfl, rfl, rfl, rfl, rfl, rfl, rfl, trivial⟩
                                            · repeat (first
                                                | refine ax_ops_nil ?_
                                                | refine ax_post_any ?_
                                                | refine ax_alloc rfl rfl rfl ?_)
                                              exact fin27 _ ⟨rfl, rfl, rfl, rfl, rfl, rfl, rfl, rfl, rfl, rfl, trivial⟩
                                        · refine ax_any_step (is := [9, 10]) (by kernel_rfl) (by simp) rfl ⟨fun o ho => ?_, fun o ho => ?_, trivial⟩
                                          all_goals (cases ho)
                                          · repeat (first
                                              | refine ax_ops_nil ?_
                                              | refine ax_post_any ?_
                                              | refine ax_q (q_loadagg_rp rfl rfl rfl rfl rfl rfl) ?_)
                                            refine ax_slot_any 38 (.agg (cellsQ high)) rfl (AEq.of_eq (by rw [eH]; rfl)) ?_
                                            exact fin30 _ ⟨rfl, rfl, rfl, rfl, rfl, rfl, rfl, rfl, rfl, rfl, trivial⟩
                                          · repeat (first
                                              | refine ax_ops_nil ?_
                                              | refine ax_post_any ?_
                                              | refine ax_alloc rfl rfl rfl ?_)
                                            exact fin28 _ ⟨rfl, rfl, rfl, rfl, rfl, rfl, rfl, rfl, rfl, rfl, trivial⟩
                                      · refine ax_any_step (is := [10, 11]) (by kernel_rfl) (by simp) rfl ⟨fun o ho => ?_, fun o ho => ?_, trivial⟩
                                        all_goals (cases ho)
                                        · repeat (first
                                            | refine ax_ops_nil ?_
                                            | refine ax_post_any ?_
                                            | refine ax_alloc rfl rfl rfl ?_)
                                          exact fin29 _ ⟨rfl, rfl, rfl, rfl, rfl, rfl, rfl, rfl, rfl, rfl, trivial⟩
                                        · repeat (first
                                            | refine ax_ops_nil ?_
                                            | refine ax_post_any ?_
                                            | refine ax_alloc rfl rfl rfl ?_)
                                          exact fin30 _ ⟨rfl, rfl, rfl, rfl, rfl, rfl, rfl, rfl, rfl, rfl, trivial⟩
                                    · refine ax_any_step (is := [4, 9]) (by kernel_rfl) (by simp) rfl ⟨fun o ho => ?_, fun o ho => ?_, trivial⟩
                                      all_goals (cases ho)
                                      · repeat (first
                                          | refine ax_ops_nil ?_
                                          | refine ax_post_any ?_
                                          | refine ax_q (q_loadagg_rp rfl rfl rfl rfl rfl rfl) ?_)
                                        refine ax_slot_any 33 (.agg (cellsQ low)) rfl (AEq.of_eq (by rw [eL]; rfl)) ?_
                                        exact fin27 _ ⟨rfl, rfl, rfl, rfl, rfl, rfl, rfl, rfl, rfl, rfl, trivial⟩
                                      · repeat (first
                                          | refine ax_ops_nil ?_
                                          | refine ax_post_any ?_
                                          | refine ax_q (q_loadagg_rp rfl rfl rfl rfl rfl rfl) ?_)
                                        refine ax_slot_any 38 (.agg (cellsQ high)) rfl (AEq.of_eq (by rw [eH]; rfl)) ?_
                                        exact fin31 _ ⟨rfl, rfl, rfl, rfl, rfl, rfl, rfl, rfl, rfl, rfl, trivial⟩
                                  · refine ax_any_step (is := [4, 9]) (by kernel_rfl) (by simp) rfl ⟨fun o ho => ?_, fun o ho => ?_, trivial⟩
                                    all_goals (cases ho)
                                    · repeat (first
                                        | refine ax_ops_nil ?_
                                        | refine ax_post_any ?_
                                        | refine ax_q (q_loadagg_rp rfl rfl rfl rfl rfl rfl) ?_)
                                      refine ax_slot_any 33 (.agg (cellsQ low)) rfl (AEq.of_eq (by rw [eL]; rfl)) ?_
                                      exact fin28 _ ⟨rfl, rfl, rfl, rfl, rfl, rfl, rfl, rfl, rfl, rfl, trivial⟩
                                    · repeat (first
                                        | refine ax_ops_nil ?_
                                        | refine ax_post_any ?_
                                        | refine ax_q (q_loadagg_rp rfl rfl rfl rfl rfl rfl) ?_)
                                      refine ax_slot_any 38 (.agg (cellsQ high)) rfl (AEq.of_eq (by rw [eH]; rfl)) ?_
                                      exact fin32 _ ⟨rfl, rfl, rfl, rfl, rfl, rfl, rfl, rfl, rfl, rfl, trivial⟩
                                · refine ax_any_step (is := [4, 11]) (by kernel_rfl) (by simp) rfl ⟨fun o ho => ?_, fun o ho => ?_, trivial⟩
                                  all_goals (cases ho)
                                  · repeat (first
                                      | refine ax_ops_nil ?_
                                      | refine ax_post_any ?_
                                      | refine ax_q (q_loadagg_rp rfl rfl rfl rfl rfl rfl) ?_)
                                    refine ax_slot_any 33 (.agg (cellsQ low)) rfl (AEq.of_eq (by rw [eL]; rfl)) ?_
                                    exact fin29 _ ⟨rfl, rfl, rfl, rfl, rfl, rfl, rfl, rfl, rfl, rfl, trivial⟩
                                  · repeat (first
                                      | refine ax_ops_nil ?_
                                      | refine ax_post_any ?_
                                      | refine ax_alloc rfl rfl rfl ?_)
                                    exact fin31 _ ⟨rfl, rfl, rfl, rfl, rfl, rfl, rfl, rfl, rfl, rfl, trivial⟩
                              · refine ax_any_step (is := [4, 10]) (by kernel_rfl) (by simp) rfl ⟨fun o ho => ?_, fun o ho => ?_, trivial⟩
                                all_goals (cases ho)
                                · repeat (first
                                    | refine ax_ops_nil ?_
                                    | refine ax_post_any ?_
                                    | refine ax_q (q_loadagg_rp rfl rfl rfl rfl rfl rfl) ?_)
                                  refine ax_slot_any 33 (.agg (cellsQ low)) rfl (AEq.of_eq (by rw [eL]; rfl)) ?_
                                  exact fin30 _ ⟨rfl, rfl, rfl, rfl, rfl, rfl, rfl, rfl, rfl, rfl, trivial⟩
                                · repeat (first
                                    | refine ax_ops_nil ?_
                                    | refine ax_post_any ?_
                                    | refine ax_alloc rfl rfl rfl ?_)
                                  exact fin32 _ ⟨rfl, rfl, rfl, rfl, rfl, rfl, rfl, rfl, rfl, rfl, trivial⟩
                            · refine ax_any_step (is := [9, 12]) (by kernel_rfl) (by simp) rfl ⟨fun o ho => ?_, fun o ho => ?_, trivial⟩
                              all_goals (cases ho)
                              · repeat (first
                                  | refine ax_ops_nil ?_
                                  | refine ax_post_any ?_
                                  | refine ax_q (q_loadagg_rp rfl rfl rfl rfl rfl rfl) ?_)
                                refine ax_slot_any 38 (.agg (cellsQ high)) rfl (AEq.of_eq (by rw [eH]; rfl)) ?_
                                exact fin35 _ ⟨rfl, rfl, rfl, rfl, rfl, rfl, rfl, rfl, rfl, rfl, rfl, trivial⟩
                              · skip
                                refine ax_storeagg (c' := .box (cellsQ low)) rfl rfl rfl rfl rfl Nat.zero_lt_one rfl rfl (fun i' j' hi' hj' => ?_) ?_
                                · rw [if_pos (Nat.lt_one_iff.1 hi')]; rfl
                                repeat (first
                                  | refine ax_ops_nil ?_
                                  | refine ax_post_any ?_)
                                exact fin33 _ ⟨rfl, rfl, rfl, rfl, rfl, rfl, rfl, rfl, rfl, rfl, trivial⟩
                          · refine ax_any_step (is := [9, 12]) (by kernel_rfl) (by simp) rfl ⟨fun o ho => ?_, fun o ho => ?_, trivial⟩
                            all_goals (cases ho)
                            · repeat (first
                                | refine ax_ops_nil ?_
                                | refine ax_post_any ?_
                                | refine ax_q (q_loadagg_rp rfl rfl rfl rfl rfl rfl) ?_)
                              refine ax_slot_any 38 (.agg (cellsQ high)) rfl (AEq.of_eq (by rw [eH]; rfl)) ?_
                              exact fin36 _ ⟨rfl, rfl, rfl, rfl, rfl, rfl, rfl, rfl, rfl, rfl, rfl, trivial⟩
                            · skip
                              refine ax_storeagg (c' := .box (cellsQ low)) rfl rfl rfl rfl rfl Nat.zero_lt_one rfl rfl (fun i' j' hi' hj' => ?_) ?_
                              · rw [if_pos (Nat.lt_one_iff.1 hi')]; rfl
                              repeat (first
                                | refine ax_ops_nil ?_
                                | refine ax_post_any ?_)
                              exact fin34 _ ⟨rfl, rfl, rfl, rfl, rfl, rfl, rfl, rfl, rfl, rfl, trivial⟩
                        · refine ax_any_step (is := [11]) (by kernel_rfl) (by simp) rfl ⟨fun o ho => ?_, trivial⟩
                          all_goals (cases ho)
                          · repeat (first
                              | refine ax_ops_nil ?_
                              | refine ax_post_any ?_
                              | refine ax_alloc rfl rfl rfl ?_)
                            exact fin35 _ ⟨rfl, rfl, rfl, rfl, rfl, rfl, rfl, rfl, rfl, rfl, rfl, trivial⟩
                      · refine ax_any_step (is := [10]) (by kernel_rfl) (by simp) rfl ⟨fun o ho => ?_, trivial⟩
                        all_goals (cases ho)
                        · repeat (first
                            | refine ax_ops_nil ?_
                            | refine ax_post_any ?_
                            | refine ax_alloc rfl rfl rfl ?_)
                          exact fin36 _ ⟨rfl, rfl, rfl, rfl, rfl, rfl, rfl, rfl, rfl, rfl, rfl, trivial⟩
                    · refine ax_any_step (is := [4]) (by kernel_rfl) (by simp) rfl ⟨fun o ho => ?_, trivial⟩
                      all_goals (cases ho)
                      · repeat (first
                          | refine ax_ops_nil ?_
                          | refine ax_post_any ?_
                          | refine ax_q (q_loadagg_rp rfl rfl rfl rfl rfl rfl) ?_)
                        refine ax_slot_any 33 (.agg (cellsQ low)) rfl (AEq.of_eq (by rw [eL]; rfl)) ?_
                        exact fin35 _ ⟨rfl, rfl, rfl, rfl, rfl, rfl, rfl, rfl, rfl, rfl, rfl, trivial⟩
                  · refine ax_any_step (is := [4]) (by kernel_rfl) (by simp) rfl ⟨fun o ho => ?_, trivial⟩
                    all_goals (cases ho)
                    · repeat (first
                        | refine ax_ops_nil ?_
                        | refine ax_post_any ?_
                        | refine ax_q (q_loadagg_rp rfl rfl rfl rfl rfl rfl) ?_)
                      refine ax_slot_any 33 (.agg (cellsQ low)) rfl (AEq.of_eq (by rw [eL]; rfl)) ?_
                      exact fin36 _ ⟨rfl, rfl, rfl, rfl, rfl, rfl, rfl, rfl, rfl, rfl, rfl, trivial⟩
                · refine ax_any_step (is := [9]) (by kernel_rfl) (by simp) rfl ⟨fun o ho => ?_, trivial⟩
                  all_goals (cases ho)
                  · repeat (first
                      | refine ax_ops_nil ?_
                      | refine ax_post_any ?_
                      | refine ax_q (q_loadagg_rp rfl rfl rfl rfl rfl rfl) ?_)
                    refine ax_slot_any 38 (.agg (cellsQ high)) rfl (AEq.of_eq (by rw [eH]; rfl)) ?_
                    exact fin37 _ ⟨rfl, rfl, rfl, rfl, rfl, rfl, rfl, rfl, rfl, rfl, rfl, trivial⟩
              · refine ax_any_step (is := [9]) (by kernel_rfl) (by simp) rfl ⟨fun o ho => ?_, trivial⟩
                all_goals (cases ho)
                · repeat (first
                    | refine ax_ops_nil ?_
                    | refine ax_post_any ?_
                    | refine ax_q (q_loadagg_rp rfl rfl rfl rfl rfl rfl) ?_)
                  refine ax_slot_any 38 (.agg (cellsQ high)) rfl (AEq.of_eq (by rw [eH]; rfl)) ?_
                  exact fin38 _ ⟨rfl, rfl, rfl, rfl, rfl, rfl, rfl, rfl, rfl, rfl, rfl, trivial⟩
            · refine ax_any_step (is := [12]) (by kernel_rfl) (by simp) rfl ⟨fun o ho => ?_, trivial⟩
              all_goals (cases ho)
              · skip
                refine ax_storeagg (c' := .box (cellsQ low)) rfl rfl rfl rfl rfl Nat.zero_lt_one rfl rfl (fun i' j' hi' hj' => ?_) ?_
                · rw [if_pos (Nat.lt_one_iff.1 hi')]; rfl
                repeat (first
                  | refine ax_ops_nil ?_
                  | refine ax_post_any ?_)
                exact fin37 _ ⟨rfl, rfl, rfl, rfl, rfl, rfl, rfl, rfl, rfl, rfl, rfl, trivial⟩
          · refine ax_any_step (is := [12]) (by kernel_rfl) (by simp) rfl ⟨fun o ho => ?_, trivial⟩
            all_goals (cases ho)
            · skip
              refine ax_storeagg (c' := .box (cellsQ low)) rfl rfl rfl rfl rfl Nat.zero_lt_one rfl rfl (fun i' j' hi' hj' => ?_) ?_
              · rw [if_pos (Nat.lt_one_iff.1 hi')]; rfl
              repeat (first
                | refine ax_ops_nil ?_
                | refine ax_post_any ?_)
              exact fin38 _ ⟨rfl, rfl, rfl, rfl, rfl, rfl, rfl, rfl, rfl, rfl, rfl, trivial⟩
        · refine ax_any_step (is := [13]) (by kernel_rfl) (by simp) rfl ⟨fun o ho => ?_, trivial⟩
          all_goals (cases ho)
          · skip
            refine ax_storeagg (c' := .box (cellsQ high)) rfl rfl rfl rfl rfl Nat.zero_lt_one rfl rfl (fun i' j' hi' hj' => ?_) ?_
            · rw [if_pos (Nat.lt_one_iff.1 hi')]; rfl
            repeat (first
              | refine ax_ops_nil ?_
              | refine ax_post_any ?_)
            exact fin39 _ ⟨rfl, rfl, rfl, trivial⟩
      · refine ax_any_step (is := [13]) (by kernel_rfl) (by simp) rfl ⟨fun o ho => ?_, trivial⟩
        all_goals (cases ho)
        · skip
          refine ax_storeagg (c' := .box (cellsQ high)) rfl rfl rfl rfl rfl Nat.zero_lt_one rfl rfl (fun i' j' hi' hj' => ?_) ?_
          · rw [if_pos (Nat.lt_one_iff.1 hi')]; rfl
          repeat (first
            | refine ax_ops_nil ?_
            | refine ax_post_any ?_)
          exact fin40 _ ⟨rfl, rfl, rfl, trivial⟩
    · refine ax_any_done (by kernel_rfl) ?_
      repeat (first
        | refine ax_q (q_move rfl) ?_
        | refine ax_post_code ?_
        | refine ax_seq ?_
        | refine ax_region rfl ?_
        | refine ax_q (q_len rfl rfl rfl) ?_
        | refine ax_q (q_loadpart_ptr rfl rfl rfl rfl rfl rfl rfl (by first | exact Nat.zero_lt_one | assumption | omega)) ?_
        | refine ax_buildSliceRo rfl rfl rfl rfl rfl rfl rfl rfl rfl rfl rfl ?_)
      refine ax_slot_ops 42 (.ro (qsC [low, high]) 0 2) rfl (AEq.ro rfl (fun d j hd hj => ?_)) ?_
      · have hd2 : d = 0 ∨ d = 1 := by omega
        have hj3 : j = 0 ∨ j = 1 ∨ j = 2 := by have hj : j < 3 := hj; omega
        rcases hd2 with rfl | rfl <;> rcases hj3 with rfl | rfl | rfl <;> rfl
      refine ax_callv rfl rfl rfl cp ?_
      skip
      refine ax_callv rfl rfl rfl co ?_
      cases hf : (fitB (low / (l.length : Rat)) && fitB (high / (l.length : Rat)))
      · rw [hf] at hR eO
        rw [eO]
        repeat (first
          | refine ax_q (q_move rfl) ?_
          | refine ax_q (q_assign rfl) ?_
          | refine ax_ops_nil ?_
          | refine ax_post_code ?_
          | refine ax_seq ?_
          | refine ax_region rfl ?_
          | refine ax_cond_true rfl ?_
          | refine ax_return ?_
          | refine ax_ret_code ?_
          | refine ax_q (q_neq rfl rfl) ?_
          | refine ax_q (q_extract rfl rfl) ?_)
        exact ax_ret hR rfl rfl
      · rw [hf] at hR eO
        rw [eO]
        rw [eO] at er
        repeat (first
          | refine ax_q (q_move rfl) ?_
          | refine ax_q (q_assign rfl) ?_
          | refine ax_ops_nil ?_
          | refine ax_post_code ?_
          | refine ax_seq ?_
          | refine ax_q (q_extract rfl rfl) ?_)
        refine ax_slot 12 (.ro (.strs [textQ (low / (l.length : Rat)), textQ (high / (l.length : Rat))]) 0 2) rfl er ?_
        repeat (first
          | refine ax_q (q_move rfl) ?_
          | refine ax_ops_nil ?_
          | refine ax_post_code ?_
          | refine ax_seq ?_
          | refine ax_region rfl ?_
          | refine ax_cond_false rfl ?_
          | refine ax_skip ?_
          | refine ax_q (q_neq rfl rfl) ?_)
        refine ax_regiond (by kernel_rfl) ?_
        refine ax_any_run (fuel := 0) [0, 1, 2, 3, 4, 5, 6, 7, 8] [(12, .ro (.strs [textQ (low / (l.length : Rat)), textQ (high / (l.length : Rat))]) 0 2)] ⟨rfl, trivial⟩ (by kernel_rfl) (by decide) rfl rfl ?_
        refine px_q rfl rfl (q_move rfl) ?_
        refine px_q rfl rfl (q_index_ro' rfl rfl rfl rfl (by first | (simp only [Nat.zero_add, Int.toNat_natCast, Int.toNat_zero]; exact rfl) | exact rfl) (by omega)) ?_
        refine px_q rfl rfl (q_loads_rp rfl rfl rfl) ?_
        refine px_q rfl rfl (q_move rfl) ?_
        refine px_q rfl rfl (q_index_ro' rfl rfl rfl rfl (by first | (simp only [Nat.zero_add, Int.toNat_natCast, Int.toNat_zero]; exact rfl) | exact rfl) (by omega)) ?_
        refine px_q rfl rfl (q_loads_rp rfl rfl rfl) ?_
        refine px_q rfl rfl (q_assign rfl) ?_
        refine px_q rfl rfl (q_assign rfl) ?_
        refine px_q rfl rfl (q_assign rfl) ?_
        refine px_done ?_
        refine ax_any_done (by kernel_rfl) ?_
        repeat (first
          | refine ax_post_code ?_
          | refine ax_return ?_)
        exact ax_ret hR rfl rfl
  · refine ax_any_done (by kernel_rfl) ?_
    repeat (first
      | refine ax_q (q_move rfl) ?_
      | refine ax_post_code ?_
      | refine ax_seq ?_
      | refine ax_region rfl ?_
      | refine ax_q (q_len rfl rfl rfl) ?_
      | refine ax_q (q_loadpart_ptr rfl rfl rfl rfl rfl rfl rfl (by first | exact Nat.zero_lt_one | assumption | omega)) ?_
      | refine ax_buildSliceRo rfl rfl rfl rfl rfl rfl rfl rfl rfl rfl rfl ?_)
    refine ax_slot_ops 42 (.ro (qsC [low, high]) 0 2) rfl (AEq.ro rfl (fun d j hd hj => ?_)) ?_
    · have hd2 : d = 0 ∨ d = 1 := by omega
      have hj3 : j = 0 ∨ j = 1 ∨ j = 2 := by have hj : j < 3 := hj; omega
      rcases hd2 with rfl | rfl <;> rcases hj3 with rfl | rfl | rfl <;> rfl
    refine ax_callv rfl rfl rfl cp ?_
    skip
    refine ax_callv rfl rfl rfl co ?_
    cases hf : (fitB (low / (l.length : Rat)) && fitB (high / (l.length : Rat)))
    · rw [hf] at hR eO
      rw [eO]
      repeat (first
        | refine ax_q (q_move rfl) ?_
        | refine ax_q (q_assign rfl) ?_
        | refine ax_ops_nil ?_
        | refine ax_post_code ?_
        | refine ax_seq ?_
        | refine ax_region rfl ?_
        | refine ax_cond_true rfl ?_
        | refine ax_return ?_
        | refine ax_ret_code ?_
        | refine ax_q (q_neq rfl rfl) ?_
        | refine ax_q (q_extract rfl rfl) ?_)
      exact ax_ret hR rfl rfl
    · rw [hf] at hR eO
      rw [eO]
      rw [eO] at er
      repeat (first
        | refine ax_q (q_move rfl) ?_
        | refine ax_q (q_assign rfl) ?_
        | refine ax_ops_nil ?_
        | refine ax_post_code ?_
        | refine ax_seq ?_
        | refine ax_q (q_extract rfl rfl) ?_)
      refine ax_slot 12 (.ro (.strs [textQ (low / (l.length : Rat)), textQ (high / (l.length : Rat))]) 0 2) rfl er ?_
      repeat (first
        | refine ax_q (q_move rfl) ?_
        | refine ax_ops_nil ?_
        | refine ax_post_code ?_
        | refine ax_seq ?_
        | refine ax_region rfl ?_
        | refine ax_cond_false rfl ?_
        | refine ax_skip ?_
        | refine ax_q (q_neq rfl rfl) ?_)
      refine ax_regiond (by kernel_rfl) ?_
      refine ax_any_run (fuel := 0) [0, 1, 2, 3, 4, 5, 6, 7, 8] [(12, .ro (.strs [textQ (low / (l.length : Rat)), textQ (high / (l.length : Rat))]) 0 2)] ⟨rfl, trivial⟩ (by kernel_rfl) (by decide) rfl rfl ?_
      refine px_q rfl rfl (q_move rfl) ?_
      refine px_q rfl rfl (q_index_ro' rfl rfl rfl rfl (by first | (simp only [Nat.zero_add, Int.toNat_natCast, Int.toNat_zero]; exact rfl) | exact rfl) (by omega)) ?_
      refine px_q rfl rfl (q_loads_rp rfl rfl rfl) ?_
      refine px_q rfl rfl (q_move rfl) ?_
      refine px_q rfl rfl (q_index_ro' rfl rfl rfl rfl (by first | (simp only [Nat.zero_add, Int.toNat_natCast, Int.toNat_zero]; exact rfl) | exact rfl) (by omega)) ?_
      refine px_q rfl rfl (q_loads_rp rfl rfl rfl) ?_
      refine px_q rfl rfl (q_assign rfl) ?_
      refine px_q rfl rfl (q_assign rfl) ?_
      refine px_q rfl rfl (q_assign rfl) ?_
      refine px_done ?_
      refine ax_any_done (by kernel_rfl) ?_
      repeat (first
        | refine ax_post_code ?_
        | refine ax_return ?_)
      exact ax_ret hR rfl rfl
end Go.Proofs.YtgmleamhjnlknaaGreatDoor

namespace Go.Proofs.YtgmleamhjnlknaaGreatDoor
open Go.Ax Go.Ax.Bg Go.Ax.Rt Go.RowKit Go.Ax.Idx Go.Ax.Cd
attribute [local irreducible] Ax Post QOp ACall PureOp
set_option maxRecDepth 100000
set_option maxHeartbeats 4000000

/-- Numbers that may not be there yet. -/
def cellsZ : Option Rat → List AV
  | some q => cellsQ q
  | none => [.bool false, .nil, .nil]
abbrev zsC (l : List (Option Rat)) : Cells := rowE none 3 cellsZ l
theorem zs_end (n : Nat) : CEq (zsC (mixL (fun _ : Option Rat => some (0 : Rat)) (List.replicate n none) n)) (qsC (List.replicate n 0)) := by
  have e : mixL (fun _ : Option Rat => some (0 : Rat)) (List.replicate n none) n = List.replicate n (some 0) := by
    have := mixL_all (fun _ : Option Rat => some (0 : Rat)) (List.replicate n none)
    rw [List.length_replicate] at this
    rw [this, List.map_replicate]
  rw [e]
  refine ⟨by simp [rowE, Cells.len], rfl, fun i j hi hj => ?_⟩
  have hi : i < n := by simpa [rowE, Cells.len] using hi
  show (cellsQ ((List.replicate n (0 : Rat)).getD i 0)).getD j .any = (cellsZ ((List.replicate n (some (0 : Rat))).getD i none)).getD j .any
  rw [get_el 0 (by simpa using hi), get_el none (by simpa using hi), List.getElem_replicate, List.getElem_replicate]
  rfl
theorem zs_zero (n : Nat) : CEq (zeroCellsOf n [.bool false, .nil, .nil]) (zsC (List.replicate n none)) := by
  refine ⟨by simp [rowE, Cells.len, zeroCellsOf], rfl, fun i j hi hj => ?_⟩
  have hi : i < n := by simpa [Cells.len, zeroCellsOf] using hi
  show (cellsZ ((List.replicate n (none : Option Rat)).getD i none)).getD j .any = _
  rw [get_el none (by simpa using hi), List.getElem_replicate]
  rfl
theorem rowP1 (i k : Nat) (j : Nat) (hj : j < 2) : (rowOf 1 2 [.int .i64 (i : Nat), .int .i64 (k : Nat)]).at 0 j = (cellsP ((i : Int), (k : Int))).getD j .any := by
  match j, hj with
  | 0, _ => rfl
  | 1, _ => rfl
theorem set_rowE {α : Type} (d : α) (n : Nat) (e : α → List AV) (zs : List α) (k : Nat) (a : α) (hk : k < zs.length) (i' j' : Nat) (hi' : i' < zs.length) (hj' : j' < n) : (rowE d n e (zs.set k a)).at i' j' = if i' = k then (e a).getD j' .any else (rowE d n e zs).at i' j' := by
  show (e ((zs.set k a).getD i' d)).getD j' .any = if i' = k then (e a).getD j' .any else (e (zs.getD i' d)).getD j' .any
  rw [Go.Ax.Dt.getD_set]
  by_cases h : i' = k
  · rw [if_pos h, if_pos ⟨h, hk⟩]
  · rw [if_neg h, if_neg (fun q => h q.1)]
theorem get_out {α : Type} {l : List α} {j : Nat} (d : α) (h : l.length ≤ j) : l.getD j d = d := by simp [List.getD, h]
theorem playN_D {m : List (List Rat)} {w : Nat} (hm : ∀ r ∈ m, ∀ q ∈ r, D 2000 q) : ∀ n, (∀ q ∈ (playN m w n).rows, D (1 + n * 2001) q) ∧ ∀ q ∈ (playN m w n).cols, D (1 + n * 2001) q
  | 0 => by
    have hz : D 1 (0 : Rat) := ⟨by decide, by decide⟩
    refine ⟨fun q hq => ?_, fun q hq => ?_⟩
    · obtain ⟨_, rfl⟩ := List.mem_replicate.1 hq; exact hz
    · obtain ⟨_, rfl⟩ := List.mem_replicate.1 hq; exact hz
  | n + 1 => by
    obtain ⟨h1, h2⟩ := playN_D hm n
    have hel : ∀ i j, D 2000 ((m.getD i []).getD j 0) := by
      intro i j
      have hz : D 2000 (0 : Rat) := D.mono (j := 1) ⟨by decide, by decide⟩ (by omega)
      rcases Nat.lt_or_ge i m.length with hi | hi
      · rcases Nat.lt_or_ge j (m.getD i []).length with hj | hj
        · exact hm _ (get_in [] hi) _ (get_in 0 hj)
        · rw [get_out 0 hj]; exact hz
      · rw [get_out [] hi]; exact hz
    refine ⟨fun q hq => ?_, fun q hq => ?_⟩
    · obtain ⟨j, hj, rfl⟩ := List.mem_map.1 hq
      have hj : j < (playN m w n).rows.length := by simpa using hj
      exact ((h1 _ (get_in 0 hj)).add (hel _ _)).mono (by omega)
    · obtain ⟨j, hj, rfl⟩ := List.mem_map.1 hq
      have hj : j < (playN m w n).cols.length := by simpa using hj
      exact ((h2 _ (get_in 0 hj)).add (hel _ _)).mono (by omega)
def histA (p : Hist × Int) : AV := .tup [.ro (pairsC p.1) 0 p.1.length, .int .i64 p.2]
theorem refless_pairs (l : Hist) : refless (pairsC l) := by
  intro i j _ hj
  have hj : j < 2 := hj
  match j, hj with
  | 0, _ => rfl
  | 1, _ => rfl
theorem cellsP_noref (x : Int × Int) (j h : Nat) (hj : j < 2) : ((cellsP x).getD j .any).forget h = (cellsP x).getD j .any := by
  match j, hj with
  | 0, _ => rfl
  | 1, _ => rfl
theorem play_ok (m : List (List Text)) (n : Int) (hlen : m.length ≤ 9223372036854775807) (hr : ∀ r ∈ m, r.length ≤ 9223372036854775807 ∧ ∀ s ∈ r, s.length ≤ 9223372036854775807) : VCall Tryz.prog 18 [.ro (rowsT m) 0 m.length, .int .i64 n] (histA (playR m n)) := by
  have cm := game_ok m hlen hr
  refine ACall.value0 (acall_of_ax (P := Tryz.prog) (fn := Tryz.f18) rfl rfl (by kernel_rfl) rfl (fun c hR hfix => ?_)) (fix := fun _ => False) (fun _ h => h) rfl rfl
  repeat (first
    | refine ax_q (q_move rfl) ?_
    | refine ax_q (q_assign rfl) ?_
    | refine ax_ops_nil ?_
    | refine ax_post_code ?_
    | refine ax_seq ?_
    | refine ax_region rfl ?_)
  refine ax_callv rfl rfl rfl cm ?_
  repeat (first
    | refine ax_q (q_move rfl) ?_
    | refine ax_q (q_assign rfl) ?_
    | refine ax_ops_nil ?_
    | refine ax_post_code ?_
    | refine ax_seq ?_
    | refine ax_region rfl ?_
    | refine ax_q (q_neq rfl rfl) ?_)
  refine ax_cond_dec rfl (fun h1 => ?_) (fun h1 => ?_)
  · have e : playR m n = ([], gameE m) := by unfold playR; rw [if_pos h1]
    rw [e] at hR
    repeat (first
      | refine ax_q (q_move rfl) ?_
      | refine ax_q (q_assign rfl) ?_
      | refine ax_ops_nil ?_
      | refine ax_post_code ?_
      | refine ax_seq ?_
      | refine ax_region rfl ?_)
    refine ax_slot 4 (.ro (pairsC []) 0 0) rfl AEq.nil ?_
    repeat (first
      | refine ax_return ?_
      | refine ax_ret_code ?_)
    exact ax_ret hR rfl rfl
  have h1' := Classical.not_not.1 h1
  obtain ⟨g1, g2, g3, g4, g5⟩ := gameE_zero h1'
  have hM := matE_zero g1
  have hv := valid_in g1
  have nm := min_ok m (by omega) (fun r h => ⟨by have := hM.cols r h; omega, fun s hs => ⟨(hr r h).2 s hs, hM.ok r h s hs⟩⟩)
  have hm1 : 0 < m.length := by cases m with | nil => exact absurd rfl g5 | cons _ _ => exact Nat.succ_pos _
  have hml0 := inM_len m
  repeat (first
    | refine ax_q (q_move rfl) ?_
    | refine ax_post_code ?_
    | refine ax_seq ?_
    | refine ax_region rfl ?_
    | refine ax_skip ?_
    | refine ax_q (q_lss rfl rfl) ?_)
  refine ax_gsplit rfl rfl (fun h2 => ?_) (fun h2 => ?_)
  · have e : playR m n = ([], 4) := by unfold playR; rw [if_neg h1, if_pos (.inl h2)]
    rw [e] at hR
    repeat (first
      | refine ax_q (q_assign rfl) ?_
      | refine ax_ops_nil ?_
      | refine ax_post_code ?_
      | refine ax_seq ?_
      | refine ax_region rfl ?_
      | refine ax_skip_not rfl rfl rfl ?_
      | refine ax_cond_true rfl ?_
      | refine ax_q (q_pick rfl rfl) ?_)
    refine ax_slot 4 (.ro (pairsC []) 0 0) rfl AEq.nil ?_
    repeat (first
      | refine ax_return ?_
      | refine ax_ret_code ?_)
    exact ax_ret hR rfl rfl
  repeat (first
    | refine ax_q (q_move rfl) ?_
    | refine ax_ops_nil ?_
    | refine ax_post_code ?_
    | refine ax_guard rfl rfl ?_
    | refine ax_q (q_gtr rfl rfl) ?_
    | refine ax_q (q_pick rfl rfl) ?_)
  refine ax_cond_dec rfl (fun h3 => ?_) (fun h3 => ?_)
  · have e : playR m n = ([], 4) := by unfold playR; rw [if_neg h1, if_pos (.inr h3)]
    rw [e] at hR
    repeat (first
      | refine ax_q (q_assign rfl) ?_
      | refine ax_ops_nil ?_
      | refine ax_post_code ?_
      | refine ax_seq ?_
      | refine ax_region rfl ?_)
    refine ax_slot 4 (.ro (pairsC []) 0 0) rfl AEq.nil ?_
    repeat (first
      | refine ax_return ?_
      | refine ax_ret_code ?_)
    exact ax_ret hR rfl rfl
  have e : playR m n = (histOf (playN (inM m) (widM m) n.toNat).out, 0) := by unfold playR; rw [if_neg h1, if_neg (by omega)]
  rw [e] at hR
  obtain ⟨N, rfl⟩ := Int.eq_ofNat_of_zero_le (show 0 ≤ n by omega)
  rw [show ((N : Int)).toNat = N from Int.toNat_natCast N] at hR
  have hwd : (m.getD 0 []).length = widM m := rfl
  repeat (first
    | refine ax_q (q_move rfl) ?_
    | refine ax_post_code ?_
    | refine ax_seq ?_
    | refine ax_region rfl ?_
    | refine ax_skip ?_)
  refine ax_callv rfl rfl rfl nm ?_
  repeat (first
    | refine ax_q (q_move rfl) ?_
    | refine ax_q (q_assign rfl) ?_
    | refine ax_ops_nil ?_
    | refine ax_post_code ?_
    | refine ax_seq ?_
    | refine ax_region rfl ?_
    | refine ax_q (q_len rfl rfl rfl) ?_)
  refine ax_make rfl rfl rfl rfl rfl rfl rfl rfl (by show (0 : Int) ≤ _ ∧ _ ≤ _ ∧ (56 : Int) * _ ≤ _ ∧ _; omega) ?_
  repeat (first
    | refine ax_q (q_move rfl) ?_
    | refine ax_q (q_assign rfl) ?_
    | refine ax_ops_nil ?_
    | refine ax_post_code ?_
    | refine ax_seq ?_
    | refine ax_region rfl ?_
    | refine ax_q (q_loadf_rp rfl rfl rfl rfl) ?_
    | refine ax_q (q_len rfl rfl rfl) ?_
    | refine ax_q (q_index_ro' rfl rfl rfl rfl (by first | (simp only [Nat.zero_add, Int.toNat_natCast, Int.toNat_zero]; exact rfl) | exact rfl) (by omega)) ?_)
  refine ax_make rfl rfl rfl rfl rfl rfl rfl rfl (by show (0 : Int) ≤ _ ∧ _ ≤ _ ∧ (56 : Int) * _ ≤ _ ∧ _; omega) ?_
  repeat (first
    | refine ax_q (q_move rfl) ?_
    | refine ax_q (q_assign rfl) ?_
    | refine ax_ops_nil ?_
    | refine ax_post_code ?_
    | refine ax_seq ?_
    | refine ax_region rfl ?_
    | refine ax_block ?_
    | refine ax_q (q_len rfl rfl rfl) ?_)
  refine ax_heap [some ⟨108, zsC (List.replicate m.length none)⟩, some ⟨108, zsC (List.replicate (widM m) none)⟩] ?_ ?_
  · exact HSub.eqv (zs_zero _) (HSub.eqv (zs_zero _) HSub.nil)
  have eM : ∃ M, M = inM m := ⟨_, rfl⟩
  obtain ⟨M, eM⟩ := eM
  rw [← eM] at hR hml0 hv
  rw [← eM]
  refine ax_loop (ι := Nat) (fun k => [(1, .int .i64 (N : Nat)), (7, .ro (rowsQ M) 0 m.length), (8, .sl 0 0 m.length), (9, .sl 1 0 (widM m)), (38, .sl 0 0 m.length), (39, .int .i64 (m.length : Nat)), (40, .int .i64 (k : Nat))]) (fun k => [some ⟨108, zsC (mixL (fun _ : Option Rat => some (0 : Rat)) (List.replicate (m.length) none) k)⟩, some ⟨108, zsC (List.replicate (widM m) none)⟩])
    (fun k => k ≤ m.length) (fun k => m.length - k) 0 ⟨⟨rfl, rfl, rfl, rfl, rfl, rfl, rfl, trivial⟩, by rw [mixL_zero], Nat.zero_le _⟩ ?_
  intro k hk
  repeat (first
    | refine ax_ops_nil ?_
    | refine ax_post_code ?_
    | refine ax_seq ?_
    | refine ax_region rfl ?_
    | refine ax_q (q_lss rfl rfl) ?_)
  refine ax_cond_dec rfl (fun h => ?_) (fun h => ?_)
  · have hk' : k < m.length := by omega
    have hset := mixL_set (fun _ : Option Rat => some (0 : Rat)) (List.replicate (m.length) none) none (k := k) (by simpa using hk')
    have hml := mixL_len (fun _ : Option Rat => some (0 : Rat)) (List.replicate (m.length) none) k
    rw [List.length_replicate] at hml
    generalize mixL (fun _ : Option Rat => some (0 : Rat)) (List.replicate (m.length) none) k = zs at *
    have hkz : k < zs.length := by omega
    repeat (first
      | refine ax_q (q_move rfl) ?_
      | refine ax_q (q_assign rfl) ?_
      | refine ax_ops_nil ?_
      | refine ax_post_code ?_
      | refine ax_seq ?_
      | refine ax_region rfl ?_
      | refine ax_block ?_
      | refine ax_skip ?_)
    refine ax_callv rfl rfl rfl of_zero ?_
    repeat (refine ax_q (q_index_sl' rfl rfl rfl rfl rfl (by first | (simp only [Nat.zero_add, Int.toNat_natCast, Int.toNat_zero]; exact rfl) | exact rfl) (by omega)) ?_)
    unfold qA
    refine ax_storeagg (c' := zsC (zs.set k (some 0))) rfl rfl rfl rfl rfl hkz (by show (zs.set k (some 0)).length = zs.length; simp) rfl (fun i' j' hi' hj' => set_rowE none 3 cellsZ zs k (some 0) hkz i' j' hi' hj') ?_
    repeat (first
      | refine ax_q (q_move rfl) ?_
      | refine ax_ops_nil ?_
      | refine ax_post_code ?_
      | refine ax_region rfl ?_
      | refine ax_post_blk ?_
      | refine ax_q (q_add rfl rfl (by omega)) ?_)
    exact ax_post_inv ⟨k + 1, by omega, by omega, ⟨rfl, rfl, rfl, rfl, rfl, rfl, rfl, trivial⟩, by rw [← hset]; rfl⟩
  have hke : k = m.length := by omega
  subst hke
  repeat (first
    | refine ax_q (q_move rfl) ?_
    | refine ax_ops_nil ?_
    | refine ax_post_code ?_
    | refine ax_seq ?_
    | refine ax_region rfl ?_
    | refine ax_block ?_
    | refine ax_exit ?_
    | refine ax_exit_here ?_
    | refine ax_exit_code ?_
    | refine ax_exit_inv ?_
    | refine ax_q (q_len rfl rfl rfl) ?_)
  refine ax_heap [some ⟨108, qsC (List.replicate m.length 0)⟩, some ⟨108, zsC (List.replicate (widM m) none)⟩] ?_ ?_
  · exact HSub.eqv (zs_end _) (HSub.eqv (CEq.refl _) HSub.nil)
  refine ax_loop (ι := Nat) (fun k => [(1, .int .i64 (N : Nat)), (7, .ro (rowsQ M) 0 m.length), (8, .sl 0 0 m.length), (9, .sl 1 0 (widM m)), (48, .sl 1 0 (widM m)), (49, .int .i64 ((widM m) : Nat)), (50, .int .i64 (k : Nat))]) (fun k => [some ⟨108, qsC (List.replicate m.length 0)⟩, some ⟨108, zsC (mixL (fun _ : Option Rat => some (0 : Rat)) (List.replicate (widM m) none) k)⟩])
    (fun k => k ≤ (widM m)) (fun k => (widM m) - k) 0 ⟨⟨rfl, rfl, rfl, rfl, rfl, rfl, rfl, trivial⟩, by rw [mixL_zero], Nat.zero_le _⟩ ?_
  intro k hk
  repeat (first
    | refine ax_ops_nil ?_
    | refine ax_post_code ?_
    | refine ax_seq ?_
    | refine ax_region rfl ?_
    | refine ax_q (q_lss rfl rfl) ?_)
  refine ax_cond_dec rfl (fun h => ?_) (fun h => ?_)
  · have hk' : k < (widM m) := by omega
    have hset := mixL_set (fun _ : Option Rat => some (0 : Rat)) (List.replicate ((widM m)) none) none (k := k) (by simpa using hk')
    have hml := mixL_len (fun _ : Option Rat => some (0 : Rat)) (List.replicate ((widM m)) none) k
    rw [List.length_replicate] at hml
    generalize mixL (fun _ : Option Rat => some (0 : Rat)) (List.replicate ((widM m)) none) k = zs at *
    have hkz : k < zs.length := by omega
    repeat (first
      | refine ax_q (q_move rfl) ?_
      | refine ax_q (q_assign rfl) ?_
      | refine ax_ops_nil ?_
      | refine ax_post_code ?_
      | refine ax_seq ?_
      | refine ax_region rfl ?_
      | refine ax_block ?_
      | refine ax_skip ?_)
    refine ax_callv rfl rfl rfl of_zero ?_
    repeat (refine ax_q (q_index_sl' rfl rfl rfl rfl rfl (by first | (simp only [Nat.zero_add, Int.toNat_natCast, Int.toNat_zero]; exact rfl) | exact rfl) (by omega)) ?_)
    unfold qA
    refine ax_storeagg (c' := zsC (zs.set k (some 0))) rfl rfl rfl rfl rfl hkz (by show (zs.set k (some 0)).length = zs.length; simp) rfl (fun i' j' hi' hj' => set_rowE none 3 cellsZ zs k (some 0) hkz i' j' hi' hj') ?_
    repeat (first
      | refine ax_q (q_move rfl) ?_
      | refine ax_ops_nil ?_
      | refine ax_post_code ?_
      | refine ax_region rfl ?_
      | refine ax_post_blk ?_
      | refine ax_q (q_add rfl rfl (by omega)) ?_)
    exact ax_post_inv ⟨k + 1, by omega, by omega, ⟨rfl, rfl, rfl, rfl, rfl, rfl, rfl, trivial⟩, by rw [← hset]; rfl⟩
  have hke : k = widM m := by omega
  rw [hke]
  repeat (first
    | refine ax_q (q_move rfl) ?_
    | refine ax_q (q_assign rfl) ?_
    | refine ax_ops_nil ?_
    | refine ax_post_code ?_
    | refine ax_seq ?_
    | refine ax_region rfl ?_
    | refine ax_exit ?_
    | refine ax_exit_here ?_
    | refine ax_exit_code ?_
    | refine ax_exit_inv ?_)
  refine ax_heap [some ⟨108, qsC (List.replicate m.length 0)⟩, some ⟨108, qsC (List.replicate (widM m) 0)⟩] ?_ ?_
  · exact HSub.eqv (CEq.refl _) (HSub.eqv (zs_end _) HSub.nil)
  refine ax_nilobj 12 ⟨32, pairsC []⟩ rfl rfl ?_
  repeat (refine ax_block ?_)
  refine ax_loop (ι := Nat) (fun r => [(7, .ro (rowsQ M) 0 m.length), (8, .sl 0 0 m.length), (9, .sl 1 0 (widM m)), (12, .sl 2 0 r), (58, .int .i64 (N : Nat)), (59, .int .i64 (r : Nat))]) (fun r => [some ⟨108, qsC (playN M (widM m) r).rows⟩, some ⟨108, qsC (playN M (widM m) r).cols⟩, some ⟨32, pairsC (histOf (playN M (widM m) r).out)⟩])
    (fun r => r ≤ N) (fun r => N - r) 0 ⟨⟨rfl, rfl, rfl, rfl, rfl, rfl, trivial⟩, by rw [← hml0]; rfl, Nat.zero_le _⟩ ?_
  intro r hrN
  obtain ⟨l1, l2, l3⟩ := playN_len M (widM m) r
  obtain ⟨d1, d2⟩ := playN_D (m := M) (w := widM m) (fun r h => (hv r h).2) r
  have hb : r * 2001 ≤ 200 * 2001 := Nat.mul_le_mul_right _ (by omega)
  have hstep : playN M (widM m) (r + 1) = playStep M (playN M (widM m) r) := rfl
  generalize hs : playN M (widM m) r = s at *
  have hol := histOf_len s.out
  repeat (first
    | refine ax_ops_nil ?_
    | refine ax_post_code ?_
    | refine ax_seq ?_
    | refine ax_region rfl ?_
    | refine ax_q (q_lss rfl rfl) ?_)
  refine ax_cond_dec rfl (fun h => ?_) (fun h => ?_)
  · have b1 := rbest_ok s.rows 1 (.inl rfl) (by omega) (fun q hq => sz_D (m := 100000) ((d1 q hq).mono (by omega)))
    have b2 := rbest_ok s.cols (-1) (.inr rfl) (by omega) (fun q hq => sz_D (m := 100000) ((d2 q hq).mono (by omega)))
    have k1 : bestG 1 s.rows s.rows.length < s.rows.length := bestG_lt _ _ _ (by omega)
    have k2 : bestG (-1) s.cols s.cols.length < s.cols.length := bestG_lt _ _ _ (by omega)
    have e1 : playN M (widM m) (r + 1) = ⟨updL (fun j => (M.getD j []).getD (bestG (-1) s.cols s.cols.length) 0) s.rows s.rows.length, updL (fun j => (M.getD (bestG 1 s.rows s.rows.length) []).getD j 0) s.cols s.cols.length, s.out ++ [(bestG 1 s.rows s.rows.length, bestG (-1) s.cols s.cols.length)]⟩ := by
      rw [hstep, updL_all, updL_all]; rfl
    have hsn := histOf_snoc s.out (bestG 1 s.rows s.rows.length) (bestG (-1) s.cols s.cols.length)
    generalize bestG 1 s.rows s.rows.length = i at *
    generalize bestG (-1) s.cols s.cols.length = k at *
    rw [l1, hml0] at b1 k1
    rw [l2] at b2 k2
    generalize s.rows = R at *
    generalize s.cols = C at *
    generalize s.out = O at *
    generalize histOf O = HO at *
    have hel : ∀ i j, D 2000 ((M.getD i []).getD j 0) := by
      intro i j
      have hz : D 2000 (0 : Rat) := D.mono (j := 1) ⟨by decide, by decide⟩ (by omega)
      rcases Nat.lt_or_ge i M.length with hi | hi
      · rcases Nat.lt_or_ge j (M.getD i []).length with hj | hj
        · exact (hv _ (get_in [] hi)).2 _ (get_in 0 hj)
        · rw [get_out 0 hj]; exact hz
      · rw [get_out [] hi]; exact hz
    repeat (first
      | refine ax_q (q_move rfl) ?_
      | refine ax_post_code ?_
      | refine ax_seq ?_
      | refine ax_region rfl ?_
      | refine ax_block ?_
      | refine ax_skip ?_)
    refine ax_calll rfl rfl rfl rfl b1 (refl3 (refless_qs _) (refless_qs _) (refless_pairs _)) ⟨fun o ho => by simp at ho; subst ho; show 0 + m.length ≤ R.length; omega, trivial, trivial⟩ rfl rfl rfl ?_
    repeat (refine ax_q (q_move rfl) ?_)
    refine ax_calll rfl rfl rfl rfl b2 (refl3 (refless_qs _) (refless_qs _) (refless_pairs _)) ⟨fun o ho => by simp at ho; subst ho; show 0 + widM m ≤ C.length; omega, trivial, trivial⟩ rfl rfl rfl ?_
    repeat (first
      | refine ax_q (q_move rfl) ?_
      | refine ax_q (q_assign rfl) ?_
      | refine ax_ops_nil ?_
      | refine ax_post_code ?_
      | refine ax_seq ?_
      | refine ax_region rfl ?_
      | refine ax_q (q_build rfl rfl rfl rfl rfl rfl) ?_
      | refine ax_buildSliceRo rfl rfl rfl rfl rfl rfl rfl rfl rfl rfl rfl ?_)
    refine ax_append rfl rfl rfl rfl rfl rfl rfl rfl rfl (hol.trans l3) rfl rfl (by show 0 + 1 ≤ 1; omega) rfl (by show (r + 1) * 16 ≤ _ ∧ _; omega) ?_ (by rw [hfix]; exact fun h => h) ?_
    · intro i' j hi hj
      exact rowE_noref (0, 0) 2 cellsP cellsP_noref HO ((i : Int), (k : Int)) _ (rowP1 i k) 2 i' j hi hj
    repeat (first
      | refine ax_q (q_move rfl) ?_
      | refine ax_q (q_assign rfl) ?_
      | refine ax_ops_nil ?_
      | refine ax_post_code ?_
      | refine ax_seq ?_
      | refine ax_region rfl ?_
      | refine ax_block ?_
      | refine ax_q (q_len rfl rfl rfl) ?_)
    refine ax_heap [some ⟨108, qsC R⟩, some ⟨108, qsC C⟩, some ⟨32, pairsC (HO ++ [((i : Int), (k : Int))])⟩] ?_ ?_
    · exact HSub.eqv ⟨rfl, rfl, fun i j _ hj => (cellsQ_noref _ j _ hj).symm⟩ (HSub.eqv ⟨rfl, rfl, fun i j _ hj => (cellsQ_noref _ j _ hj).symm⟩ (HSub.eqv (rowE_snoc (0, 0) 2 cellsP HO ((i : Int), (k : Int)) _ (rowP1 i k)) HSub.nil))
    generalize hHO : HO ++ [((i : Int), (k : Int))] = HO2 at *
    have hHL : HO2.length = r + 1 := by rw [← hHO, List.length_append, hol, l3]; rfl
    refine ax_loop (ι := Nat) (fun j => [(7, .ro (rowsQ M) 0 m.length), (8, .sl 0 0 m.length), (9, .sl 1 0 (widM m)), (12, .sl 2 0 (r + 1)), (13, .int .i64 (i : Nat)), (14, .int .i64 (k : Nat)), (58, .int .i64 (N : Nat)), (59, .int .i64 (r : Nat)), (71, .sl 0 0 (m.length)), (72, .int .i64 (m.length : Nat)), (73, .int .i64 (j : Nat))]) (fun j => [some ⟨108, qsC (updL (fun j => (M.getD j []).getD k 0) R j)⟩, some ⟨108, qsC C⟩, some ⟨32, pairsC HO2⟩])
      (fun j => j ≤ m.length) (fun j => m.length - j) 0 ⟨⟨rfl, rfl, rfl, rfl, rfl, rfl, rfl, rfl, rfl, rfl, rfl, trivial⟩, by rw [updL_zero], Nat.zero_le _⟩ ?_
    intro j hj
    repeat (first
      | refine ax_ops_nil ?_
      | refine ax_post_code ?_
      | refine ax_seq ?_
      | refine ax_region rfl ?_
      | refine ax_q (q_lss rfl rfl) ?_)
    refine ax_cond_dec rfl (fun h => ?_) (fun h => ?_)
    · have hj' : j < R.length := by omega
      have hrl : (M.getD j []).length = widM m := (hv _ (get_in [] (by omega))).1
      have hkr : k < (M.getD j []).length := by omega
      have hset := updL_set (fun j => (M.getD j []).getD k 0) R hj'
      have hget : (updL (fun j => (M.getD j []).getD k 0) R j).getD j 0 = R.getD j 0 := by rw [updL_get (fun j => (M.getD j []).getD k 0) R hj', if_neg (Nat.lt_irrefl j)]
      have hml := updL_len (fun j => (M.getD j []).getD k 0) R j
      have hq := d1 _ (get_in 0 hj')
      generalize updL (fun j => (M.getD j []).getD k 0) R j = zs at *
      have hjz : j < zs.length := by omega
      have cadd : VCall Tryz.prog 67 [qA (zs.getD j 0), qA ((M.getD j []).getD k 0)] (qA (R.getD j 0 + (M.getD j []).getD k 0)) := by
        rw [hget]
        exact qadd_ok _ _ (sz_D (m := 100000) (hq.mono (by omega))) (sz_D (m := 100000) ((hel j k).mono (by omega)))
      repeat (first
        | refine ax_q (q_move rfl) ?_
        | refine ax_q (q_assign rfl) ?_
        | refine ax_ops_nil ?_
        | refine ax_post_code ?_
        | refine ax_seq ?_
        | refine ax_region rfl ?_
        | refine ax_block ?_
        | refine ax_skip ?_)
      refine ax_regiond (by kernel_rfl) ?_
      refine ax_any_run (fuel := 1) [0, 1, 2, 3, 4, 5, 6, 7, 8, 9, 10, 11, 12, 13, 14] [(7, .ro (rowsQ M) 0 m.length), (8, .sl 0 0 m.length), (9, .sl 1 0 (widM m)), (12, .sl 2 0 (r + 1)), (13, .int .i64 (i : Nat)), (14, .int .i64 (k : Nat)), (58, .int .i64 (N : Nat)), (59, .int .i64 (r : Nat)), (71, .sl 0 0 (m.length)), (72, .int .i64 (m.length : Nat)), (73, .int .i64 (j : Nat)), (15, .int .i64 (j : Nat))] ⟨rfl, rfl, rfl, rfl, rfl, rfl, rfl, rfl, rfl, rfl, rfl, rfl, trivial⟩ (by kernel_rfl) (by decide) rfl rfl ?_
      refine px_q rfl rfl (q_move rfl) ?_
      refine px_q rfl rfl (q_move rfl) ?_
      refine px_q rfl rfl (q_move rfl) ?_
      refine px_q rfl rfl (q_move rfl) ?_
      refine px_q rfl rfl (q_index_sl' rfl rfl rfl rfl rfl (by first | (simp only [Nat.zero_add, Int.toNat_natCast, Int.toNat_zero]; exact rfl) | exact rfl) (by omega)) ?_
      refine px_q rfl rfl (q_loadpart_ptr rfl rfl rfl rfl rfl rfl rfl (by first | exact Nat.zero_lt_one | assumption | omega)) ?_
      refine px_q rfl rfl (q_move rfl) ?_
      refine px_q rfl rfl (q_move rfl) ?_
      refine px_q rfl rfl (q_index_ro' rfl rfl rfl rfl (by first | (simp only [Nat.zero_add, Int.toNat_natCast, Int.toNat_zero]; exact rfl) | exact rfl) (by omega)) ?_
      refine px_q rfl rfl (q_loadf_rp rfl rfl rfl rfl) ?_
      refine px_q rfl rfl (q_move rfl) ?_
      refine px_q rfl rfl (q_index_ro' rfl rfl rfl rfl (by first | (simp only [Nat.zero_add, Int.toNat_natCast, Int.toNat_zero]; exact rfl) | exact rfl) (by omega)) ?_
      refine px_q rfl rfl (q_loadagg_rp rfl rfl rfl rfl rfl rfl) ?_
      refine px_v rfl rfl rfl rfl rfl cadd ?_
      refine px_q rfl rfl (q_index_sl' rfl rfl rfl rfl rfl (by first | (simp only [Nat.zero_add, Int.toNat_natCast, Int.toNat_zero]; exact rfl) | exact rfl) (by omega)) ?_
      refine px_done ?_
      refine ax_any_step (is := [15]) (by kernel_rfl) (by simp) rfl ⟨fun o ho => ?_, trivial⟩
      all_goals (cases ho)
      skip
      unfold qA
      refine ax_storeagg (c' := qsC (zs.set j (R.getD j 0 + (M.getD j []).getD k 0))) rfl rfl rfl rfl rfl hjz (by show (zs.set j _).length = zs.length; simp) rfl (fun i' j' hi' hj' => set_qs zs j _ hjz i' j' hi' hj') ?_
      repeat (first
        | refine ax_ops_nil ?_
        | refine ax_post_any ?_)
      refine ax_any_done (by kernel_rfl) ?_
      repeat (first
        | refine ax_q (q_move rfl) ?_
        | refine ax_ops_nil ?_
        | refine ax_post_code ?_
        | refine ax_region rfl ?_
        | refine ax_post_blk ?_
        | refine ax_q (q_add rfl rfl (by omega)) ?_)
      exact ax_post_inv ⟨j + 1, by omega, by omega, ⟨rfl, rfl, rfl, rfl, rfl, rfl, rfl, rfl, rfl, rfl, rfl, trivial⟩, by rw [← hset]; rfl⟩
    have hje : j = m.length := by omega
    subst hje
    have eR : updL (fun j => (M.getD j []).getD k 0) R m.length = updL (fun j => (M.getD j []).getD k 0) R R.length := by rw [l1, hml0]
    rw [eR]
    generalize updL (fun j => (M.getD j []).getD k 0) R R.length = R2 at *
    repeat (first
      | refine ax_q (q_move rfl) ?_
      | refine ax_ops_nil ?_
      | refine ax_post_code ?_
      | refine ax_seq ?_
      | refine ax_region rfl ?_
      | refine ax_block ?_
      | refine ax_exit ?_
      | refine ax_exit_here ?_
      | refine ax_exit_code ?_
      | refine ax_exit_inv ?_
      | refine ax_q (q_len rfl rfl rfl) ?_)
    refine ax_loop (ι := Nat) (fun j => [(7, .ro (rowsQ M) 0 m.length), (8, .sl 0 0 m.length), (9, .sl 1 0 (widM m)), (12, .sl 2 0 (r + 1)), (13, .int .i64 (i : Nat)), (14, .int .i64 (k : Nat)), (58, .int .i64 (N : Nat)), (59, .int .i64 (r : Nat)), (92, .sl 1 0 (widM m)), (93, .int .i64 (widM m : Nat)), (94, .int .i64 (j : Nat))]) (fun j => [some ⟨108, qsC R2⟩, some ⟨108, qsC (updL (fun j => (M.getD i []).getD j 0) C j)⟩, some ⟨32, pairsC HO2⟩])
      (fun j => j ≤ widM m) (fun j => widM m - j) 0 ⟨⟨rfl, rfl, rfl, rfl, rfl, rfl, rfl, rfl, rfl, rfl, rfl, trivial⟩, by rw [updL_zero], Nat.zero_le _⟩ ?_
    intro j hj
    repeat (first
      | refine ax_ops_nil ?_
      | refine ax_post_code ?_
      | refine ax_seq ?_
      | refine ax_region rfl ?_
      | refine ax_q (q_lss rfl rfl) ?_)
    refine ax_cond_dec rfl (fun h => ?_) (fun h => ?_)
    · have hj' : j < C.length := by omega
      have hrl : (M.getD i []).length = widM m := (hv _ (get_in [] (by omega))).1
      have hkr : j < (M.getD i []).length := by omega
      have hset := updL_set (fun j => (M.getD i []).getD j 0) C hj'
      have hget : (updL (fun j => (M.getD i []).getD j 0) C j).getD j 0 = C.getD j 0 := by rw [updL_get (fun j => (M.getD i []).getD j 0) C hj', if_neg (Nat.lt_irrefl j)]
      have hml := updL_len (fun j => (M.getD i []).getD j 0) C j
      have hq := d2 _ (get_in 0 hj')
      generalize updL (fun j => (M.getD i []).getD j 0) C j = zs at *
      have hjz : j < zs.length := by omega
      have cadd : VCall Tryz.prog 67 [qA (zs.getD j 0), qA ((M.getD i []).getD j 0)] (qA (C.getD j 0 + (M.getD i []).getD j 0)) := by
        rw [hget]
        exact qadd_ok _ _ (sz_D (m := 100000) (hq.mono (by omega))) (sz_D (m := 100000) ((hel i j).mono (by omega)))
      repeat (first
        | refine ax_q (q_move rfl) ?_
        | refine ax_q (q_assign rfl) ?_
        | refine ax_ops_nil ?_
        | refine ax_post_code ?_
        | refine ax_seq ?_
        | refine ax_region rfl ?_
        | refine ax_block ?_
        | refine ax_skip ?_)
      refine ax_regiond (by kernel_rfl) ?_
      refine ax_any_run (fuel := 1) [0, 1, 2, 3, 4, 5, 6, 7, 8, 9, 10, 11, 12, 13, 14] [(7, .ro (rowsQ M) 0 m.length), (8, .sl 0 0 m.length), (9, .sl 1 0 (widM m)), (12, .sl 2 0 (r + 1)), (13, .int .i64 (i : Nat)), (14, .int .i64 (k : Nat)), (58, .int .i64 (N : Nat)), (59, .int .i64 (r : Nat)), (92, .sl 1 0 (widM m)), (93, .int .i64 (widM m : Nat)), (94, .int .i64 (j : Nat)), (16, .int .i64 (j : Nat))] ⟨rfl, rfl, rfl, rfl, rfl, rfl, rfl, rfl, rfl, rfl, rfl, rfl, trivial⟩ (by kernel_rfl) (by decide) rfl rfl ?_
      refine px_q rfl rfl (q_move rfl) ?_
      refine px_q rfl rfl (q_move rfl) ?_
      refine px_q rfl rfl (q_move rfl) ?_
      refine px_q rfl rfl (q_move rfl) ?_
      refine px_q rfl rfl (q_index_sl' rfl rfl rfl rfl rfl (by first | (simp only [Nat.zero_add, Int.toNat_natCast, Int.toNat_zero]; exact rfl) | exact rfl) (by omega)) ?_
      refine px_q rfl rfl (q_loadpart_ptr rfl rfl rfl rfl rfl rfl rfl (by first | exact Nat.zero_lt_one | assumption | omega)) ?_
      refine px_q rfl rfl (q_move rfl) ?_
      refine px_q rfl rfl (q_move rfl) ?_
      refine px_q rfl rfl (q_index_ro' rfl rfl rfl rfl (by first | (simp only [Nat.zero_add, Int.toNat_natCast, Int.toNat_zero]; exact rfl) | exact rfl) (by omega)) ?_
      refine px_q rfl rfl (q_loadf_rp rfl rfl rfl rfl) ?_
      refine px_q rfl rfl (q_move rfl) ?_
      refine px_q rfl rfl (q_index_ro' rfl rfl rfl rfl (by first | (simp only [Nat.zero_add, Int.toNat_natCast, Int.toNat_zero]; exact rfl) | exact rfl) (by omega)) ?_
      refine px_q rfl rfl (q_loadagg_rp rfl rfl rfl rfl rfl rfl) ?_
      refine px_v rfl rfl rfl rfl rfl cadd ?_
      refine px_q rfl rfl (q_index_sl' rfl rfl rfl rfl rfl (by first | (simp only [Nat.zero_add, Int.toNat_natCast, Int.toNat_zero]; exact rfl) | exact rfl) (by omega)) ?_
      refine px_done ?_
      refine ax_any_step (is := [15]) (by kernel_rfl) (by simp) rfl ⟨fun o ho => ?_, trivial⟩
      all_goals (cases ho)
      skip
      unfold qA
      refine ax_storeagg (c' := qsC (zs.set j (C.getD j 0 + (M.getD i []).getD j 0))) rfl rfl rfl rfl rfl hjz (by show (zs.set j _).length = zs.length; simp) rfl (fun i' j' hi' hj' => set_qs zs j _ hjz i' j' hi' hj') ?_
      repeat (first
        | refine ax_ops_nil ?_
        | refine ax_post_any ?_)
      refine ax_any_done (by kernel_rfl) ?_
      repeat (first
        | refine ax_q (q_move rfl) ?_
        | refine ax_ops_nil ?_
        | refine ax_post_code ?_
        | refine ax_region rfl ?_
        | refine ax_post_blk ?_
        | refine ax_q (q_add rfl rfl (by omega)) ?_)
      exact ax_post_inv ⟨j + 1, by omega, by omega, ⟨rfl, rfl, rfl, rfl, rfl, rfl, rfl, rfl, rfl, rfl, rfl, trivial⟩, by rw [← hset]; rfl⟩
    have hje : j = widM m := by omega
    rw [hje]
    have eC : updL (fun j => (M.getD i []).getD j 0) C (widM m) = updL (fun j => (M.getD i []).getD j 0) C C.length := by rw [l2]
    rw [eC]
    repeat (first
      | refine ax_q (q_move rfl) ?_
      | refine ax_ops_nil ?_
      | refine ax_post_code ?_
      | refine ax_region rfl ?_
      | refine ax_post_blk ?_
      | refine ax_exit ?_
      | refine ax_exit_here ?_
      | refine ax_exit_code ?_
      | refine ax_exit_inv ?_
      | refine ax_q (q_add rfl rfl (by omega)) ?_)
    exact ax_post_inv ⟨r + 1, by omega, by omega, ⟨rfl, rfl, rfl, rfl, rfl, rfl, trivial⟩, by rw [e1, hsn]⟩
  · have hre : r = N := by omega
    subst hre
    rw [hs] at hR
    repeat (first
      | refine ax_post_code ?_
      | refine ax_seq ?_
      | refine ax_exit ?_
      | refine ax_exit_here ?_
      | refine ax_exit_code ?_
      | refine ax_exit_inv ?_)
    refine ax_give_code 2 12 r [] rfl (refless_pairs _) rfl (by show _ ≤ (histOf s.out).length; omega) trivial ?_
    refine ax_slot 12 (.ro (pairsC (histOf s.out)) 0 (histOf s.out).length) rfl (AEq.of_eq (by rw [hol, l3])) ?_
    repeat (first
      | refine ax_q (q_move rfl) ?_
      | refine ax_q (q_assign rfl) ?_
      | refine ax_ops_nil ?_
      | refine ax_post_code ?_
      | refine ax_region rfl ?_
      | refine ax_return ?_)
    exact ax_ret hR rfl rfl
end Go.Proofs.YtgmleamhjnlknaaGreatDoor

/-
  Rules: arrays of single values compared.
-/
namespace Go.Ax
variable [Pins]
open Go.RowKit

def eqIs (P : Program) (e : TypeId) (L M : List AV) : List Nat → Option Bool
  | [] => some true
  | i :: is => match eqIs P e L M is, L[i]?, M[i]? with
    | some r, some x, some y => (sclEq P e x y).map (· && r)
    | _, _, _ => none
theorem run_eqIs {P : Program} {w w' : World} {S : Nat → Prop} {σ : Nat → Option Blk} {L M : List AV} {xs ys : Array Value} {d : Nat} {e : TypeId} (h1 : xs.size = L.length) (h2 : ∀ i, i < L.length → VR w S σ (L.getD i .any) (xs.getD i undef)) (h3 : ys.size = M.length) (h4 : ∀ i, i < M.length → VR w S σ (M.getD i .any) (ys.getD i undef)) :
    ∀ (is : List Nat) (b : Bool), eqIs P e L M is = some b → (Op.eqItems (d + 1) e 1 xs ys is).run P w' = .ok b w'
  | [], b, h => by simp [eqIs] at h; subst h; simp [Op.eqItems]
  | i :: is, b, h => by
    simp only [eqIs] at h
    split at h
    · rename_i r x y hr hL hM
      have ih := run_eqIs (d := d) (w' := w') h1 h2 h3 h4 is r hr
      obtain ⟨v1, e1, r1⟩ := vr_getA h1 h2 hL
      obtain ⟨v2, e2, r2⟩ := vr_getA h3 h4 hM
      obtain ⟨q, hq, hb⟩ := Option.map_eq_some_iff.1 h
      obtain ⟨hp, hrun⟩ := sclEq_run (w' := w') hq r1 r2 d
      simp only [Op.eqItems, Nat.mul_one]
      simp only [Sem.run_bind, run_part_plain w' hp e1, Result.andThen_ok, run_part_plain w' hp e2, hrun]
      subst hb
      cases q with
      | false => simp
      | true => simpa using ih
    · cases h
section
variable {P : Program} {fn : Func} {c : Ctx} {fr : Fr} {H : AHeap} {k : List It} {ind : Bool} {d : Option Nat} {ty : TypeId} {pos : String} {after : Array Edge} {g : Option (Nat × Bool)}
theorem q_arrneq {x y : Operand} {t t' e : TypeId} {n : Nat} {inf : TypeInfo} {L M : List AV} {b : Bool} (hx : ev fr x = some (.agg L)) (hy : ev fr y = some (.agg M)) (ht : P.underlying t = some (.array n e)) (hi : P.info? e = some inf) (hc : P.cellsOf e = 1) (hg : P.eqGuardType P.depth t = false)
    (he : eqIs P e L M (List.range n) = some b) : QOp ind P fn c fr H ⟨d, .binOp .neq t x y t', ty, pos, after, g⟩ (.bool (!b)) := by
  intro w a σ S hr
  have h1 := hr.evAt hx
  have h2 := hr.evAt hy
  generalize hz : a.eval x = z at h1
  generalize hzy : a.eval y = zy at h2
  cases h1 with
  | agg _ _ xs a1 a2 a3 =>
    cases h2 with
    | agg _ _ ys b1 b2 b3 =>
      refine ⟨_, .bool _ _, fun w' _ => ?_⟩
      have hr := run_eqIs (d := 9998) (w' := w') a1 a2 b1 b2 _ b he
      simp only [execOp, hz, hzy, Sem.run_bind, run_eqGuard_agg w' _ _ _ _ _ _ hg, Result.andThen_ok, run_neq_struct, show (10000 : Nat) = 9999 + 1 from rfl, run_equalIn_array w' 9999 _ _ ht hi, hc, hr]
      rfl
end
end Go.Ax

namespace Go.Proofs.YtgmleamhjnlknaaGreatDoor
open Go.Ax Go.Ax.Bg Go.Ax.Rt Go.RowKit Go.Ax.Idx Go.Ax.Cd
attribute [local irreducible] Ax Post QOp ACall PureOp
set_option maxRecDepth 100000
set_option maxHeartbeats 4000000

theorem equalP (a b : Hist) (hlen : a.length ≤ 9223372036854775807) (hlb : b.length ≤ 9223372036854775807) : VCall Tryz.prog 19 [.ro (pairsC a) 0 a.length, .ro (pairsC b) 0 b.length] (.bool (decide (a = b))) := by
  refine ACall.value0 (acall_of_ax (P := Tryz.prog) (fn := Tryz.f19) rfl rfl (by kernel_rfl) rfl (fun c hR hfix => ?_)) (fix := fun _ => False) (fun _ h => h) rfl rfl
  repeat (first
    | refine ax_q (q_move rfl) ?_
    | refine ax_q (q_assign rfl) ?_
    | refine ax_ops_nil ?_
    | refine ax_post_code ?_
    | refine ax_seq ?_
    | refine ax_region rfl ?_
    | refine ax_q (q_neq rfl rfl) ?_
    | refine ax_q (q_len rfl rfl rfl) ?_)
  refine ax_cond_dec rfl (fun h => ?_) (fun h => ?_)
  · repeat (first
      | refine ax_q (q_assign rfl) ?_
      | refine ax_ops_nil ?_
      | refine ax_post_code ?_
      | refine ax_seq ?_
      | refine ax_region rfl ?_
      | refine ax_return ?_
      | refine ax_ret_code ?_)
    refine ax_ret hR rfl ?_
    have : ¬ a = b := by rintro rfl; exact h rfl
    simp [tupOf, this]
  have hab : a.length = b.length := by omega
  repeat (first
    | refine ax_q (q_move rfl) ?_
    | refine ax_ops_nil ?_
    | refine ax_post_code ?_
    | refine ax_seq ?_
    | refine ax_region rfl ?_
    | refine ax_block ?_
    | refine ax_skip ?_
    | refine ax_q (q_len rfl rfl rfl) ?_)
  refine ax_loop (ι := Nat) (fun k => [(0, .ro (pairsC a) 0 a.length), (1, .ro (pairsC b) 0 b.length), (12, .int .i64 (a.length : Nat)), (13, .int .i64 (k : Nat))]) (fun _ => [])
    (fun k => k ≤ a.length ∧ a.take k = b.take k) (fun k => a.length - k) 0 ⟨⟨rfl, rfl, rfl, rfl, trivial⟩, rfl, Nat.zero_le _, rfl⟩ ?_
  intro k ⟨hk, heq⟩
  repeat (first
    | refine ax_ops_nil ?_
    | refine ax_post_code ?_
    | refine ax_seq ?_
    | refine ax_region rfl ?_
    | refine ax_q (q_lss rfl rfl) ?_)
  refine ax_cond_dec rfl (fun h2 => ?_) (fun h2 => ?_)
  · have hk' : k < a.length := by omega
    have hkb : k < b.length := by omega
    have ha := take_succ_getD a (0, 0) k hk'
    have hb := take_succ_getD b (0, 0) k hkb
    repeat (first
      | refine ax_q (q_move rfl) ?_
      | refine ax_q (q_assign rfl) ?_
      | refine ax_ops_nil ?_
      | refine ax_post_code ?_
      | refine ax_seq ?_
      | refine ax_region rfl ?_
      | refine ax_block ?_
      | refine ax_skip ?_)
    refine ax_regiond (by kernel_rfl) ?_
    refine ax_any_run (fuel := 0) [0, 1, 2, 3, 4, 5, 6, 7, 8] [(0, .ro (pairsC a) 0 a.length), (1, .ro (pairsC b) 0 b.length), (5, .int .i64 (k : Nat)), (12, .int .i64 (a.length : Nat)), (13, .int .i64 (k : Nat))] ⟨rfl, rfl, rfl, rfl, rfl, trivial⟩ (by kernel_rfl) (by decide) rfl rfl ?_
    refine px_q rfl rfl (q_move rfl) ?_
    refine px_q rfl rfl (q_move rfl) ?_
    refine px_q rfl rfl (q_index_ro' rfl rfl rfl rfl (by first | (simp only [Nat.zero_add, Int.toNat_natCast, Int.toNat_zero]; exact rfl) | exact rfl) (by omega)) ?_
    refine px_q rfl rfl (q_loadagg_rp rfl rfl rfl rfl rfl rfl) ?_
    refine px_q rfl rfl (q_move rfl) ?_
    refine px_q rfl rfl (q_move rfl) ?_
    refine px_q rfl rfl (q_index_ro' rfl rfl rfl rfl (by first | (simp only [Nat.zero_add, Int.toNat_natCast, Int.toNat_zero]; exact rfl) | exact rfl) (by omega)) ?_
    refine px_q rfl rfl (q_loadagg_rp rfl rfl rfl rfl rfl rfl) ?_
    refine px_q rfl rfl (q_arrneq (L := cellsP (a.getD k (0, 0))) (M := cellsP (b.getD k (0, 0))) (b := decide ((a.getD k (0, 0)).1 = (b.getD k (0, 0)).1) && (decide ((a.getD k (0, 0)).2 = (b.getD k (0, 0)).2) && true)) rfl rfl rfl rfl (by kernel_rfl) (by kernel_rfl) rfl) ?_
    refine px_done ?_
    refine ax_any_done (by kernel_rfl) ?_
    repeat (refine ax_post_code ?_)
    by_cases h3 : a.getD k (0, 0) = b.getD k (0, 0)
    · rw [h3, decide_eq_true rfl, decide_eq_true rfl]
      repeat (first
        | refine ax_q (q_move rfl) ?_
        | refine ax_ops_nil ?_
        | refine ax_post_code ?_
        | refine ax_region rfl ?_
        | refine ax_cond_false rfl ?_
        | refine ax_post_blk ?_
        | refine ax_skip ?_
        | refine ax_q (q_add rfl rfl (by omega)) ?_)
      exact ax_post_inv ⟨k + 1, ⟨by omega, by rw [ha, hb, heq, h3]⟩, by omega, ⟨rfl, rfl, rfl, rfl, trivial⟩, rfl⟩
    · have h4 : (decide ((a.getD k (0, 0)).1 = (b.getD k (0, 0)).1) && (decide ((a.getD k (0, 0)).2 = (b.getD k (0, 0)).2) && true)) = false := by
        rw [Bool.and_true, ← Bool.not_eq_true, Bool.and_eq_true, decide_eq_true_eq, decide_eq_true_eq]
        rintro ⟨e1, e2⟩
        exact h3 (Prod.ext e1 e2)
      rw [h4]
      repeat (first
        | refine ax_q (q_assign rfl) ?_
        | refine ax_ops_nil ?_
        | refine ax_post_code ?_
        | refine ax_seq ?_
        | refine ax_region rfl ?_
        | refine ax_cond_true rfl ?_
        | refine ax_return ?_
        | refine ax_ret_code ?_
        | refine ax_ret_blk ?_
        | refine ax_ret_inv ?_)
      refine ax_ret hR rfl ?_
      have : ¬ a = b := by rintro rfl; exact h3 rfl
      simp [tupOf, this]
  · have hk' : k = a.length := by omega
    subst hk'
    rw [List.take_length, hab, List.take_length] at heq
    repeat (first
      | refine ax_q (q_assign rfl) ?_
      | refine ax_ops_nil ?_
      | refine ax_post_code ?_
      | refine ax_seq ?_
      | refine ax_region rfl ?_
      | refine ax_exit ?_
      | refine ax_exit_here ?_
      | refine ax_exit_code ?_
      | refine ax_exit_inv ?_
      | refine ax_return ?_)
    refine ax_ret hR rfl ?_
    simp [tupOf, heq]
def pennT : List (List Text) := [[[49], [45, 49]], [[45, 49], [49]]]
theorem pennies_ok : VCall Tryz.prog 59 [] (.ro (rowsT pennT) 0 2) := by
  refine ACall.value0 (acall_of_ax (P := Tryz.prog) (fn := Tryz.f59) rfl rfl (by kernel_rfl) rfl (fun c hR hfix => ?_)) (fix := fun _ => False) (fun _ h => h) rfl rfl
  repeat (first
    | refine ax_q (q_assign rfl) ?_
    | refine ax_ops_nil ?_
    | refine ax_post_code ?_
    | refine ax_seq ?_
    | refine ax_region rfl ?_
    | refine ax_buildSliceRo rfl rfl rfl rfl rfl rfl rfl rfl rfl rfl rfl ?_)
  refine ax_slot 0 (.ro (rowsT pennT) 0 2) rfl (AEq.ro rfl (fun d j hd hj => ?_)) ?_
  · have hd2 : d = 0 ∨ d = 1 := by omega
    have hj3 : j = 0 := by have hj : j < 1 := hj; omega
    subst hj3
    rcases hd2 with rfl | rfl <;> rfl
  repeat (refine ax_return ?_)
  exact ax_ret hR rfl rfl
/-- Texts that spell numbers, one by one. -/
def allQ : List Text → List Rat → Bool
  | [], [] => true
  | s :: r, q :: t => decide (IsQ s q) && allQ r t
  | _, _ => false
theorem allQ_out : ∀ {s : List Text} {l : List Rat}, allQ s l = true → l.map textQ = s ∧ l.all fitB = true
  | [], [], _ => ⟨rfl, rfl⟩
  | [], _ :: _, h => by cases h
  | _ :: _, [], h => by cases h
  | s :: r, q :: t, h => by
    simp only [allQ, Bool.and_eq_true, decide_eq_true_eq] at h
    obtain ⟨h1, h2⟩ := allQ_out h.2
    rw [List.map_cons, h1, h.1.text, List.all_cons, h2, h.1.fit]
    exact ⟨rfl, rfl⟩
theorem allQ_f {s : List Text} {l : List Rat} (h : allQ s l = true) : outAllF l = (s, 0) := by
  unfold outAllF
  rw [if_pos (allQ_out h).2, (allQ_out h).1]
theorem allQ_both {s t : List Text} {a b : List Rat} (h1 : allQ s a = true) (h2 : allQ t b = true) : bothR a b = ((s, t), 0) := by
  unfold bothR
  rw [allQ_f h1, allQ_f h2, if_neg (by simp), if_neg (by simp), (allQ_out h1).1, (allQ_out h2).1]
def histT : Hist := [(0, 0), (0, 1)]
theorem f_regrets : regretsR [[[49], [48]], [[51], [48]]] histT = (([[48], [50]], [[45, 49], [49]]), 0) := by
  unfold regretsR
  rw [if_neg (by decide +kernel)]
  exact allQ_both (by decide +kernel) (by decide +kernel)
theorem f_match : matchR [[51], [45, 49], [49]] = ([[51, 47, 52], [48], [49, 47, 52]], 0) := by
  unfold matchR
  rw [if_neg (by decide), if_neg (by decide), if_neg (by decide +kernel)]
  exact allQ_f (by decide +kernel)
theorem f_average : averageR pennT histT = (([[49], [48]], [[49, 47, 50], [49, 47, 50]]), 0) := by
  unfold averageR
  rw [if_neg (by decide +kernel), if_neg (by decide)]
  exact allQ_both (by decide +kernel) (by decide +kernel)
theorem f_bounds : boundsR pennT histT = (([45, 49], [48]), 0) := by
  have h1 : IsQ [45, 49] (lowQ (inM pennT) histT (widM pennT) / (histT.length : Nat)) := by decide +kernel
  have h2 : IsQ [48] (highQ (inM pennT) histT (widM pennT) / (histT.length : Nat)) := by decide +kernel
  unfold boundsR
  rw [if_neg (by decide +kernel), if_neg (by decide), h1.fit, h2.fit, h1.text, h2.text]
  rfl
theorem f_play : playR pennT 2 = (histT, 0) := by decide +kernel
theorem f_hist : histE pennT [(2, 0)] = 4 := by decide +kernel
end Go.Proofs.YtgmleamhjnlknaaGreatDoor

namespace Go.Proofs.YtgmleamhjnlknaaGreatDoor
open Go.Ax Go.Ax.Bg Go.Ax.Rt Go.RowKit Go.Ax.Idx Go.Ax.Cd
attribute [local irreducible] Ax Post QOp ACall PureOp
set_option maxRecDepth 100000
set_option maxHeartbeats 4000000

def factT : List (List Text) := [[[49], [48]], [[51], [48]]]
theorem short_rows {m : List (List Text)} (h : (m.all fun r => decide (r.length ≤ 100) && r.all fun s => decide (s.length ≤ 100)) = true) : ∀ r ∈ m, r.length ≤ 9223372036854775807 ∧ ∀ s ∈ r, s.length ≤ 9223372036854775807 := by
  intro r hr
  have h1 := List.all_eq_true.1 h r hr
  simp only [Bool.and_eq_true, decide_eq_true_eq, List.all_eq_true] at h1
  exact ⟨by omega, fun s hs => by have := h1.2 s hs; omega⟩
theorem r_fine : VCall Tryz.prog 29 [.ro (.ints .i64 [0, 0, 0, 0, 0]) 0 5] (.bool true) := fineI [0, 0, 0, 0, 0] (by decide)
theorem regretFact : VCall Tryz.prog 15 [] (.bool true) := by
  have c1 := regrets_ok factT histT (by decide) (by decide) (short_rows (by decide))
  rw [show regretsR factT histT = _ from f_regrets] at c1
  have c2 := match_ok [[51], [45, 49], [49]] (by decide) (by decide)
  rw [f_match] at c2
  have c3 := average_ok pennT histT (by decide) (by decide) (short_rows (by decide))
  rw [f_average] at c3
  have c4 := play_ok pennT 2 (by decide) (short_rows (by decide))
  rw [f_play] at c4
  have c5 := bounds_ok pennT histT (by decide) (by decide) (short_rows (by decide))
  rw [f_bounds] at c5
  have c6 := hist_ok pennT [(2, 0)] (by decide) (by decide) (short_rows (by decide))
  rw [f_hist] at c6
  have v1 := equalV [[48], [50]] [[48], [50]] (by decide) (by decide)
  have v2 := equalV [[45, 49], [49]] [[45, 49], [49]] (by decide) (by decide)
  have v3 := equalV [[51, 47, 52], [48], [49, 47, 52]] [[51, 47, 52], [48], [49, 47, 52]] (by decide) (by decide)
  have v4 := equalV [[49], [48]] [[49], [48]] (by decide) (by decide)
  have v5 := equalV [[49, 47, 50], [49, 47, 50]] [[49, 47, 50], [49, 47, 50]] (by decide) (by decide)
  have v6 := equalP histT histT (by decide) (by decide)
  rw [decide_eq_true rfl] at v1 v2 v3 v4 v5 v6
  refine ACall.value0 (acall_of_ax (P := Tryz.prog) (fn := Tryz.f15) rfl rfl (by kernel_rfl) rfl (fun c hR hfix => ?_)) (fix := fun _ => False) (fun _ h => h) rfl rfl
  repeat (first
    | refine ax_q (q_move rfl) ?_
    | refine ax_q (q_assign rfl) ?_
    | refine ax_ops_nil ?_
    | refine ax_post_code ?_
    | refine ax_seq ?_
    | refine ax_region rfl ?_
    | refine ax_q (q_build rfl rfl rfl rfl rfl rfl) ?_
    | refine ax_buildSliceRo rfl rfl rfl rfl rfl rfl rfl rfl rfl rfl rfl ?_)
  refine ax_slot_ops 1 (.ro (pairsC histT) 0 2) rfl (AEq.ro rfl (fun d j hd hj => ?_)) ?_
  · have hd2 : d = 0 ∨ d = 1 := by omega
    have hj3 : j = 0 ∨ j = 1 := by have hj : j < 2 := hj; omega
    rcases hd2 with rfl | rfl <;> rcases hj3 with rfl | rfl <;> rfl
  refine ax_slot_ops 22 (.ro (pairsC histT) 0 2) rfl (AEq.ro rfl (fun d j hd hj => ?_)) ?_
  · have hd2 : d = 0 ∨ d = 1 := by omega
    have hj3 : j = 0 ∨ j = 1 := by have hj : j < 2 := hj; omega
    rcases hd2 with rfl | rfl <;> rcases hj3 with rfl | rfl <;> rfl
  refine ax_slot_ops 21 (.ro (rowsT factT) 0 2) rfl (AEq.ro rfl (fun d j hd hj => ?_)) ?_
  · have hd2 : d = 0 ∨ d = 1 := by omega
    have hj3 : j = 0 := by have hj : j < 1 := hj; omega
    subst hj3
    rcases hd2 with rfl | rfl <;> rfl
  refine ax_callv rfl rfl rfl c1 ?_
  unfold bothA
  repeat (first
    | refine ax_q (q_move rfl) ?_
    | refine ax_q (q_assign rfl) ?_
    | refine ax_ops_nil ?_
    | refine ax_post_code ?_
    | refine ax_seq ?_
    | refine ax_region rfl ?_
    | refine ax_q (q_extract rfl rfl) ?_
    | refine ax_buildSliceRo rfl rfl rfl rfl rfl rfl rfl rfl rfl rfl rfl ?_)
  refine ax_callv rfl rfl rfl c2 ?_
  unfold vecP
  repeat (first
    | refine ax_q (q_move rfl) ?_
    | refine ax_q (q_assign rfl) ?_
    | refine ax_ops_nil ?_
    | refine ax_post_code ?_
    | refine ax_seq ?_
    | refine ax_region rfl ?_
    | refine ax_q (q_extract rfl rfl) ?_)
  refine ax_callv rfl rfl rfl pennies_ok ?_
  repeat (refine ax_q (q_move rfl) ?_)
  refine ax_callv rfl rfl rfl c3 ?_
  unfold bothA
  repeat (first
    | refine ax_q (q_move rfl) ?_
    | refine ax_q (q_assign rfl) ?_
    | refine ax_ops_nil ?_
    | refine ax_post_code ?_
    | refine ax_seq ?_
    | refine ax_region rfl ?_
    | refine ax_q (q_extract rfl rfl) ?_)
  refine ax_callv rfl rfl rfl pennies_ok ?_
  skip
  refine ax_callv rfl rfl rfl c4 ?_
  unfold histA
  repeat (first
    | refine ax_q (q_move rfl) ?_
    | refine ax_q (q_assign rfl) ?_
    | refine ax_ops_nil ?_
    | refine ax_post_code ?_
    | refine ax_seq ?_
    | refine ax_region rfl ?_
    | refine ax_q (q_extract rfl rfl) ?_)
  refine ax_callv rfl rfl rfl pennies_ok ?_
  repeat (refine ax_q (q_move rfl) ?_)
  refine ax_callv rfl rfl rfl c5 ?_
  unfold boundsA
  repeat (first
    | refine ax_q (q_move rfl) ?_
    | refine ax_q (q_assign rfl) ?_
    | refine ax_ops_nil ?_
    | refine ax_post_code ?_
    | refine ax_seq ?_
    | refine ax_region rfl ?_
    | refine ax_q (q_extract rfl rfl) ?_
    | refine ax_buildSliceRo rfl rfl rfl rfl rfl rfl rfl rfl rfl rfl rfl ?_)
  refine ax_callv rfl rfl rfl r_fine ?_
  repeat (first
    | refine ax_q (q_move rfl) ?_
    | refine ax_guard rfl rfl ?_
    | refine ax_buildSliceRo rfl rfl rfl rfl rfl rfl rfl rfl rfl rfl rfl ?_)
  refine ax_callv rfl rfl rfl v1 ?_
  repeat (first
    | refine ax_q (q_move rfl) ?_
    | refine ax_guard rfl rfl ?_
    | refine ax_q (q_pick rfl rfl) ?_
    | refine ax_buildSliceRo rfl rfl rfl rfl rfl rfl rfl rfl rfl rfl rfl ?_)
  refine ax_callv rfl rfl rfl v2 ?_
  repeat (first
    | refine ax_q (q_move rfl) ?_
    | refine ax_guard rfl rfl ?_
    | refine ax_q (q_pick rfl rfl) ?_
    | refine ax_buildSliceRo rfl rfl rfl rfl rfl rfl rfl rfl rfl rfl rfl ?_)
  refine ax_callv rfl rfl rfl v3 ?_
  repeat (first
    | refine ax_q (q_move rfl) ?_
    | refine ax_guard rfl rfl ?_
    | refine ax_q (q_pick rfl rfl) ?_
    | refine ax_buildSliceRo rfl rfl rfl rfl rfl rfl rfl rfl rfl rfl rfl ?_)
  refine ax_callv rfl rfl rfl v4 ?_
  repeat (first
    | refine ax_q (q_move rfl) ?_
    | refine ax_guard rfl rfl ?_
    | refine ax_q (q_pick rfl rfl) ?_
    | refine ax_buildSliceRo rfl rfl rfl rfl rfl rfl rfl rfl rfl rfl rfl ?_)
  refine ax_callv rfl rfl rfl v5 ?_
  repeat (first
    | refine ax_q (q_move rfl) ?_
    | refine ax_guard rfl rfl ?_
    | refine ax_q (q_pick rfl rfl) ?_
    | refine ax_q (q_build rfl rfl rfl rfl rfl rfl) ?_
    | refine ax_buildSliceRo rfl rfl rfl rfl rfl rfl rfl rfl rfl rfl rfl ?_)
  refine ax_slot_ops 87 (.ro (pairsC histT) 0 2) rfl (AEq.ro rfl (fun d j hd hj => ?_)) ?_
  · have hd2 : d = 0 ∨ d = 1 := by omega
    have hj3 : j = 0 ∨ j = 1 := by have hj : j < 2 := hj; omega
    rcases hd2 with rfl | rfl <;> rcases hj3 with rfl | rfl <;> rfl
  refine ax_callv rfl rfl rfl v6 ?_
  repeat (first
    | refine ax_q (q_move rfl) ?_
    | refine ax_guard rfl rfl ?_
    | refine ax_q (q_pick rfl rfl) ?_
    | refine ax_q (q_streql rfl rfl) ?_)
  refine ax_callv rfl rfl rfl pennies_ok ?_
  repeat (first
    | refine ax_guard rfl rfl ?_
    | refine ax_q (q_build rfl rfl rfl rfl rfl rfl) ?_
    | refine ax_buildSliceRo rfl rfl rfl rfl rfl rfl rfl rfl rfl rfl rfl ?_)
  refine ax_slot_ops 101 (.ro (pairsC [(2, 0)]) 0 1) rfl (AEq.ro rfl (fun d j hd hj => ?_)) ?_
  · have hd2 : d = 0 := by omega
    have hj3 : j = 0 ∨ j = 1 := by have hj : j < 2 := hj; omega
    subst hd2
    rcases hj3 with rfl | rfl <;> rfl
  refine ax_callv rfl rfl rfl c6 ?_
  repeat (first
    | refine ax_q (q_assign rfl) ?_
    | refine ax_ops_nil ?_
    | refine ax_post_code ?_
    | refine ax_guard rfl rfl ?_
    | refine ax_return ?_
    | refine ax_q (q_eql rfl rfl) ?_
    | refine ax_q (q_pick rfl rfl) ?_)
  exact ax_ret hR rfl rfl
end Go.Proofs.YtgmleamhjnlknaaGreatDoor

namespace Go.Proofs.YtgmleamhjnlknaaGreatDoor
open Go.Ax Go.Ax.Idx
attribute [local irreducible] Ax Post QOp ACall
set_option maxRecDepth 100000
set_option maxHeartbeats 4000000

def pickF (a n : Int) : Int := IntKind.u64.wrap a % n
theorem pickF_bd (a n : Int) (hn : 0 < n) : 0 ≤ pickF a n ∧ pickF a n < n := ⟨Int.emod_nonneg _ (by omega), Int.emod_lt_of_pos _ hn⟩
theorem pick (a n : Int) (hn : 0 < n ∧ n ≤ 1000000) : VCall Tryz.prog 17 [.int .i64 a, .int .i64 n] (.int .i64 (pickF a n)) := by
  refine ACall.value0 (acall_of_ax (P := Tryz.prog) (fn := Tryz.f17) rfl rfl (by kernel_rfl) rfl (fun c hR hfix => ?_)) (fix := fun _ => False) (fun _ h => h) rfl rfl
  have hw : 0 ≤ IntKind.u64.wrap a := by rw [IntKind.wrap_u64]; omega
  have hwn : IntKind.u64.wrap n = n := by rw [IntKind.wrap_u64]; omega
  have hb := pickF_bd a n hn.1
  repeat (first
    | refine ax_q (q_move rfl) ?_
    | refine ax_q (q_assign rfl) ?_
    | refine ax_ops_nil ?_
    | refine ax_post_code ?_
    | refine ax_seq ?_
    | refine ax_region rfl ?_)
  refine ax_q (q_conv (k' := .u64) rfl rfl rfl) ?_
  repeat (refine ax_q (q_move rfl) ?_)
  refine ax_q (q_conv (k' := .u64) rfl rfl rfl) ?_
  rw [hwn]
  generalize hz : IntKind.u64.wrap a = z at *
  have hpf : pickF a n = z % n := by unfold pickF; rw [hz]
  refine ax_q (q_rem rfl rfl (by omega)) ?_
  rw [← hpf]
  refine ax_q (q_conv64 rfl rfl rfl (by omega)) ?_
  repeat (first
    | refine ax_q (q_assign rfl) ?_
    | refine ax_ops_nil ?_
    | refine ax_post_code ?_
    | refine ax_return ?_)
  exact ax_ret hR rfl rfl
end Go.Proofs.YtgmleamhjnlknaaGreatDoor

namespace Go.Proofs.YtgmleamhjnlknaaGreatDoor
open Go.Ax Go.Ax.Bg Go.Ax.Rt Go.RowKit Go.Ax.Idx Go.Ax.Cd
attribute [local irreducible] Ax Post QOp ACall PureOp
set_option maxRecDepth 100000
set_option maxHeartbeats 4000000

end Go.Proofs.YtgmleamhjnlknaaGreatDoor

namespace Go.Proofs.YtgmleamhjnlknaaGreatDoor
open Go.Ax Go.Ax.Bg Go.Ax.Rt Go.RowKit Go.Ax.Idx Go.Ax.Cd
attribute [local irreducible] Ax Post QOp ACall PureOp
set_option maxRecDepth 100000
set_option maxHeartbeats 4000000

def spos (s : Text) : Bool := decide (0 < (signR s).1)
theorem text_short {q : Rat} (h : fitB q = true) : (textQ q).length ≤ 9223372036854775807 := by
  unfold fitB at h
  rw [Bool.and_eq_true, decide_eq_true_eq, decide_eq_true_eq] at h
  unfold textQ
  rw [List.length_append, List.length_append]
  have h1 : (if q.num < 0 then [45] else [] : List UInt8).length ≤ 1 := by split <;> simp
  have h2 : (if q.den = 1 then [] else 47 :: Lib.decDigits q.den : List UInt8).length ≤ 2001 := by
    split
    · simp
    · rw [List.length_cons]; omega
  omega
end Go.Proofs.YtgmleamhjnlknaaGreatDoor

namespace Go.Proofs.YtgmleamhjnlknaaGreatDoor
open Go.Ax Go.Ax.Bg Go.Ax.Rt Go.RowKit Go.Ax.Idx Go.Ax.Cd
attribute [local irreducible] Ax Post QOp ACall PureOp
set_option maxRecDepth 100000
set_option maxHeartbeats 4000000

theorem good_short {s : Text} (h : ratE s = 0) : s.length ≤ 9223372036854775807 := by
  have := text_short (IsQ.self h).fit
  rwa [(IsQ.self h).text] at this
theorem two_valid {F : Rat → Rat → Rat} {a b : Text} (h : (twoR F a b).2 = 0) : ratE a = 0 ∧ ratE b = 0 := by
  unfold twoR at h
  split at h
  · rename_i g; exact ⟨allE_mem g a (by simp), allE_mem g b (by simp)⟩
  · rename_i g; exact absurd h g
theorem div_valid {a b : Text} (h : (divR a b).2 = 0) : ratE a = 0 ∧ ratE b = 0 := by
  unfold divR at h
  split at h
  · rename_i g; exact ⟨allE_mem g a (by simp), allE_mem g b (by simp)⟩
  · rename_i g; exact absurd h g
theorem regretsR_bad {m : List (List Text)} {l : Hist} (h : (regretsR m l).2 ≠ 0) : (regretsR m l).1 = ([], []) := by
  unfold regretsR bothR at *
  repeat' split
  all_goals first | rfl | skip
  rename_i h1 h2 h3
  rw [if_neg h1, if_neg h2, if_neg h3] at h
  exact absurd rfl h
theorem fine2 : VCall Tryz.prog 29 [.ro (.ints .i64 [0, 0]) 0 2] (.bool true) := fineI [0, 0] (by decide)
theorem RegretZero_law (m : List (List Text)) (l : Hist) (hlen : m.length ≤ 9223372036854775807) (hr : ∀ r ∈ m, r.length ≤ 9223372036854775807 ∧ ∀ s ∈ r, s.length ≤ 9223372036854775807) (hll : l.length ≤ 9223372036854775807) : VCall Tryz.prog 5 [.ro (rowsT m) 0 m.length, .ro (pairsC l) 0 l.length] (.bool true) := by
  have cs := smallM_ok 4 [m] (by decide) (by show 1 ≤ 9223372036854775807; decide) (fun x hx => by simp at hx; subst hx; exact ⟨hlen, hr⟩)
  have c1 := regrets_ok m l hll hlen hr
  have c2 := bounds_ok m l hll hlen hr
  refine ACall.value0 (acall_of_ax (P := Tryz.prog) (fn := Tryz.f5) rfl rfl (by kernel_rfl) rfl (fun c hR hfix => ?_)) (fix := fun _ => False) (fun _ h => h) rfl rfl
  repeat (first
    | refine ax_q (q_assign rfl) ?_
    | refine ax_ops_nil ?_
    | refine ax_post_code ?_
    | refine ax_seq ?_
    | refine ax_region rfl ?_)
  refine ax_callv rfl rfl rfl regretFact ?_
  repeat (first
    | refine ax_q (q_move rfl) ?_
    | refine ax_ops_nil ?_
    | refine ax_post_code ?_
    | refine ax_seq ?_
    | refine ax_region rfl ?_
    | refine ax_cond_false rfl ?_
    | refine ax_skip ?_
    | refine ax_q (q_not rfl) ?_
    | refine ax_buildSliceRo rfl rfl rfl rfl rfl rfl rfl rfl rfl rfl rfl ?_)
  refine ax_slot_ops 26 (.ro (matsT [m]) 0 1) rfl (AEq.ro rfl (fun d j hd hj => ?_)) ?_
  · have hd2 : d = 0 := by omega
    have hj3 : j = 0 := by have hj : j < 1 := hj; omega
    subst hd2; subst hj3; rfl
  refine ax_callv rfl rfl rfl cs ?_
  cases hs : ([m].all (tiny 4 12))
  · repeat (first
      | refine ax_q (q_move rfl) ?_
      | refine ax_q (q_assign rfl) ?_
      | refine ax_ops_nil ?_
      | refine ax_post_code ?_
      | refine ax_seq ?_
      | refine ax_region rfl ?_
      | refine ax_skip_not rfl rfl rfl ?_
      | refine ax_cond_true rfl ?_
      | refine ax_return ?_
      | refine ax_ret_code ?_
      | refine ax_q (q_not rfl) ?_
      | refine ax_q (q_pick rfl rfl) ?_)
    exact ax_ret hR rfl rfl
  have tm : tiny 4 12 m = true := by simpa using hs
  repeat (first
    | refine ax_q (q_move rfl) ?_
    | refine ax_ops_nil ?_
    | refine ax_post_code ?_
    | refine ax_guard rfl rfl ?_
    | refine ax_q (q_gtr rfl rfl) ?_
    | refine ax_q (q_not rfl) ?_
    | refine ax_q (q_pick rfl rfl) ?_
    | refine ax_q (q_len rfl rfl rfl) ?_)
  refine ax_cond_dec rfl (fun h40 => ?_) (fun h40 => ?_)
  · repeat (first
      | refine ax_q (q_assign rfl) ?_
      | refine ax_ops_nil ?_
      | refine ax_post_code ?_
      | refine ax_seq ?_
      | refine ax_region rfl ?_
      | refine ax_return ?_
      | refine ax_ret_code ?_)
    exact ax_ret hR rfl rfl
  repeat (first
    | refine ax_q (q_move rfl) ?_
    | refine ax_post_code ?_
    | refine ax_seq ?_
    | refine ax_region rfl ?_
    | refine ax_skip ?_)
  refine ax_callv rfl rfl rfl c1 ?_
  unfold bothA
  repeat (first
    | refine ax_q (q_move rfl) ?_
    | refine ax_q (q_assign rfl) ?_
    | refine ax_ops_nil ?_
    | refine ax_post_code ?_
    | refine ax_seq ?_
    | refine ax_region rfl ?_
    | refine ax_q (q_extract rfl rfl) ?_)
  refine ax_callv rfl rfl rfl c2 ?_
  unfold boundsA
  by_cases h1 : (regretsR m l).2 = 0
  case neg =>
    have e := regretsR_bad h1
    generalize regretsR m l = r at *
    obtain ⟨⟨r1, r2⟩, r3⟩ := r
    simp only [Prod.mk.injEq] at e
    obtain ⟨rfl, rfl⟩ := e
    repeat (first
      | refine ax_q (q_move rfl) ?_
      | refine ax_q (q_assign rfl) ?_
      | refine ax_ops_nil ?_
      | refine ax_post_code ?_
      | refine ax_seq ?_
      | refine ax_region rfl ?_
      | refine ax_q (q_neq rfl rfl) ?_
      | refine ax_q (q_extract rfl rfl) ?_)
    refine ax_gsplit rfl rfl (fun h => ?_) (fun h => absurd h1 h)
    repeat (first
      | refine ax_q (q_move rfl) ?_
      | refine ax_ops_nil ?_
      | refine ax_post_code ?_
      | refine ax_seq ?_
      | refine ax_region rfl ?_
      | refine ax_skip_not rfl rfl rfl ?_
      | refine ax_cond_true rfl ?_
      | refine ax_q (q_eql rfl rfl) ?_
      | refine ax_q (q_pick rfl rfl) ?_)
    refine ax_gsplit rfl rfl (fun h => absurd h h1) (fun h => ?_)
    repeat (first
      | refine ax_q (q_move rfl) ?_
      | refine ax_guard rfl rfl ?_
      | refine ax_q (q_len rfl rfl rfl) ?_)
    refine ax_q (q_add rfl rfl (by show -9223372036854775808 ≤ (0 : Int) + 0 ∧ (0 : Int) + 0 ≤ 9223372036854775807; decide)) ?_
    repeat (first
      | refine ax_q (q_assign rfl) ?_
      | refine ax_ops_nil ?_
      | refine ax_post_code ?_
      | refine ax_guard rfl rfl ?_
      | refine ax_return ?_
      | refine ax_ret_code ?_
      | refine ax_q (q_eql rfl rfl) ?_
      | refine ax_q (q_pick rfl rfl) ?_)
    exact ax_ret hR rfl rfl
  by_cases h2 : (boundsR m l).2 = 0
  case neg =>
    generalize regretsR m l = r at *
    obtain ⟨⟨r1, r2⟩, r3⟩ := r
    simp only at h1
    subst h1
    repeat (first
      | refine ax_q (q_move rfl) ?_
      | refine ax_q (q_assign rfl) ?_
      | refine ax_ops_nil ?_
      | refine ax_post_code ?_
      | refine ax_seq ?_
      | refine ax_region rfl ?_
      | refine ax_guard rfl rfl ?_
      | refine ax_q (q_neq rfl rfl) ?_
      | refine ax_q (q_pick rfl rfl) ?_
      | refine ax_q (q_extract rfl rfl) ?_)
    refine ax_cond_dec rfl (fun h => ?_) (fun h => absurd h2 (by simpa using h))
    repeat (first
      | refine ax_q (q_move rfl) ?_
      | refine ax_q (q_assign rfl) ?_
      | refine ax_ops_nil ?_
      | refine ax_post_code ?_
      | refine ax_seq ?_
      | refine ax_region rfl ?_
      | refine ax_skip_not rfl rfl rfl ?_
      | refine ax_return ?_
      | refine ax_ret_code ?_
      | refine ax_q (q_eql rfl rfl) ?_
      | refine ax_q (q_pick rfl rfl) ?_)
    exact ax_ret hR rfl rfl
  obtain ⟨a, b, lo, hi, hz⟩ := zero_law tm (by omega) h1 h2
  obtain ⟨i, k, s, q, z1, z2, z3, z4, z5, z6, z7⟩ := hz.best
  rw [hz.reg, hz.bnd]
  have b1 := best_ok a (by rw [hz.la]; exact hlen) (fun s hs => good_short (hz.ga s hs))
  have b2 := best_ok b (by rw [hz.lb]; unfold widM; cases m with | nil => exact Nat.zero_le _ | cons x _ => exact (hr x (by simp)).1) (fun s hs => good_short (hz.gb s hs))
  rw [z1] at b1
  rw [z2] at b2
  have g1 := hz.ga _ (get_in [] z3)
  have g2 := hz.gb _ (get_in [] z4)
  have c3 := radd_ok (a.getD i []) (b.getD k []) (good_short g1) (good_short g2)
  rw [z5] at c3
  obtain ⟨v1, v2⟩ := div_valid (a := s) (b := textQ ((l.length : Nat) : Rat)) (by rw [z6])
  obtain ⟨v3, v4⟩ := two_valid (a := hi) (b := lo) (by rw [z7])
  have c4 := rof_ok (l.length : Nat) 1 (by omega) (by decide) (by decide)
  have eo : ofR ((l.length : Nat) : Int) 1 = (textQ ((l.length : Nat) : Rat), 0) := by
    have e1 : Rat.divInt ((l.length : Nat) : Int) 1 = ((l.length : Nat) : Rat) := by
      rw [Rat.divInt_eq_div, Rat.intCast_natCast]
      show ((l.length : Nat) : Rat) / (1 : Rat) = _
      have h9 := Rat.div_mul_cancel (a := ((l.length : Nat) : Rat)) (b := 1) (by decide)
      rwa [Rat.mul_one] at h9
    unfold ofR
    rw [if_neg (by decide), e1]
    exact ((nat_D3 (n := l.length) (by omega)).out (by decide)).1
  rw [eo] at c4
  have c5 := rdiv_ok s (textQ ((l.length : Nat) : Rat)) (good_short v1) (good_short v2)
  rw [z6] at c5
  have c6 := rsub_ok hi lo (good_short v3) (good_short v4)
  rw [z7] at c6
  unfold pairA at *
  generalize textQ ((l.length : Nat) : Rat) = tn at *
  repeat (first
    | refine ax_q (q_move rfl) ?_
    | refine ax_q (q_assign rfl) ?_
    | refine ax_ops_nil ?_
    | refine ax_post_code ?_
    | refine ax_seq ?_
    | refine ax_region rfl ?_
    | refine ax_guard rfl rfl ?_
    | refine ax_cond_false rfl ?_
    | refine ax_skip ?_
    | refine ax_q (q_neq rfl rfl) ?_
    | refine ax_q (q_pick rfl rfl) ?_
    | refine ax_q (q_extract rfl rfl) ?_)
  refine ax_callv rfl rfl rfl b1 ?_
  repeat (first
    | refine ax_q (q_move rfl) ?_
    | refine ax_q (q_assign rfl) ?_
    | refine ax_ops_nil ?_
    | refine ax_post_code ?_
    | refine ax_seq ?_
    | refine ax_region rfl ?_
    | refine ax_q (q_extract rfl rfl) ?_)
  refine ax_callv rfl rfl rfl b2 ?_
  repeat (first
    | refine ax_q (q_move rfl) ?_
    | refine ax_q (q_assign rfl) ?_
    | refine ax_ops_nil ?_
    | refine ax_post_code ?_
    | refine ax_seq ?_
    | refine ax_region rfl ?_
    | refine ax_q (q_extract rfl rfl) ?_
    | refine ax_buildSliceRo rfl rfl rfl rfl rfl rfl rfl rfl rfl rfl rfl ?_)
  refine ax_callv rfl rfl rfl fine2 ?_
  repeat (first
    | refine ax_ops_nil ?_
    | refine ax_post_code ?_
    | refine ax_seq ?_
    | refine ax_cond_false rfl ?_
    | refine ax_skip ?_
    | refine ax_q (q_not rfl) ?_)
  refine ax_regiond (by kernel_rfl) ?_
  refine ax_any_run (fuel := 0) [0, 1, 2, 3, 4, 5, 6, 7, 8, 9, 10, 11, 12, 13] [(1, .ro (pairsC l) 0 l.length), (5, .ro (.strs a) 0 a.length), (6, .ro (.strs b) 0 b.length), (8, .str lo), (9, .str hi), (11, .int .i64 (i : Nat)), (13, .int .i64 (k : Nat))] ⟨rfl, rfl, rfl, rfl, rfl, rfl, rfl, trivial⟩ (by kernel_rfl) (by decide) rfl rfl ?_
  refine px_q rfl rfl (q_move rfl) ?_
  refine px_q rfl rfl (q_move rfl) ?_
  refine px_q rfl rfl (q_index_ro' rfl rfl rfl rfl (by first | (simp only [Nat.zero_add, Int.toNat_natCast, Int.toNat_zero]; exact rfl) | exact rfl) (by omega)) ?_
  refine px_q rfl rfl (q_loads_rp rfl rfl rfl) ?_
  refine px_q rfl rfl (q_move rfl) ?_
  refine px_q rfl rfl (q_move rfl) ?_
  refine px_q rfl rfl (q_index_ro' rfl rfl rfl rfl (by first | (simp only [Nat.zero_add, Int.toNat_natCast, Int.toNat_zero]; exact rfl) | exact rfl) (by omega)) ?_
  refine px_q rfl rfl (q_loads_rp rfl rfl rfl) ?_
  refine px_v rfl rfl rfl rfl rfl c3 ?_
  refine px_q rfl rfl (q_move rfl) ?_
  refine px_q rfl rfl (q_extract rfl rfl) ?_
  refine px_q rfl rfl (q_extract rfl rfl) ?_
  refine px_q rfl rfl (q_assign rfl) ?_
  refine px_q rfl rfl (q_assign rfl) ?_
  refine px_done ?_
  refine ax_any_done (by kernel_rfl) ?_
  repeat (first
    | refine ax_q (q_move rfl) ?_
    | refine ax_post_code ?_
    | refine ax_seq ?_
    | refine ax_region rfl ?_
    | refine ax_q (q_len rfl rfl rfl) ?_)
  refine ax_callv rfl rfl rfl c4 ?_
  repeat (first
    | refine ax_q (q_move rfl) ?_
    | refine ax_q (q_assign rfl) ?_
    | refine ax_ops_nil ?_
    | refine ax_post_code ?_
    | refine ax_seq ?_
    | refine ax_region rfl ?_
    | refine ax_q (q_extract rfl rfl) ?_
    | refine ax_buildSliceRo rfl rfl rfl rfl rfl rfl rfl rfl rfl rfl rfl ?_)
  refine ax_callv rfl rfl rfl fine2 ?_
  repeat (first
    | refine ax_q (q_move rfl) ?_
    | refine ax_ops_nil ?_
    | refine ax_post_code ?_
    | refine ax_seq ?_
    | refine ax_region rfl ?_
    | refine ax_cond_false rfl ?_
    | refine ax_skip ?_
    | refine ax_q (q_not rfl) ?_)
  refine ax_callv rfl rfl rfl c5 ?_
  repeat (first
    | refine ax_q (q_move rfl) ?_
    | refine ax_q (q_assign rfl) ?_
    | refine ax_ops_nil ?_
    | refine ax_post_code ?_
    | refine ax_seq ?_
    | refine ax_region rfl ?_
    | refine ax_q (q_extract rfl rfl) ?_)
  refine ax_callv rfl rfl rfl c6 ?_
  repeat (first
    | refine ax_q (q_move rfl) ?_
    | refine ax_q (q_assign rfl) ?_
    | refine ax_ops_nil ?_
    | refine ax_post_code ?_
    | refine ax_seq ?_
    | refine ax_region rfl ?_
    | refine ax_q (q_extract rfl rfl) ?_
    | refine ax_buildSliceRo rfl rfl rfl rfl rfl rfl rfl rfl rfl rfl rfl ?_)
  refine ax_callv rfl rfl rfl fine2 ?_
  repeat (first
    | refine ax_q (q_move rfl) ?_
    | refine ax_q (q_assign rfl) ?_
    | refine ax_ops_nil ?_
    | refine ax_post_code ?_
    | refine ax_guard rfl rfl ?_
    | refine ax_return ?_
    | refine ax_q (q_pick rfl rfl) ?_
    | refine ax_q (q_streql rfl rfl) ?_)
  exact ax_ret hR rfl (by simp [tupOf])
end Go.Proofs.YtgmleamhjnlknaaGreatDoor

namespace Go.Proofs.YtgmleamhjnlknaaGreatDoor
open Go.ChangeShapes Go.WideShapes

theorem ownIt : ownKnob Tryz.prog.godebug = none := by kernel_rfl
theorem laidIt : laidOutB Tryz.prog = true := by kernel_rfl
theorem rowedIt : mapsRowed Tryz.prog = true := by kernel_rfl
theorem fullIt : ((List.range Tryz.prog.types.size).all fun t => match Tryz.prog.underlying t with | some (.slice e) => decide (0 < Tryz.prog.cellsOf e) | _ => true) = true := by kernel_rfl
theorem stopsIt : (Tryz.prog.stops == []) = true := by kernel_rfl
theorem knobsIt : (Tryz.prog.stopKnobs == []) = true := by kernel_rfl
theorem heardIt : Tryz.prog.stopsHeard = true := by kernel_rfl
theorem enterIt : Tryz.prog.mayEnter = true := by kernel_rfl
theorem liftIt : (Rows.regretContinuesRow.lifted == Tryz.prog.liftsFinal) = true := by kernel_rfl
theorem makeIt : (Tryz.prog.make == some Rows.regretContinuesRow.make) = true := by kernel_rfl
theorem plainIt : (Rows.regretContinuesRow.plainKeys == Tryz.prog.plainKeys) = true := by kernel_rfl
theorem harnessIt : Tryz.prog.mainIs = some (true, ("01fbb469cf8b0980b89ab124d6c951f307d4b37b82991b3a2bba3582623a25d4" : String).toList) := by kernel_rfl
theorem looksIt : true = Tryz.prog.looks [] := by kernel_rfl
end Go.Proofs.YtgmleamhjnlknaaGreatDoor

