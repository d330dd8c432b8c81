/-
  What an abstract state promises of a concrete one, and the structural rules: a code's wp from rules on abstract states.
-/
import Derived.Test.YtmfhdfofmdggaaaAxBase
import Derived.Scope
set_option linter.unusedVariables false
set_option linter.unusedSimpArgs false
namespace Go.Ax
open Go.RowKit

theorem beq_ne {a b : Nat} (h : a ≠ b) : Nat.beq a b = false := by
  cases hb : Nat.beq a b with
  | false => rfl
  | true => exact absurd (Nat.eq_of_beq_eq_true hb) h

def look (t : Nat) : Fr → Option AV
  | [] => none
  | (u, v) :: r => bif Nat.beq t u then some v else look t r

/-- What a call began with, and what is asked of it. -/
structure Ctx where
  w0 : World
  S0 : Nat → Prop
  O : Nat → Prop
  σ0 : Nat → Option Blk
  fix : Nat → Prop
  R : AV → AHeap → Prop

structure Kp (c : Ctx) (w : World) (S : Nat → Prop) (σ : Nat → Option Blk) (H : AHeap) : Prop where
  os : w.os = c.w0.os
  output : w.output = c.w0.output
  tape : w.tape = c.w0.tape
  size : c.w0.heap.size ≤ w.heap.size
  block : ∀ b, b < c.w0.heap.size → ¬ c.O b → w.heap[b]? = c.w0.heap[b]?
  S1 : ∀ b, c.S0 b → S b
  S2 : ∀ b, S b → c.S0 b ∨ c.O b ∨ c.w0.heap.size ≤ b
  fixed : ∀ h, c.fix h → σ h = c.σ0 h
  fixlt : ∀ h, c.fix h → h < H.length
  own : ∀ h o b s C, H[h]? = some (some o) → σ h = some (.at b s C) → c.O b ∨ c.w0.heap.size ≤ b

structure Rep (c : Ctx) (w : World) (a : Act) (σ : Nat → Option Blk) (S : Nat → Prop) (n : Nat) (fr : Fr) (H : AHeap) : Prop where
  hr : HR w S σ H
  kp : Kp c w S σ H
  defers : a.defers = []
  size : a.tmps.size = n
  slots : ∀ t v, look t fr = some v → t < n ∧ VR w S σ v (a.tmps.getD t undef)

/-- What is left to do behind a piece of code. -/
inductive It where
  | code (c : Code)
  | blk (id : Nat)
  | scope
  | inv (G : Fr → AHeap → Prop)
  | any (all : Array Oper) (fuel : Nat) (listed : Array Bool)

def lift (c : Ctx) (n : Nat) (Q : Exit → Fr → AHeap → Prop) : Exit → Act → World → Prop := fun e a w => ∃ σ S fr H, Rep c w a σ S n fr H ∧ Q e fr H

/-- A result slot, read. -/
def ares1 (P : Program) (fr : Fr) (H : AHeap) : ResultVar → Option AV
  | .tmp t => look t fr
  | .cell t ty =>
    match look t fr with
    | some (.ptr h 0 0) =>
      match H[h]? with
      | some (some o) =>
        match o.c with
        | .box l =>
          match P.underlying ty, P.info? ty with
          | some (.struct _), some i => bif Nat.beq i.size l.length then some (.agg l) else none
          | some (.array _ _), some i => bif Nat.beq i.size l.length then some (.agg l) else none
          | some (.struct _), none => none
          | some (.array _ _), none => none
          | some _, _ => bif Nat.beq 1 l.length then l[0]? else none
          | none, _ => none
        | _ => none
      | _ => none
    | _ => none

def aresL (P : Program) (fr : Fr) (H : AHeap) : List ResultVar → Option (List AV)
  | [] => some []
  | r :: rs => match ares1 P fr H r with
    | some v => match aresL P fr H rs with
      | some vs => some (v :: vs)
      | none => none
    | none => none

def tupOf : List AV → AV
  | [v] => v
  | vs => .tup vs

def Post (P : Program) (fn : Func) (c : Ctx) : List It → Exit → Fr → AHeap → Prop
  | [], e, fr, H => (e = .normal ∨ e = .ret) ∧ ∃ vs, aresL P fr H fn.results.toList = some vs ∧ c.R (tupOf vs) H
  | .code cd :: k, .normal, fr, H => ∀ w a σ S, Rep c w a σ S fn.ntmps fr H → cd.wp P (lift c fn.ntmps (Post P fn c k)) a w
  | .code _ :: k, e, fr, H => Post P fn c k e fr H
  | .blk id :: k, .exit id', fr, H => bif Nat.beq id' id then Post P fn c k .normal fr H else Post P fn c k (.exit id') fr H
  | .blk _ :: k, e, fr, H => Post P fn c k e fr H
  | .scope :: k, e, fr, H => match e with
    | .goto _ => False
    | e => Post P fn c k e fr H
  | .inv G :: k, e, fr, H => match e with
    | .normal => G fr H
    | e => Post P fn c k e fr H
  | .any all fuel listed :: k, e, fr, H => match e with
    | .normal => ∀ w a σ S, Rep c w a σ S fn.ntmps fr H → wpAny P .any all (lift c fn.ntmps (Post P fn c k)) fuel listed a w
    | e => Post P fn c k e fr H

inductive M where
  | code (c : Code) (k : List It)
  | ops (q : Bool) (all : Array Oper) (rest : List Oper) (k : List It)
  | any (all : Array Oper) (fuel : Nat) (listed : Array Bool) (k : List It)
  | post (e : Exit) (k : List It)

def dstsOK (n : Nat) : List Oper → Bool
  | [] => true
  | o :: r => (match o.dst with | some d => Nat.blt d n | none => true) && dstsOK n r

/-- The goal of a symbolic walk. -/
def Ax (P : Program) (fn : Func) (c : Ctx) : M → Fr → AHeap → Prop
  | .code cd k, fr, H => ∀ w a σ S, Rep c w a σ S fn.ntmps fr H → cd.wp P (lift c fn.ntmps (Post P fn c k)) a w
  | .ops false all rest k, fr, H => dstsOK fn.ntmps rest = true → ∀ w a σ S, Rep c w a σ S fn.ntmps fr H → wpList P all (lift c fn.ntmps (Post P fn c k)) rest a w
  | .ops true all rest k, fr, H => dstsOK fn.ntmps rest = true → ∀ w a σ S, Rep c w a σ S fn.ntmps fr H →
      wpQuiet P all (fun w' => ∃ m, w' = w.drewN m) (fun a' => ∀ w', (∃ m, w' = w.drewN m) → lift c fn.ntmps (Post P fn c k) .normal a' w') rest a
  | .any all fuel listed k, fr, H => ∀ w a σ S, Rep c w a σ S fn.ntmps fr H → wpAny P .any all (lift c fn.ntmps (Post P fn c k)) fuel listed a w
  | .post e k, fr, H => Post P fn c k e fr H

theorem wp_loop_ghost {P : Program} {Q : Exit → Act → World → Prop} {a : Act} {w : World} {c : Code} {ι : Type} (I : ι → Act → World → Prop) (μ : ι → Nat) (i0 : ι) (h₀ : I i0 a w)
    (round : ∀ i a w, I i a w → c.wp P (Exit.then (fun a' w' => ∃ j, I j a' w' ∧ μ j < μ i) Q) a w) : (Code.loop c).wp P Q a w := by
  intro b k cs
  have key : ∀ n i a w, μ i = n → I i a w →
      ∃ e a' w', Q e a' w' ∧ Arrives P (lone (b.at a (.code c :: .inLoop c :: k)) cs w) b k cs e a' w' := by
    intro n
    induction n using Nat.strongRecOn with
    | _ n ih =>
      intro i a w hn hI
      obtain ⟨e, a₁, w₁, hq, harr⟩ := round i a w hI b (.inLoop c :: k) cs
      cases e with
      | normal =>
        obtain ⟨j, hI₁, hlt⟩ := hq
        obtain ⟨e₂, a₂, w₂, hq₂, harr₂⟩ := ih (μ j) (hn ▸ hlt) j a₁ w₁ rfl hI₁
        exact ⟨e₂, a₂, w₂, hq₂, .of_steps (Steps.trans harr (.one step_inLoop)) harr₂⟩
      | exit id => exact ⟨_, a₁, w₁, hq, .pass (x := .inLoop c) rfl (fun _ _ => .inl (by simp)) harr⟩
      | goto l => exact ⟨_, a₁, w₁, hq, .pass (x := .inLoop c) rfl (fun _ _ => .inl (by simp)) harr⟩
      | ret => exact ⟨_, a₁, w₁, hq, .pass (x := .inLoop c) rfl (fun _ _ => .inl (by simp)) harr⟩
      | panic ch => exact ⟨_, a₁, w₁, hq, .pass (x := .inLoop c) rfl (fun _ _ => .inl (by simp)) harr⟩
      | outgrown => exact ⟨_, a₁, w₁, hq, .pass (x := .inLoop c) rfl (fun _ _ => .inl (by simp)) harr⟩
  obtain ⟨e, a', w', hq, harr⟩ := key _ i0 a w rfl h₀
  exact ⟨e, a', w', hq, .of_steps (.one step_loop) harr⟩

section
variable {P : Program} {fn : Func} {c : Ctx} {fr : Fr} {H : AHeap} {k : List It}

theorem ax_seq {x y : Code} (h : Ax P fn c (.code x (.code y :: k)) fr H) : Ax P fn c (.code (.seq x y) k) fr H := by
  intro w a σ S hr
  refine wp_seq (wp_mono (h w a σ S hr) ?_)
  rintro e a' w' ⟨σ', S', fr', H', hr', hp⟩
  cases e with
  | normal => exact hp w' a' σ' S' hr'
  | exit id => exact ⟨σ', S', fr', H', hr', hp⟩
  | goto l => exact ⟨σ', S', fr', H', hr', hp⟩
  | ret => exact ⟨σ', S', fr', H', hr', hp⟩
  | panic ch => exact ⟨σ', S', fr', H', hr', hp⟩
  | outgrown => exact ⟨σ', S', fr', H', hr', hp⟩

theorem ax_skip (h : Ax P fn c (.post .normal k) fr H) : Ax P fn c (.code .skip k) fr H :=
  fun _ _ _ _ hr => wp_skip ⟨_, _, _, _, hr, h⟩
theorem ax_label {l : Nat} (h : Ax P fn c (.post .normal k) fr H) : Ax P fn c (.code (.label l) k) fr H :=
  fun _ _ _ _ hr => wp_label ⟨_, _, _, _, hr, h⟩
theorem ax_exit {id : Nat} (h : Ax P fn c (.post (.exit id) k) fr H) : Ax P fn c (.code (.exit id) k) fr H :=
  fun _ _ _ _ hr => wp_exit ⟨_, _, _, _, hr, h⟩
theorem ax_return (h : Ax P fn c (.post .ret k) fr H) : Ax P fn c (.code .ret k) fr H :=
  fun _ _ _ _ hr => wp_ret ⟨_, _, _, _, hr, h⟩
theorem ax_block {id : Nat} {x : Code} (h : Ax P fn c (.code x (.blk id :: k)) fr H) : Ax P fn c (.code (.block id x) k) fr H := by
  intro w a σ S hr
  refine wp_block (wp_mono (h w a σ S hr) ?_)
  rintro e a' w' ⟨σ', S', fr', H', hr', hp⟩
  cases e with
  | exit id' =>
    simp only [Exit.inBlock]
    by_cases he : id' = id
    · subst he
      have hp' : Post P fn c k .normal fr' H' := by simpa [Post] using hp
      simp only [if_true]
      exact ⟨σ', S', fr', H', hr', hp'⟩
    · have hp' : Post P fn c k (.exit id') fr' H' := by
        have hb : Nat.beq id' id = false := beq_ne he
        simpa [Post, hb] using hp
      simp only [he, if_false]
      exact ⟨σ', S', fr', H', hr', hp'⟩
  | normal => exact ⟨σ', S', fr', H', hr', hp⟩
  | goto l => exact ⟨σ', S', fr', H', hr', hp⟩
  | ret => exact ⟨σ', S', fr', H', hr', hp⟩
  | panic ch => exact ⟨σ', S', fr', H', hr', hp⟩
  | outgrown => exact ⟨σ', S', fr', H', hr', hp⟩
theorem ax_scope {x : Code} (h : Ax P fn c (.code x (.scope :: k)) fr H) : Ax P fn c (.code (.scope x) k) fr H := by
  intro w a σ S hr
  refine wp_scope_straight (wp_mono (h w a σ S hr) ?_)
  rintro e a' w' ⟨σ', S', fr', H', hr', hp⟩
  cases e with
  | goto l => exact hp.elim
  | normal => exact ⟨σ', S', fr', H', hr', hp⟩
  | exit id => exact ⟨σ', S', fr', H', hr', hp⟩
  | ret => exact ⟨σ', S', fr', H', hr', hp⟩
  | panic ch => exact ⟨σ', S', fr', H', hr', hp⟩
  | outgrown => exact ⟨σ', S', fr', H', hr', hp⟩

theorem Rep.drewN {w : World} {a : Act} {σ : Nat → Option Blk} {S : Nat → Prop} {n m : Nat} (h : Rep c w a σ S n fr H) : Rep c (w.drewN m) a σ S n fr H := by
  have hv : ∀ {σ' : Nat → Option Blk} {x v}, VR w S σ' x v → VR (w.drewN m) S σ' x v := fun h => h.mono (w := w) (w' := w.drewN m) (fun _ h => h) (fun _ _ => rfl) _ (fun _ _ h => h)
  refine ⟨⟨fun h' o ho => ?_, h.hr.dist, h.hr.small, h.hr.dom⟩, ⟨h.kp.os, h.kp.output, h.kp.tape, h.kp.size, h.kp.block, h.kp.S1, h.kp.S2, h.kp.fixed, h.kp.fixlt, h.kp.own⟩, h.defers, h.size, fun t v hl => ⟨(h.slots t v hl).1, hv (h.slots t v hl).2⟩⟩
  rcases h.hr.live h' o ho with hn | ⟨b, C, cur, h1, h2, h3, h4, h5, h6, h7⟩
  · exact .inl hn
  · exact .inr ⟨b, C, cur, h1, h2, h3, h4, h5, h6, fun i j hi hj => let ⟨v, a1, a2, a3⟩ := h7 i j hi hj; ⟨v, a1, hv a2, a3⟩⟩

/-- A region that draws its order, all of whose operations only read. -/
theorem ax_regionq {id : Nat} {l : List Oper} (hm : P.follows .mixedOrders = true) (hB : Region.lexB .any l.toArray = true) (hd : dstsOK fn.ntmps l = true) (h : Ax P fn c (.ops true l.toArray l k) fr H) : Ax P fn c (.code (.region id l.toArray true) k) fr H :=
  fun w a σ S hr => wp_region_quiet_lit hm hB (h hd w a σ S hr)

theorem ax_region {id : Nat} {l : List Oper} (hd : dstsOK fn.ntmps l = true) (h : Ax P fn c (.ops false l.toArray l k) fr H) : Ax P fn c (.code (.region id l.toArray false) k) fr H :=
  fun w a σ S hr => wp_region_list (by simpa using h hd w a σ S hr)

theorem ax_ops_nil {q : Bool} {all : Array Oper} (h : Ax P fn c (.post .normal k) fr H) : Ax P fn c (.ops q all [] k) fr H := by
  cases q with
  | false => exact fun _ _ _ _ _ hr => wpList_nil ⟨_, _, _, _, hr, h⟩
  | true => exact fun _ w a σ S hr => wpQuiet_nil (fun w' ⟨m, hw⟩ => ⟨σ, S, _, _, hw ▸ hr.drewN, h⟩)

theorem ax_post_code {x : Code} (h : Ax P fn c (.code x k) fr H) : Ax P fn c (.post .normal (.code x :: k)) fr H := h
theorem ax_post_blk {id : Nat} (h : Ax P fn c (.post .normal k) fr H) : Ax P fn c (.post .normal (.blk id :: k)) fr H := h
theorem ax_post_scope (h : Ax P fn c (.post .normal k) fr H) : Ax P fn c (.post .normal (.scope :: k)) fr H := h
theorem ax_post_inv {G : Fr → AHeap → Prop} (h : G fr H) : Ax P fn c (.post .normal (.inv G :: k)) fr H := h
theorem ax_exit_code {x : Code} {id : Nat} (h : Ax P fn c (.post (.exit id) k) fr H) : Ax P fn c (.post (.exit id) (.code x :: k)) fr H := h
theorem ax_exit_inv {G : Fr → AHeap → Prop} {id : Nat} (h : Ax P fn c (.post (.exit id) k) fr H) : Ax P fn c (.post (.exit id) (.inv G :: k)) fr H := h
theorem ax_exit_scope {id : Nat} (h : Ax P fn c (.post (.exit id) k) fr H) : Ax P fn c (.post (.exit id) (.scope :: k)) fr H := h
theorem ax_exit_here {id : Nat} (h : Ax P fn c (.post .normal k) fr H) : Ax P fn c (.post (.exit id) (.blk id :: k)) fr H := by
  show Post P fn c _ _ _ _
  simp only [Post, Nat.beq_refl, cond_true]
  exact h
theorem ax_exit_on {id id' : Nat} (hne : Nat.beq id' id = false) (h : Ax P fn c (.post (.exit id') k) fr H) : Ax P fn c (.post (.exit id') (.blk id :: k)) fr H := by
  show Post P fn c _ _ _ _
  simp only [Post, hne, cond_false]
  exact h
theorem ax_ret_code {x : Code} (h : Ax P fn c (.post .ret k) fr H) : Ax P fn c (.post .ret (.code x :: k)) fr H := h
theorem ax_ret_blk {id : Nat} (h : Ax P fn c (.post .ret k) fr H) : Ax P fn c (.post .ret (.blk id :: k)) fr H := h
theorem ax_ret_scope (h : Ax P fn c (.post .ret k) fr H) : Ax P fn c (.post .ret (.scope :: k)) fr H := h
theorem ax_ret_inv {G : Fr → AHeap → Prop} (h : Ax P fn c (.post .ret k) fr H) : Ax P fn c (.post .ret (.inv G :: k)) fr H := h
theorem ax_ret {vs : List AV} {R : AV → AHeap → Prop} (hR : c.R = R) (hv : aresL P fr H fn.results.toList = some vs) (h : R (tupOf vs) H) : Ax P fn c (.post .ret []) fr H :=
  ⟨.inr rfl, vs, hv, hR ▸ h⟩
theorem ax_end {vs : List AV} {R : AV → AHeap → Prop} (hR : c.R = R) (hv : aresL P fr H fn.results.toList = some vs) (h : R (tupOf vs) H) : Ax P fn c (.post .normal []) fr H :=
  ⟨.inl rfl, vs, hv, hR ▸ h⟩

/-- What an operand is. -/
def ev (fr : Fr) : Operand → Option AV
  | .tmp t => look t fr
  | .const v => match v with
    | .int k n => some (.int k n)
    | .bool b => some (.bool b)
    | .string s => some (.str s.data.toList)
    | .slice none 0 0 => some .nil
    | .pointer none => some .nilp
    | .nilFunc => some .nilfn
    | _ => none
  | .global _ => none
  | .func f => some (.fn f [])

theorem Rep.evAt {w : World} {a : Act} {σ : Nat → Option Blk} {S : Nat → Prop} {n : Nat} (h : Rep c w a σ S n fr H) {o : Operand} {v : AV} (hv : Ax.ev fr o = some v) : VR w S σ v (a.eval o) := by
  cases o with
  | tmp t => exact (h.slots t v hv).2
  | const x =>
    cases x with
    | int k n => cases hv; exact .int _ _ _
    | bool b => cases hv; exact .bool _ _
    | string s => cases hv; exact VR.str σ s.data.toList
    | slice ad len cap =>
      cases ad with
      | none =>
        cases len with
        | zero => cases cap with
          | zero => cases hv; exact .nil _
          | succ _ => cases hv
        | succ _ => cases hv
      | some _ => cases hv
    | pointer p => cases p with
      | none => cases hv; exact .nilp _
      | some _ => cases hv
    | nilFunc => cases hv; exact .nilfn _
    | _ => cases hv
  | global g => cases hv
  | func f => cases hv; exact .fn _ _ _ #[] rfl (fun i hi => by simp at hi)

theorem Rep.put {w : World} {a : Act} {σ : Nat → Option Blk} {S : Nat → Prop} {n d : Nat} {v : AV} {x : Value} (h : Rep c w a σ S n fr H) (hv : VR w S σ v x) (hd : d < n) : Rep c w (a.put (some d) x) σ S n ((d, v) :: fr) H := by
  refine ⟨h.hr, h.kp, h.defers, by simpa [Act.put] using h.size, fun t y hl => ?_⟩
  simp only [look] at hl
  by_cases he : t = d
  · subst he
    simp only [Nat.beq_refl, cond_true, Option.some.injEq] at hl
    subst hl
    refine ⟨hd, ?_⟩
    have : t < a.tmps.size := by rw [h.size]; exact hd
    simpa [Act.put, this] using hv
  · simp only [beq_ne he, cond_false] at hl
    obtain ⟨h1, h2⟩ := h.slots t y hl
    refine ⟨h1, ?_⟩
    have : ¬ d = t := fun e => he e.symm
    simpa [Act.put, Array.getElem?_setIfInBounds, this] using h2

/-- An operation that only reads, and what it yields; 'ind': it does not even look at memory. -/
def QOp (ind : Bool) (P : Program) (fn : Func) (c : Ctx) (fr : Fr) (H : AHeap) (o : Oper) (v : AV) : Prop :=
  ∀ w a σ S, Rep c w a σ S fn.ntmps fr H → ∃ x, VR w S σ v x ∧ ∀ w', (ind = true ∨ w'.heap = w.heap) → (execOp a.eval o).run P w' = .ok (.value x) w'

theorem dsts_cons {n : Nat} {o : Oper} {r : List Oper} (h : dstsOK n (o :: r) = true) : (∀ d, o.dst = some d → d < n) ∧ dstsOK n r = true := by
  simp only [dstsOK, Bool.and_eq_true] at h
  refine ⟨fun d hd => ?_, h.2⟩
  have h1 := h.1
  rw [hd] at h1
  exact Nat.le_of_ble_eq_true h1

/-- One reading operation without a guard. -/
theorem ax_q {q : Bool} {all : Array Oper} {d : Nat} {op : Op} {ty : TypeId} {pos : String} {after : Array Edge} {rest : List Oper} {v : AV}
    (hop : QOp false P fn c fr H ⟨some d, op, ty, pos, after, none⟩ v) (h : Ax P fn c (.ops q all rest k) ((d, v) :: fr) H) : Ax P fn c (.ops q all (⟨some d, op, ty, pos, after, none⟩ :: rest) k) fr H := by
  cases q with
  | false =>
    intro hd w a σ S hr
    obtain ⟨hd1, hd2⟩ := dsts_cons hd
    obtain ⟨x, hx, hrun⟩ := hop w a σ S hr
    refine wpList_step (fun K hK => ?_)
    simp only [Region.wanted, if_true]
    unfold Oper.wp
    rw [hrun w (.inr rfl)]
    exact hK _ _ (h hd2 w _ σ S (hr.put hx (hd1 d rfl)))
  | true =>
    intro hd w a σ S hr
    obtain ⟨hd1, hd2⟩ := dsts_cons hd
    obtain ⟨x, hx, hrun⟩ := hop w a σ S hr
    refine wpQuiet_step (fun K hK => ?_)
    simp only [Region.wanted, if_true]
    refine ⟨x, fun w' hw => ?_, hK _ (h hd2 w _ σ S (hr.put hx (hd1 d rfl)))⟩
    obtain ⟨m, rfl⟩ := hw
    unfold Oper.quietAt
    rw [hrun (w.drewN m) (.inr rfl)]
    exact ⟨rfl, rfl⟩

theorem post_panic {ch : List PanicEntry} : ∀ (k : List It), Post P fn c k (.panic ch) fr H → False
  | [], h => by rcases h with ⟨h | h, _⟩ <;> cases h
  | .code _ :: k, h => post_panic k h
  | .blk _ :: k, h => post_panic k h
  | .scope :: k, h => post_panic k h
  | .inv _ :: k, h => post_panic k h
  | .any _ _ _ :: k, h => post_panic k h

/-- A region whose order is open: whatever order. -/
theorem ax_regiond {id : Nat} {l : List Oper} (hm : P.follows .mixedOrders = true) (h : Ax P fn c (.any l.toArray l.length (Array.replicate l.length false) k) fr H) : Ax P fn c (.code (.region id l.toArray true) k) fr H := by
  intro w a σ S hr
  refine wp_region_any hm ?_
  have h2 := h (w.drewN 1) a σ S hr.drewN
  have e : l.toArray.size = l.length := by simp
  rw [e]
  exact h2

theorem ax_any_done {all : Array Oper} {fuel : Nat} {listed : Array Bool} (hr : Region.ready .any all listed = []) (h : Ax P fn c (.post .normal k) fr H) : Ax P fn c (.any all fuel listed k) fr H := by
  intro w a σ S hrep
  cases fuel with
  | zero => exact ⟨hr, _, _, _, _, hrep, h⟩
  | succ f =>
    refine ⟨fun _ => ⟨_, _, _, _, hrep, h⟩, fun i hi => ?_⟩
    rw [hr] at hi; cases hi

/-- An operation that does not look at memory may be taken first. -/
theorem ax_any_q {all : Array Oper} {fuel : Nat} {listed listed' : Array Bool} (i : Nat) {d : Nat} {op : Op} {ty : TypeId} {pos : String} {after : Array Edge} {v : AV}
    (hi : all[i]? = some ⟨some d, op, ty, pos, after, none⟩) (hsel : Region.noSelect all = true) (hready : (Region.ready .any all listed).contains i = true) (hfree : Region.free .any all listed i = true) (hd : Nat.blt d fn.ntmps = true)
    (hop : QOp true P fn c fr H ⟨some d, op, ty, pos, after, none⟩ v) (hl : listed.setIfInBounds i true = listed') (h : Ax P fn c (.any all fuel listed' k) ((d, v) :: fr) H) : Ax P fn c (.any all (fuel + 1) listed k) fr H := by
  intro w a σ S hr
  subst hl
  obtain ⟨x, hx, hrun⟩ := hop w a σ S hr
  refine wpAny_first hi (Region.noSelect_spec hsel) ?_ fuel listed a w (Region.free_spec hi hfree) (by simpa using hready) (v := x) ?_ (h w _ σ S (hr.put hx (Nat.le_of_ble_eq_true hd)))
  · rintro ch a' w' ⟨_, _, _, _, _, hp⟩
    exact (post_panic _ hp).elim
  · exact .inl ⟨rfl, fun w' => hrun w' (.inl rfl)⟩

def AllR (P : Program) (fn : Func) (c : Ctx) (all : Array Oper) (fuel : Nat) (listed : Array Bool) (k : List It) (fr : Fr) (H : AHeap) : List Nat → Prop
  | [] => True
  | i :: r => (∀ o, all[i]? = some o → Ax P fn c (.ops false all [o] (.any all fuel (listed.setIfInBounds i true) :: k)) fr H) ∧ AllR P fn c all fuel listed k fr H r

theorem allR_mem {all : Array Oper} {fuel : Nat} {listed : Array Bool} {is : List Nat} (h : AllR P fn c all fuel listed k fr H is) {i : Nat} (hi : i ∈ is) {o : Oper} (ho : all[i]? = some o) : Ax P fn c (.ops false all [o] (.any all fuel (listed.setIfInBounds i true) :: k)) fr H := by
  induction is with
  | nil => cases hi
  | cons j r ih =>
    rcases List.mem_cons.1 hi with rfl | hi
    · exact h.1 o ho
    · exact ih h.2 hi

theorem upon_mono {o : Oper} {a : Act} {K K' : Act → World → Prop} {Q Q' : Exit → Act → World → Prop} (hK : ∀ a w, K a w → K' a w) (hp : ∀ ch a w, Q (.panic ch) a w → Q' (.panic ch) a w) (ho : LetsOut Q → LetsOut Q') {r : Result Next}
    (h : o.upon P a K Q r) : o.upon P a K' Q' r := by
  unfold Oper.upon at *
  split at h
  · exact hK _ _ h
  · exact hK _ _ h
  · exact hK _ _ h
  · refine Calls.mono h fun e w'' he => ?_
    cases e with
    | returned v => exact hK _ _ he
    | panicked ch => exact hp _ _ _ he
    | outgrown => exact ho he
  · exact Rows.mono h fun v w'' he => hK _ _ he
  · exact hp _ _ _ h
  · exact h.elim

/-- Whatever operation comes up next. -/
theorem ax_any_step {all : Array Oper} {fuel : Nat} {listed : Array Bool} {is : List Nat} (hr : Region.ready .any all listed = is) (hne : is ≠ []) (hd : dstsOK fn.ntmps all.toList = true) (h : AllR P fn c all fuel listed k fr H is) : Ax P fn c (.any all (fuel + 1) listed k) fr H := by
  intro w a σ S hrep
  refine ⟨fun h0 => absurd (hr ▸ h0) hne, fun i hi => ?_⟩
  rw [hr] at hi
  unfold wpOp
  split
  · rename_i hn
    rw [← hr] at hi
    obtain ⟨_, o, ho, _⟩ := mem_ready.1 hi
    rw [hn] at ho; cases ho
  · rename_i o ho
    have h1 := allR_mem h hi ho
    have hd1 : dstsOK fn.ntmps [o] = true := by
      have hmem : o ∈ all.toList := by simpa using Array.mem_of_getElem? ho
      clear h1 h
      generalize all.toList = l at hd hmem
      induction l with
      | nil => cases hmem
      | cons x r ih =>
        simp only [dstsOK, Bool.and_eq_true] at hd ⊢
        rcases List.mem_cons.1 hmem with rfl | hm
        · exact ⟨hd.1, trivial⟩
        · have := ih hd.2 hm
          simp only [dstsOK, Bool.and_eq_true] at this
          exact this
    have h2 := h1 hd1 w a σ S hrep
    have hnorm : ∀ a w, lift c fn.ntmps (Post P fn c (.any all fuel (listed.setIfInBounds i true) :: k)) .normal a w → wpAny P .any all (lift c fn.ntmps (Post P fn c k)) fuel (listed.setIfInBounds i true) a w := by
      rintro a w ⟨σ', S', fr', H', hr', hp⟩
      exact hp w a σ' S' hr'
    unfold wpList at h2
    split
    · rename_i hw
      rw [if_pos hw] at h2
      rcases h2 with h2 | ⟨ha, hl⟩
      · left
        unfold Oper.wp at *
        exact upon_mono hnorm (fun _ _ _ h => h) (fun h => h) h2
      · exact .inr ⟨ha, hl⟩
    · rename_i hw
      rw [if_neg hw] at h2
      exact hnorm _ _ h2

theorem ax_post_any {all : Array Oper} {fuel : Nat} {listed : Array Bool} (h : Ax P fn c (.any all fuel listed k) fr H) : Ax P fn c (.post .normal (.any all fuel listed :: k)) fr H := h

/-- The slot in which an operation of the region yields. -/
def yslot (all : Array Oper) (j : Nat) : Option Nat := (all[j]?).bind (·.dst)

theorem wanted_of {w : World} {a : Act} {σ : Nat → Option Blk} {S : Nat → Prop} {n : Nat} (hr : Rep c w a σ S n fr H) {all : Array Oper} {d : Option Nat} {op : Op} {ty : TypeId} {pos : String} {after : Array Edge} {j t : Nat} {p b : Bool}
    (hy : yslot all j = some t) (hb : look t fr = some (.bool b)) : Region.wanted ⟨d, op, ty, pos, after, some (j, p)⟩ (yielded all a.tmps) = (b == p) := by
  obtain ⟨h1, h2⟩ := hr.slots t _ hb
  have h3 : t < a.tmps.size := by rw [hr.size]; exact h1
  generalize hz : a.tmps.getD t undef = z at h2
  cases h2
  have h4 : a.tmps[t]? = some (.bool b) := by
    simp only [Array.getD, h3, dite_true] at hz
    simp only [Array.getElem?_eq_getElem h3]
    exact congrArg some hz
  unfold yslot at hy
  simp only [Region.wanted, yielded, hy, Option.bind_some, h4]
  cases b <;> cases p <;> rfl

/-- .. with a guard that lets it run. -/
theorem ax_guard {q : Bool} {all : Array Oper} {d : Option Nat} {op : Op} {ty : TypeId} {pos : String} {after : Array Edge} {rest : List Oper} {j t : Nat} {p : Bool}
    (hy : yslot all j = some t) (hb : look t fr = some (.bool p)) (h : Ax P fn c (.ops q all (⟨d, op, ty, pos, after, none⟩ :: rest) k) fr H) : Ax P fn c (.ops q all (⟨d, op, ty, pos, after, some (j, p)⟩ :: rest) k) fr H := by
  cases q with
  | false =>
    intro hd w a σ S hr
    have h1 := h hd w a σ S hr
    simp only [wpList, wanted_of hr hy hb, beq_self_eq_true, if_true]
    simp only [wpList, Region.wanted, if_true] at h1
    exact h1
  | true =>
    intro hd w a σ S hr
    have h1 := h hd w a σ S hr
    simp only [wpQuiet, wanted_of hr hy hb, beq_self_eq_true, if_true]
    simp only [wpQuiet, Region.wanted, if_true] at h1
    exact h1

/-- .. with a guard that passes it over. -/
theorem ax_guard_not {q : Bool} {all : Array Oper} {d : Nat} {op : Op} {ty : TypeId} {pos : String} {after : Array Edge} {rest : List Oper} {j t : Nat} {p b : Bool}
    (hy : yslot all j = some t) (hb : look t fr = some (.bool b)) (hne : (b == p) = false) (h : Ax P fn c (.ops q all rest k) ((d, .any) :: fr) H) : Ax P fn c (.ops q all (⟨some d, op, ty, pos, after, some (j, p)⟩ :: rest) k) fr H := by
  cases q with
  | false =>
    intro hd w a σ S hr
    obtain ⟨hd1, hd2⟩ := dsts_cons hd
    simp only [wpList, wanted_of hr hy hb, hne, Bool.false_eq_true, if_false]
    exact h hd2 w _ σ S (hr.put (.any _ _) (hd1 d rfl))
  | true =>
    intro hd w a σ S hr
    obtain ⟨hd1, hd2⟩ := dsts_cons hd
    simp only [wpQuiet, wanted_of hr hy hb, hne, Bool.false_eq_true, if_false]
    exact h hd2 w _ σ S (hr.put (.any _ _) (hd1 d rfl))

theorem Rep.dup {w : World} {a : Act} {σ : Nat → Option Blk} {S : Nat → Prop} {n t : Nat} {v : AV} (h : Rep c w a σ S n fr H) (hl : look t fr = some v) : Rep c w a σ S n ((t, v) :: fr) H := by
  refine ⟨h.hr, h.kp, h.defers, h.size, fun u y hy => ?_⟩
  simp only [look] at hy
  by_cases he : u = t
  · subst he
    simp only [Nat.beq_refl, cond_true, Option.some.injEq] at hy
    subst hy
    exact h.slots u v hl
  · simp only [beq_ne he, cond_false] at hy
    exact h.slots u y hy

/-- A slot's Bool is parted on. -/
theorem ax_split {q : Bool} {all : Array Oper} {rest : List Oper} (t : Nat) {b : Bool} (hb : look t fr = some (.bool b)) (ht : b = true → Ax P fn c (.ops q all rest k) ((t, .bool true) :: fr) H)
    (hf : b = false → Ax P fn c (.ops q all rest k) ((t, .bool false) :: fr) H) : Ax P fn c (.ops q all rest k) fr H := by
  cases b with
  | true => cases q with
    | true => exact fun hd w a σ S hr => ht rfl hd w a σ S (hr.dup hb)
    | false => exact fun hd w a σ S hr => ht rfl hd w a σ S (hr.dup hb)
  | false => cases q with
    | true => exact fun hd w a σ S hr => hf rfl hd w a σ S (hr.dup hb)
    | false => exact fun hd w a σ S hr => hf rfl hd w a σ S (hr.dup hb)
theorem ax_split_dec {q : Bool} {all : Array Oper} {rest : List Oper} (t : Nat) {p : Prop} {_ : Decidable p} (hb : look t fr = some (.bool (decide p))) (ht : p → Ax P fn c (.ops q all rest k) ((t, .bool true) :: fr) H)
    (hf : ¬ p → Ax P fn c (.ops q all rest k) ((t, .bool false) :: fr) H) : Ax P fn c (.ops q all rest k) fr H :=
  ax_split t hb (fun h => ht (of_decide_eq_true h)) (fun h => hf (of_decide_eq_false h))

theorem ax_cond_true {o : Operand} {x y : Code} (hc : ev fr o = some (.bool true)) (h : Ax P fn c (.code x k) fr H) : Ax P fn c (.code (.cond o x y) k) fr H := by
  intro w a σ S hr
  have := hr.evAt hc
  generalize hz : a.eval o = z at this
  cases this
  exact wp_cond_true hz (h w a σ S hr)
theorem ax_cond_false {o : Operand} {x y : Code} (hc : ev fr o = some (.bool false)) (h : Ax P fn c (.code y k) fr H) : Ax P fn c (.code (.cond o x y) k) fr H := by
  intro w a σ S hr
  have := hr.evAt hc
  generalize hz : a.eval o = z at this
  cases this
  exact wp_cond_false hz (h w a σ S hr)
theorem ax_cond {o : Operand} {x y : Code} {b : Bool} (hc : ev fr o = some (.bool b)) (ht : b = true → Ax P fn c (.code x k) fr H) (hf : b = false → Ax P fn c (.code y k) fr H) : Ax P fn c (.code (.cond o x y) k) fr H := by
  cases b
  · exact ax_cond_false hc (hf rfl)
  · exact ax_cond_true hc (ht rfl)
/-- A test on numbers. -/
theorem ax_cond_dec {o : Operand} {x y : Code} {p : Prop} {_ : Decidable p} (hc : ev fr o = some (.bool (decide p))) (ht : p → Ax P fn c (.code x k) fr H) (hf : ¬ p → Ax P fn c (.code y k) fr H) : Ax P fn c (.code (.cond o x y) k) fr H :=
  ax_cond hc (fun h => ht (of_decide_eq_true h)) (fun h => hf (of_decide_eq_false h))

/-- The known slots of a state. -/
def knows (fr : Fr) : List (Nat × AV) → Prop
  | [] => True
  | (t, v) :: r => look t fr = some v ∧ knows fr r

theorem look_knows {fr L : Fr} {t : Nat} {v : AV} (h : knows fr L) (hl : look t L = some v) : look t fr = some v := by
  induction L with
  | nil => simp [look] at hl
  | cons p r ih =>
    obtain ⟨u, x⟩ := p
    obtain ⟨h1, h2⟩ := h
    simp only [look] at hl
    by_cases he : t = u
    · subst he; simp at hl; subst hl; exact h1
    · have hb : Nat.beq t u = false := beq_ne he
      simp [hb] at hl
      exact ih h2 hl

theorem Rep.weaken {w : World} {a : Act} {σ : Nat → Option Blk} {S : Nat → Prop} {n : Nat} {L : Fr} (h : Rep c w a σ S n fr H) (hk : knows fr L) : Rep c w a σ S n L H :=
  ⟨h.hr, h.kp, h.defers, h.size, fun t v hl => h.slots t v (look_knows hk hl)⟩

/-- A loop: what is known at each round's head, by a ghost. -/
theorem ax_loop {ι : Type} {x : Code} (kn : ι → Fr) (hp : ι → AHeap) (I : ι → Prop) (μ : ι → Nat) (i0 : ι) (h0 : knows fr (kn i0) ∧ H = hp i0 ∧ I i0)
    (round : ∀ i, I i → Ax P fn c (.code x (.inv (fun fr' H' => ∃ j, I j ∧ μ j < μ i ∧ knows fr' (kn j) ∧ H' = hp j) :: k)) (kn i) (hp i)) :
    Ax P fn c (.code (.loop x) k) fr H := by
  intro w a σ S hr
  refine wp_loop_ghost (c := x) (fun j a w => I j ∧ ∃ σ S, Rep c w a σ S fn.ntmps (kn j) (hp j)) μ i0 ⟨h0.2.2, σ, S, ?_⟩ ?_
  · have := hr.weaken h0.1
    rw [h0.2.1] at this
    exact this
  · rintro i a w ⟨hi, σ, S, hr⟩
    refine wp_mono (round i hi w a σ S hr) ?_
    rintro e a' w' ⟨σ', S', fr', H', hr', hp'⟩
    cases e with
    | normal =>
      obtain ⟨j, hj, hm, hk, rfl⟩ := hp'
      exact ⟨j, ⟨hj, σ', S', hr'.weaken hk⟩, hm⟩
    | exit id => exact ⟨σ', S', fr', H', hr', hp'⟩
    | goto l => exact ⟨σ', S', fr', H', hr', hp'⟩
    | ret => exact ⟨σ', S', fr', H', hr', hp'⟩
    | panic ch => exact ⟨σ', S', fr', H', hr', hp'⟩
    | outgrown => exact ⟨σ', S', fr', H', hr', hp'⟩
end
end Go.Ax
