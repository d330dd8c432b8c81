/-
  Rules: functions of the library that the model gives itself.
-/
import Derived.Test.YtmfhdfofmdggaaaAxMore5
import Derived.Lib.Bytealg
import Derived.Laws.Externs
set_option linter.unusedVariables false
set_option linter.unusedSimpArgs false
namespace Go.Ax
open Go.RowKit

section
variable {ind : Bool} {P : Program} {fn : Func} {c : Ctx} {fr : Fr} {H : AHeap} {k : List It}
variable {d : Option Nat} {ty : TypeId} {pos : String} {after : Array Edge} {gu : Option (Nat × Bool)}

theorem q_extern {g : Operand} {args : List Operand} {ats : Array TypeId} {f : FuncId} {fx : Func} {e : Array Value → Sem Value} {as : List AV} {r : AV} (hg : ev fr g = some (.fn f [])) (ha : evs fr args = some as)
    (hf : P.funcs[f]? = some fx) (hname : (fx.name == "runtime.NumGoroutine") = false) (hb : fx.body.isNone = true) (hn : Extern.findNext fx = none) (he : Extern.find fx = some e)
    (hrun : ∀ w S σ vals, VRs w S σ as vals → ∃ x, VR w S σ r x ∧ ∀ w', (e vals).run P w' = .ok x w') :
    QOp ind P fn c fr H ⟨d, .call { callee := .value g, args := args.toArray, argTypes := ats }, ty, pos, after, gu⟩ r := by
  intro w a σ S hr
  have h1 := hr.evAt hg
  obtain ⟨e1, e2⟩ := evs_spec hr args as ha
  generalize hz : a.eval g = z at h1
  cases h1 with
  | fn _ _ _ vs hl hv =>
    have hvs : vs = #[] := by
      have : vs.size = 0 := by simpa using hl
      exact Array.eq_empty_of_size_eq_zero this
    subst hvs
    have hv0 : VRs w S σ as (args.map a.eval).toArray := by
      refine ⟨by simp [e1], fun i hi => ?_⟩
      have := e2 i hi
      have hlt : i < args.length := by omega
      have eb : (args.map a.eval).toArray.getD i undef = (args.map a.eval).getD i undef := by simp [List.getD, hlt]
      rw [eb]; exact this
    obtain ⟨x, hx2, hall⟩ := hrun w S σ _ hv0
    refine ⟨x, hx2, fun w' _ => ?_⟩
    have hc := run_callFunc_extern (P := P) hf hname hb hn he (args.map a.eval).toArray w'
    rw [hall w'] at hc
    simp only [execOp, resolve, hz, Deferred.ofValue, Sem.run_bind, Sem.run_pure, Result.andThen_ok, invoke, List.map_toArray, Array.empty_append, Array.append_empty] at hc ⊢
    exact hc

theorem VRs.strByte {w : World} {S : Nat → Prop} {σ : Nat → Option Blk} {s : List UInt8} {b : Int} {vals : Array Value} (h : VRs w S σ [.str s, .int .u8 b] vals) : vals = #[strV s, .int .u8 b] := by
  obtain ⟨h1, h2⟩ := h
  have a := h2 0 (by simp)
  have b' := h2 1 (by simp)
  apply Array.ext
  · simpa using h1
  · intro i hi1 hi2
    have hlt : i < 2 := by simpa using hi2
    match i, hlt with
    | 0, _ =>
      simp only [List.getD_cons_zero, Array.getD, hi1, dite_true] at a
      generalize hv : vals[0] = v at *
      have hv' : vals.getInternal 0 hi1 = v := hv
      rw [hv'] at a
      cases a; rfl
    | 1, _ =>
      simp only [List.getD_cons_succ, List.getD_cons_zero, Array.getD, hi1, dite_true] at b'
      generalize hv : vals[1] = v at *
      have hv' : vals.getInternal 1 hi1 = v := hv
      rw [hv'] at b'
      cases b'; rfl
/-- internal/bytealg.IndexByteString -/
theorem q_indexByte {g x y : Operand} {ats : Array TypeId} {f : FuncId} {fx : Func} {s : List UInt8} {b : Int} (hg : ev fr g = some (.fn f [])) (hx : ev fr x = some (.str s)) (hy : ev fr y = some (.int .u8 b))
    (hf : P.funcs[f]? = some fx) (hname : (fx.name == "runtime.NumGoroutine") = false) (hb : fx.body.isNone = true) (hn : Extern.findNext fx = none) (he : Extern.find fx = some Extern.BytealgIndexByte.indexByte) :
    QOp ind P fn c fr H ⟨d, .call { callee := .value g, args := #[x, y], argTypes := ats }, ty, pos, after, gu⟩ (.int .i64 (Lib.indexByte s b.toNat.toUInt8)) :=
  q_extern (args := [x, y]) (as := [.str s, .int .u8 b]) hg (by simp [evs, hx, hy]) hf hname hb hn he (fun w S σ vals hv => ⟨_, .int _ _ _, fun w' => by rw [hv.strByte]; exact Lib.run_indexByteString _ _ _⟩)
/-- internal/bytealg.CountString -/
theorem q_countByte {g x y : Operand} {ats : Array TypeId} {f : FuncId} {fx : Func} {s : List UInt8} {b : Int} (hg : ev fr g = some (.fn f [])) (hx : ev fr x = some (.str s)) (hy : ev fr y = some (.int .u8 b))
    (hf : P.funcs[f]? = some fx) (hname : (fx.name == "runtime.NumGoroutine") = false) (hb : fx.body.isNone = true) (hn : Extern.findNext fx = none) (he : Extern.find fx = some Extern.BytealgCount.count) :
    QOp ind P fn c fr H ⟨d, .call { callee := .value g, args := #[x, y], argTypes := ats }, ty, pos, after, gu⟩ (.int .i64 (s.count b.toNat.toUInt8 : Nat)) :=
  q_extern (args := [x, y]) (as := [.str s, .int .u8 b]) hg (by simp [evs, hx, hy]) hf hname hb hn he (fun w S σ vals hv => ⟨_, .int _ _ _, fun w' => by rw [hv.strByte]; exact Lib.run_countString _ _ _⟩)
end

theorem rowsI_app (ls : List (List Int)) (s : List Int) (cx : Cells) (h0 : cx.at 0 0 = .ro (.ints .i64 s) 0 s.length) (i j : Nat) (hi : i < ls.length + 1) (hj : j < 1) :
    (bif Nat.blt i ls.length then (rowsI ls).at i j else cx.at (0 + (i - ls.length)) j) = (rowsI (ls ++ [s])).at i j := by
  obtain rfl : j = 0 := by omega
  by_cases h : i < ls.length
  · have hb : Nat.blt i ls.length = true := Nat.ble_eq_true_of_le h
    simp only [hb, cond_true, rowsI, Cells.at, List.getD]
    rw [List.getElem?_append_left h]
  · have hb : Nat.blt i ls.length = false := by
      cases hq : Nat.blt i ls.length with
      | false => rfl
      | true => exact absurd (Nat.le_of_ble_eq_true hq) h
    have hi' : i = ls.length := by omega
    subst hi'
    have e : (rowsI (ls ++ [s])).at ls.length 0 = .ro (.ints .i64 s) 0 s.length := by
      simp only [rowsI, Cells.at, List.getD]
      rw [List.getElem?_append_right (Nat.le_refl _)]
      simp
    rw [hb, e, Nat.sub_self, Nat.add_zero, h0]; rfl
/-- The row, one longer. -/
theorem rowsI_snoc (ls : List (List Int)) (s : List Int) (cx : Cells) (h0 : cx.at 0 0 = .ro (.ints .i64 s) 0 s.length) :
    CEq (.fn (ls.length + 1) 1 (fun i j => bif Nat.blt i ls.length then (rowsI ls).at i j else cx.at (0 + (i - ls.length)) j)) (rowsI (ls ++ [s])) := by
  refine ⟨by simp [rowsI, Cells.len], rfl, fun i j hi hj => ?_⟩
  exact (rowsI_app ls s cx h0 i j hi hj).symm
theorem rowsI_noref (ls : List (List Int)) (s : List Int) (cx : Cells) (h0 : cx.at 0 0 = .ro (.ints .i64 s) 0 s.length) (h i j : Nat) (hi : i < ls.length + 1) (hj : j < 1) :
    (bif Nat.blt i ls.length then (rowsI ls).at i j else cx.at (0 + (i - ls.length)) j).forget h = (bif Nat.blt i ls.length then (rowsI ls).at i j else cx.at (0 + (i - ls.length)) j) := by
  rw [rowsI_app ls s cx h0 i j hi hj]; rfl
theorem AEq.tup2 {x x' y : AV} (h : AEq x x') : AEq (.tup [x, y]) (.tup [x', y]) := by
  intro w S σ v hv
  cases hv with
  | tup _ _ vs hl hv =>
    refine .tup _ _ _ hl (fun i hi => ?_)
    have := hv i hi
    match i, hi with
    | 0, _ => exact h _ _ _ _ this
    | 1, _ => exact this
theorem ACall.res {P : Program} {f : FuncId} {args : List AV} {H : AHeap} {fix : Nat → Prop} {K K' : AV → AHeap → Prop} (hc : ACall P f args H fix K) (hK : ∀ r H', K r H' → ∃ r', AEq r r' ∧ K' r' H') : ACall P f args H fix K' := by
  refine ⟨hc.1, fun w σ S vals h1 h2 h3 => Calls.mono (hc.2 w σ S vals h1 h2 h3) fun e w' he => ?_⟩
  obtain ⟨v, r, σ', S', H', g1, g2, g3, g4, g5⟩ := he
  obtain ⟨r', hr1, hr2⟩ := hK _ _ g5
  exact ⟨v, r', σ', S', H', g1, g2, hr1 _ _ _ _ g3, ⟨g4.os, g4.output, g4.tape, g4.size, g4.block, g4.S1, g4.S2, g4.fixed, g4.fixlt, g4.own⟩, hr2⟩
def AEqs : List AV → List AV → Prop
  | [], [] => True
  | x :: r, y :: q => AEq x y ∧ AEqs r q
  | _, _ => False
theorem AEqs.length : ∀ {a b : List AV}, AEqs a b → a.length = b.length
  | [], [], _ => rfl
  | _ :: r, _ :: q, h => by simp [AEqs.length h.2]
  | [], _ :: _, h => h.elim
  | _ :: _, [], h => h.elim
theorem AEqs.get : ∀ {a b : List AV}, AEqs a b → ∀ i, i < a.length → AEq (a.getD i .any) (b.getD i .any)
  | [], [], _, i, hi => by simp at hi
  | x :: r, y :: q, h, 0, _ => h.1
  | x :: r, y :: q, h, i + 1, hi => by simpa using AEqs.get h.2 i (by simpa using hi)
  | [], _ :: _, h, _, _ => h.elim
  | _ :: _, [], h, _, _ => h.elim
/-- A contract, at arguments told otherwise. -/
theorem VCall.args {P : Program} {f : FuncId} {as as' : List AV} {r : AV} (hc : VCall P f as' r) (h : AEqs as as') : VCall P f as r := by
  intro H
  have h1 := hc H
  unfold ACall at h1 ⊢
  refine ⟨h1.1, fun w σ S vals hr hf hv => h1.2 w σ S vals hr hf ⟨hv.1.trans h.length, fun j hj => ?_⟩⟩
  rw [← h.length] at hj
  exact h.get j hj _ _ _ _ (hv.2 j hj)
theorem VCall.res {P : Program} {f : FuncId} {args : List AV} {r r' : AV} (hc : VCall P f args r) (h : AEq r r') : VCall P f args r' :=
  fun H => (hc H).res fun _ _ ⟨h1, h2⟩ => ⟨r', h1 ▸ h, rfl, h2⟩
end Go.Ax
