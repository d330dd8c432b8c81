/-
  Rules for operations that only read.
-/
import Derived.Test.YtmfhdfofmdggaaaAxCore
set_option linter.unusedVariables false
set_option linter.unusedSimpArgs false
namespace Go.Ax
open Go.RowKit

section
variable {ind : Bool} {P : Program} {fn : Func} {c : Ctx} {fr : Fr} {H : AHeap}

theorem Rep.evInt {w : World} {a : Act} {σ : Nat → Option Blk} {S : Nat → Prop} {n : Nat} (h : Rep c w a σ S n fr H) {o : Operand} {k : IntKind} {x : Int} (hv : ev fr o = some (.int k x)) : a.eval o = .int k x := by
  have := h.evAt hv
  generalize a.eval o = z at this
  cases this; rfl
theorem Rep.evBool {w : World} {a : Act} {σ : Nat → Option Blk} {S : Nat → Prop} {n : Nat} (h : Rep c w a σ S n fr H) {o : Operand} {x : Bool} (hv : ev fr o = some (.bool x)) : a.eval o = .bool x := by
  have := h.evAt hv
  generalize a.eval o = z at this
  cases this; rfl
theorem Rep.evStr {w : World} {a : Act} {σ : Nat → Option Blk} {S : Nat → Prop} {n : Nat} (h : Rep c w a σ S n fr H) {o : Operand} {x : List UInt8} (hv : ev fr o = some (.str x)) : a.eval o = strV x := by
  have := h.evAt hv
  generalize a.eval o = z at this
  cases this; rfl

variable {d : Option Nat} {ty : TypeId} {pos : String} {after : Array Edge} {g : Option (Nat × Bool)}

theorem size_mk (s : List UInt8) : (⟨s.toArray⟩ : ByteArray).size = s.length := by show s.toArray.size = _; simp

theorem q_move {x : Operand} {v : AV} (hx : ev fr x = some v) : QOp ind P fn c fr H ⟨d, .move x, ty, pos, after, g⟩ v :=
  fun _ a _ _ hr => ⟨a.eval x, hr.evAt hx, fun _ _ => rfl⟩
theorem q_assign {x : Operand} {v : AV} (hx : ev fr x = some v) : QOp ind P fn c fr H ⟨d, .assign x, ty, pos, after, g⟩ v :=
  fun _ a _ _ hr => ⟨a.eval x, hr.evAt hx, fun _ _ => rfl⟩
theorem q_pick {x y z : Operand} {b : Bool} {v : AV} (hx : ev fr x = some (.bool b)) (hv : (bif b then ev fr y else ev fr z) = some v) : QOp ind P fn c fr H ⟨d, .pick x y z, ty, pos, after, g⟩ v := by
  intro w a σ S hr
  have h1 := hr.evBool hx
  cases b with
  | true => exact ⟨a.eval y, hr.evAt hv, fun w' _ => by simp [execOp, h1, asBool]⟩
  | false => exact ⟨a.eval z, hr.evAt hv, fun w' _ => by simp [execOp, h1, asBool]⟩

theorem run_eqGuard_int {op : BinOp} {t : TypeId} {x y : Operand} {k k' : IntKind} {m n : Int} {w : World} : (eqGuard op t x y (.int k m) (.int k' n)).run P w = .ok () w := by
  unfold eqGuard
  split <;> rfl

/-- Arithmetic on ints (64 bits, signed), where it fits. -/
theorem q_add {x y : Operand} {t t' : TypeId} {m n : Int} (hx : ev fr x = some (.int .i64 m)) (hy : ev fr y = some (.int .i64 n)) (hb : -9223372036854775808 ≤ m + n ∧ m + n ≤ 9223372036854775807) :
    QOp ind P fn c fr H ⟨d, .binOp .add t x y t', ty, pos, after, g⟩ (.int .i64 (m + n)) := by
  intro w a σ S hr
  have h1 := hr.evInt hx
  have h2 := hr.evInt hy
  refine ⟨_, .int _ _ _, fun w' _ => ?_⟩
  have h3 : IntKind.i64.wrap (m + n) = m + n := IntWalk.i64_in _ hb
  simp [execOp, h1, h2, run_eqGuard_int, binOp, Op.intArith, h3]
theorem q_sub {x y : Operand} {t t' : TypeId} {m n : Int} (hx : ev fr x = some (.int .i64 m)) (hy : ev fr y = some (.int .i64 n)) (hb : -9223372036854775808 ≤ m - n ∧ m - n ≤ 9223372036854775807) :
    QOp ind P fn c fr H ⟨d, .binOp .sub t x y t', ty, pos, after, g⟩ (.int .i64 (m - n)) := by
  intro w a σ S hr
  have h1 := hr.evInt hx
  have h2 := hr.evInt hy
  refine ⟨_, .int _ _ _, fun w' _ => ?_⟩
  have h3 : IntKind.i64.wrap (m - n) = m - n := IntWalk.i64_in _ hb
  simp [execOp, h1, h2, run_eqGuard_int, binOp, Op.intArith, h3]
theorem q_mul {x y : Operand} {t t' : TypeId} {m n : Int} (hx : ev fr x = some (.int .i64 m)) (hy : ev fr y = some (.int .i64 n)) (hb : -9223372036854775808 ≤ m * n ∧ m * n ≤ 9223372036854775807) :
    QOp ind P fn c fr H ⟨d, .binOp .mul t x y t', ty, pos, after, g⟩ (.int .i64 (m * n)) := by
  intro w a σ S hr
  have h1 := hr.evInt hx
  have h2 := hr.evInt hy
  refine ⟨_, .int _ _ _, fun w' _ => ?_⟩
  have h3 : IntKind.i64.wrap (m * n) = m * n := IntWalk.i64_in _ hb
  simp [execOp, h1, h2, run_eqGuard_int, binOp, Op.intArith, h3]
/-- Arithmetic that may wrap. -/
theorem q_arith {op : BinOp} {x y : Operand} {t t' : TypeId} {k : IntKind} {m n : Int} (hx : ev fr x = some (.int k m)) (hy : ev fr y = some (.int k n)) {r : Int}
    (ho : (match op with | .add => some (k.wrap (m + n)) | .sub => some (k.wrap (m - n)) | .mul => some (k.wrap (m * n)) | _ => none) = some r) :
    QOp ind P fn c fr H ⟨d, .binOp op t x y t', ty, pos, after, g⟩ (.int k r) := by
  intro w a σ S hr
  have h1 := hr.evInt hx
  have h2 := hr.evInt hy
  refine ⟨_, .int _ _ _, fun w' _ => ?_⟩
  cases op <;> simp at ho <;> subst ho <;> simp [execOp, h1, h2, run_eqGuard_int, binOp, Op.intArith]
theorem q_quo {x y : Operand} {t t' : TypeId} {m n : Int} (hx : ev fr x = some (.int .i64 m)) (hy : ev fr y = some (.int .i64 n)) (hb : 0 ≤ m ∧ m ≤ 9223372036854775807 ∧ 0 < n) :
    QOp ind P fn c fr H ⟨d, .binOp .quo t x y t', ty, pos, after, g⟩ (.int .i64 (m / n)) := by
  intro w a σ S hr
  have h1 := hr.evInt hx
  have h2 := hr.evInt hy
  refine ⟨_, .int _ _ _, fun w' _ => ?_⟩
  have hn : ¬ n = 0 := by omega
  have h4 : m.tdiv n = m / n := Int.tdiv_eq_ediv_of_nonneg hb.1
  have h5 : 0 ≤ m / n := Int.ediv_nonneg hb.1 (by omega)
  have h6 : m / n ≤ m := Int.ediv_le_self _ hb.1
  have h3 : IntKind.i64.wrap (m / n) = m / n := IntWalk.i64_in _ ⟨by omega, by omega⟩
  simp [execOp, h1, h2, run_eqGuard_int, binOp, Op.intDiv, hn, h4, h3]
theorem q_rem {x y : Operand} {t t' : TypeId} {k : IntKind} {m n : Int} (hx : ev fr x = some (.int k m)) (hy : ev fr y = some (.int k n)) (hb : 0 ≤ m ∧ ¬ n = 0) :
    QOp ind P fn c fr H ⟨d, .binOp .rem t x y t', ty, pos, after, g⟩ (.int k (m % n)) := by
  intro w a σ S hr
  have h1 := hr.evInt hx
  have h2 := hr.evInt hy
  refine ⟨_, .int _ _ _, fun w' _ => ?_⟩
  have h4 : m.tmod n = m % n := Int.tmod_eq_emod_of_nonneg hb.1
  simp [execOp, h1, h2, run_eqGuard_int, binOp, Op.intDiv, hb.2, h4]
theorem q_remt {x y : Operand} {t t' : TypeId} {k : IntKind} {m n : Int} (hx : ev fr x = some (.int k m)) (hy : ev fr y = some (.int k n)) (hb : ¬ n = 0) :
    QOp ind P fn c fr H ⟨d, .binOp .rem t x y t', ty, pos, after, g⟩ (.int k (m.tmod n)) := by
  intro w a σ S hr
  have h1 := hr.evInt hx
  have h2 := hr.evInt hy
  refine ⟨_, .int _ _ _, fun w' _ => ?_⟩
  simp [execOp, h1, h2, run_eqGuard_int, binOp, Op.intDiv, hb]
theorem q_quok {x y : Operand} {t t' : TypeId} {k : IntKind} {m n : Int} (hx : ev fr x = some (.int k m)) (hy : ev fr y = some (.int k n)) (hb : ¬ n = 0) :
    QOp ind P fn c fr H ⟨d, .binOp .quo t x y t', ty, pos, after, g⟩ (.int k (k.wrap (m.tdiv n))) := by
  intro w a σ S hr
  have h1 := hr.evInt hx
  have h2 := hr.evInt hy
  refine ⟨_, .int _ _ _, fun w' _ => ?_⟩
  simp [execOp, h1, h2, run_eqGuard_int, binOp, Op.intDiv, hb]

/-- What a comparison asks. -/
def cmpP : BinOp → Int → Int → Option Prop
  | .eql, m, n => some (m = n)
  | .neq, m, n => some (¬ m = n)
  | .lss, m, n => some (m < n)
  | .leq, m, n => some (m ≤ n)
  | .gtr, m, n => some (n < m)
  | .geq, m, n => some (n ≤ m)
  | _, _, _ => none
instance (m n : Int) : Decidable (¬ m = n) := inferInstance

section
variable {x y : Operand} {t t' : TypeId} {k : IntKind} {m n : Int} (hx : ev fr x = some (.int k m)) (hy : ev fr y = some (.int k n))
include hx hy
theorem q_eql : QOp ind P fn c fr H ⟨d, .binOp .eql t x y t', ty, pos, after, g⟩ (.bool (decide (m = n))) := by
  intro w a σ S hr
  refine ⟨_, .bool _ _, fun w' _ => ?_⟩
  simp [execOp, hr.evInt hx, hr.evInt hy, run_eqGuard_int, binOp, Op.intCmp]
  rfl
theorem q_neq : QOp ind P fn c fr H ⟨d, .binOp .neq t x y t', ty, pos, after, g⟩ (.bool (decide (¬ m = n))) := by
  intro w a σ S hr
  refine ⟨_, .bool _ _, fun w' _ => ?_⟩
  simp [execOp, hr.evInt hx, hr.evInt hy, run_eqGuard_int, binOp, Op.intCmp]
  by_cases h : m = n <;> simp [h]
theorem q_lss : QOp ind P fn c fr H ⟨d, .binOp .lss t x y t', ty, pos, after, g⟩ (.bool (decide (m < n))) := by
  intro w a σ S hr
  refine ⟨_, .bool _ _, fun w' _ => ?_⟩
  simp [execOp, hr.evInt hx, hr.evInt hy, run_eqGuard_int, binOp, Op.intCmp]
theorem q_leq : QOp ind P fn c fr H ⟨d, .binOp .leq t x y t', ty, pos, after, g⟩ (.bool (decide (m ≤ n))) := by
  intro w a σ S hr
  refine ⟨_, .bool _ _, fun w' _ => ?_⟩
  simp [execOp, hr.evInt hx, hr.evInt hy, run_eqGuard_int, binOp, Op.intCmp]
theorem q_gtr : QOp ind P fn c fr H ⟨d, .binOp .gtr t x y t', ty, pos, after, g⟩ (.bool (decide (n < m))) := by
  intro w a σ S hr
  refine ⟨_, .bool _ _, fun w' _ => ?_⟩
  simp [execOp, hr.evInt hx, hr.evInt hy, run_eqGuard_int, binOp, Op.intCmp]
theorem q_geq : QOp ind P fn c fr H ⟨d, .binOp .geq t x y t', ty, pos, after, g⟩ (.bool (decide (n ≤ m))) := by
  intro w a σ S hr
  refine ⟨_, .bool _ _, fun w' _ => ?_⟩
  simp [execOp, hr.evInt hx, hr.evInt hy, run_eqGuard_int, binOp, Op.intCmp]
end

theorem q_not {x : Operand} {t : TypeId} {b : Bool} (hx : ev fr x = some (.bool b)) : QOp ind P fn c fr H ⟨d, .unOp .not t x, ty, pos, after, g⟩ (.bool (!b)) := by
  intro w a σ S hr
  refine ⟨_, .bool _ _, fun w' _ => ?_⟩
  simp [execOp, hr.evBool hx, Op.unary]
theorem q_neg {x : Operand} {t : TypeId} {m : Int} (hx : ev fr x = some (.int .i64 m)) (hb : -9223372036854775807 ≤ m ∧ m ≤ 9223372036854775807) : QOp ind P fn c fr H ⟨d, .unOp .neg t x, ty, pos, after, g⟩ (.int .i64 (-m)) := by
  intro w a σ S hr
  refine ⟨_, .int _ _ _, fun w' _ => ?_⟩
  have h3 : IntKind.i64.wrap (0 - m) = -m := by rw [IntWalk.i64_in _ ⟨by omega, by omega⟩]; omega
  simp [execOp, hr.evInt hx, Op.unary, Op.intArith]
  simpa using h3

/-- A conversion between integer types. -/
theorem q_conv {x : Operand} {src dst : TypeId} {k k' : IntKind} {u : TypeDesc} {m : Int} (hs : P.underlying src = some u) (hd : P.underlying dst = some (.int k')) (hx : ev fr x = some (.int k m)) :
    QOp ind P fn c fr H ⟨d, .convert src dst x, ty, pos, after, g⟩ (.int k' (k'.wrap m)) := by
  intro w a σ S hr
  refine ⟨_, .int _ _ _, fun w' _ => ?_⟩
  cases u <;> simp [execOp, hr.evInt hx, convert, run_underlying hs, run_underlying hd, Conv.intToInt]
theorem q_conv64 {x : Operand} {src dst : TypeId} {k : IntKind} {u : TypeDesc} {m : Int} (hs : P.underlying src = some u) (hd : P.underlying dst = some (.int .i64)) (hx : ev fr x = some (.int k m)) (hb : -9223372036854775808 ≤ m ∧ m ≤ 9223372036854775807) :
    QOp ind P fn c fr H ⟨d, .convert src dst x, ty, pos, after, g⟩ (.int .i64 m) := by
  have h3 : IntKind.i64.wrap m = m := IntWalk.i64_in _ hb
  have := q_conv (ind := ind) (P := P) (fn := fn) (c := c) (fr := fr) (H := H) (d := d) (ty := ty) (pos := pos) (after := after) (g := g) (x := x) (src := src) (dst := dst) hs hd hx
  rwa [h3] at this

theorem q_extract {x : Operand} {i : Nat} {l : List AV} {v : AV} (hx : ev fr x = some (.tup l)) (hv : l[i]? = some v) : QOp ind P fn c fr H ⟨d, .extract x i, ty, pos, after, g⟩ v := by
  intro w a σ S hr
  have h1 := hr.evAt hx
  generalize hz : a.eval x = z at h1
  cases h1 with
  | tup _ _ vs hl hv' =>
    have hi : i < l.length := (List.getElem?_eq_some_iff.1 hv).1
    have h2 := hv' i hi
    have h3 : l.getD i .any = v := by simp [List.getD, hv]
    rw [h3] at h2
    have h4 : vs[i]? = some (vs.getD i undef) := by simp [Array.getD, hl, hi]
    generalize vs.getD i undef = y at h2 h4
    refine ⟨y, h2, fun w' _ => ?_⟩
    simp [execOp, hz, Instr.extract, h4]

/-- len -/
theorem q_len {x : Operand} {t : TypeId} {e : TypeId} {v : AV} {n : Nat} (ht : P.underlying t = some (.slice e)) (hx : ev fr x = some v) (hn : (match v with | .ro _ _ n => some n | .sl _ _ n => some n | .nil => some 0 | _ => none) = some n) :
    QOp ind P fn c fr H ⟨d, .call { callee := .builtin .len, args := #[x], argTypes := #[t] }, ty, pos, after, g⟩ (.int .i64 n) := by
  intro w a σ S hr
  have h1 := hr.evAt hx
  generalize hz : a.eval x = z at h1
  refine ⟨_, .int _ _ _, fun w' _ => ?_⟩
  cases h1 <;> simp at hn <;> subst hn <;> simp [execOp, resolve, hz, invoke, builtin, Builtin.len_, run_underlying ht, goInt]
theorem q_lenstr {x : Operand} {t : TypeId} {s : List UInt8} (ht : P.underlying t = some .string) (hx : ev fr x = some (.str s)) :
    QOp ind P fn c fr H ⟨d, .call { callee := .builtin .len, args := #[x], argTypes := #[t] }, ty, pos, after, g⟩ (.int .i64 s.length) := by
  intro w a σ S hr
  have h1 := hr.evStr hx
  refine ⟨_, .int _ _ _, fun w' _ => ?_⟩
  have h2 : (⟨s.toArray⟩ : ByteArray).size = s.length := size_mk s
  simp [execOp, resolve, h1, strV, invoke, builtin, Builtin.len_, run_underlying ht, goInt, h2]

/-- The address of an element. -/
theorem q_index_ro {x i : Operand} {t e : TypeId} {cl : Cells} {o len : Nat} {k : IntKind} {m : Int} (ht : P.underlying t = some (.slice e)) (hs : (P.info? e).map (·.size) = some cl.sz) (hx : ev fr x = some (.ro cl o len)) (hi : ev fr i = some (.int k m)) (hb : 0 ≤ m ∧ m < len) :
    QOp ind P fn c fr H ⟨d, .indexAddr t x i, ty, pos, after, g⟩ (.rp cl (o + m.toNat) 0) := by
  intro w a σ S hr
  have h1 := hr.evAt hx
  have h2 := hr.evInt hi
  generalize hz : a.eval x = z at h1
  cases h1 with
  | ro0 => omega
  | ro _ _ _ _ b of cap val hS hlen hc hv h1' =>
    have hmn : m.toNat < len := by omega
    refine ⟨.pointer (some ⟨b, of + m.toNat * cl.sz, none⟩), .rp _ _ _ _ _ _ (fun e => val m.toNat e) hS (fun e he => ?_) (fun e he => ?_) (fun e he => h1' m.toNat e hmn (by simpa using he)), fun w' _ => ?_⟩
    · simp only [Nat.zero_add] at he
      exact hc m.toNat e hmn he
    · simp only [Nat.zero_add] at he ⊢
      exact hv m.toNat e hmn he
    · cases hq : P.info? e with
      | none => simp [hq] at hs
      | some inf =>
        have hsz : inf.size = cl.sz := by simpa [hq] using hs
        simp [execOp, hz, h2, Instr.indexAt, asIntOf, run_underlying ht, hb, sizeOf, typeInfo, hq, hsz, Addr.add_lit]
theorem q_index_sl {x i : Operand} {t e : TypeId} {h o len : Nat} {ob : AObj} {k : IntKind} {m : Int} (ht : P.underlying t = some (.slice e)) (hx : ev fr x = some (.sl h o len)) (hh : H[h]? = some (some ob)) (hs : (P.info? e).map (·.size) = some ob.c.sz) (hi : ev fr i = some (.int k m)) (hb : 0 ≤ m ∧ m < len) :
    QOp ind P fn c fr H ⟨d, .indexAddr t x i, ty, pos, after, g⟩ (.ptr h (o + m.toNat) 0) := by
  intro w a σ S hr
  have h1 := hr.evAt hx
  have h2 := hr.evInt hi
  generalize hz : a.eval x = z at h1
  cases h1 with
  | sl0 => omega
  | sl _ _ _ _ b s C cap hσ hlen hcap =>
    rcases hr.hr.live h ob hh with ⟨hn, _⟩ | ⟨b', C', cur, hσ', h3⟩
    · rw [hσ] at hn; cases hn
    · rw [hσ] at hσ'
      simp only [Option.some.injEq, Blk.at.injEq] at hσ'
      obtain ⟨rfl, rfl, rfl⟩ := hσ'
      refine ⟨_, .ptr _ h (o + m.toNat) 0 b ob.c.sz C hσ, fun w' _ => ?_⟩
      cases hq : P.info? e with
      | none => simp [hq] at hs
      | some inf =>
        have hsz : inf.size = ob.c.sz := by simpa [hq] using hs
        simp [execOp, hz, h2, Instr.indexAt, asIntOf, run_underlying ht, hb, sizeOf, typeInfo, hq, hsz, Addr.add_lit, Nat.add_mul]

def isAggD : TypeDesc → Bool
  | .struct _ => true
  | .array _ _ => true
  | _ => false

theorem run_isAgg {t : TypeId} {u : TypeDesc} {w : World} (ht : P.underlying t = some u) : (isAgg t).run P w = .ok (isAggD u) w := by
  unfold isAgg
  simp only [Sem.run_bind, run_underlying ht, Result.andThen_ok]
  cases u <;> rfl

/-- Reading one cell. -/
theorem q_load_rp {x : Operand} {t : TypeId} {u : TypeDesc} {cl : Cells} {i j : Nat} {v : AV} (ht : P.underlying t = some u) (hu : isAggD u = false) (hx : ev fr x = some (.rp cl i j)) (hj : Nat.blt j cl.sz = true) (hv : cl.at i j = v) :
    QOp false P fn c fr H ⟨d, .load t x, ty, pos, after, g⟩ v := by
  intro w a σ S hr
  have h1 := hr.evAt hx
  generalize hz : a.eval x = z at h1
  cases h1 with
  | rp _ _ _ _ b o val hS hc hvv h1' =>
    have hj' : j + 0 < cl.sz := Nat.le_of_ble_eq_true hj
    have h2 := hvv 0 hj'
    have h3 := hc 0 hj'
    simp only [Nat.add_zero, hv] at h2 h3
    refine ⟨val 0, h2.mono (fun _ h => h) (fun _ _ => rfl) _ (fun _ _ h => by cases h), fun w' hw => ?_⟩
    have hw := hw.resolve_left (by decide)
    have h4 : w'.cell? ⟨b, o, none⟩ = some (val 0) := by rw [← h3]; exact World.cell?_of_block (by rw [hw])
    simp [execOp, hz, Instr.loadAt, Instr.sureAddr, loadVar, run_isAgg ht, hu, load, Sem.run, h4]
theorem q_load_ptr {x : Operand} {t : TypeId} {u : TypeDesc} {h i j : Nat} {ob : AObj} {v : AV} (ht : P.underlying t = some u) (hu : isAggD u = false) (hx : ev fr x = some (.ptr h i j)) (hh : H[h]? = some (some ob)) (hj : Nat.blt j ob.c.sz = true) (hv : ob.c.at i j = v) (hi : i < ob.c.len) :
    QOp false P fn c fr H ⟨d, .load t x, ty, pos, after, g⟩ v := by
  intro w a σ S hr
  have h1 := hr.evAt hx
  generalize hz : a.eval x = z at h1
  cases h1 with
  | ptr _ _ _ _ b s C hσ =>
    rcases hr.hr.live h ob hh with ⟨hn, _⟩ | ⟨b', C', cur, hσ', h3, h4, h5, h6, h7, h8⟩
    · rw [hσ] at hn; cases hn
    · rw [hσ] at hσ'
      simp only [Option.some.injEq, Blk.at.injEq] at hσ'
      obtain ⟨rfl, rfl, rfl⟩ := hσ'
      obtain ⟨y, hy1, hy2, hy3⟩ := h8 i j hi (Nat.le_of_ble_eq_true hj)
      rw [hv] at hy2
      refine ⟨y, hy2, fun w' hw => ?_⟩
      have hw := hw.resolve_left (by decide)
      have h9 : w'.cell? ⟨b, i * ob.c.sz + j, none⟩ = some y := by simp [World.cell?, hw, h3, hy1]
      simp [execOp, hz, Instr.loadAt, Instr.sureAddr, loadVar, run_isAgg ht, hu, load, Sem.run, h9]
end
end Go.Ax
