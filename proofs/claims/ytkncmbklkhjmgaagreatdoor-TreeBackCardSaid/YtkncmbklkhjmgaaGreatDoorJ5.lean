import Derived.Test.YtkncmbklkhjmgaaGreatDoorJ4
set_option linter.unusedVariables false
set_option linter.unusedSimpArgs false
set_option maxRecDepth 100000
set_option maxHeartbeats 4000000
namespace Go.Proofs.YtkncmbklkhjmgaaGreatDoor
open Go.Ax Go.Ax.Bg Go.Ax.Rt Go.RowKit
attribute [local irreducible] Ax zAO QOp zK zAN
theorem zLi : ∀ (qs : List Rat) (acc : Rat), Sz 2000 acc → (∀ q ∈ qs, Sz 2000 q) → Sz 4001 (zHM acc qs).1
 | [], acc, h, _ => h.mono (by decide)
 | q :: r, acc, h, hs => by
  rw [zHM]
  split
  ·rename_i hb
   exact zLi r _ (zLA hb) (fun x hx => hs x (by simp [hx]))
  ·exact sz_add h (hs q (by simp))
theorem sumR_sz (l : List (List UInt8)) : Sz 4001 (zFk l).1 := by
 unfold zFk
 split
 ·exact sz_zero.mono (by decide)
 ·split
  ·rename_i hE
   refine zLi _ _ sz_zero (fun q hq => ?_)
   obtain ⟨s, h3, rfl⟩ := List.mem_map.1 hq
   exact sz_v (zDP hE s h3)
  ·exact sz_zero.mono (by decide)
theorem zJQ (l : List (List UInt8)) (hlen : l.length ≤ 9223372036854775807) (hs : ∀ s ∈ l, s.length ≤ 9223372036854775807) : zN Tryz.prog 209 [.ro (.strs l) 0 l.length] (.tup [qA (zFk l).1, .int .i64 (posE l)]) := by
 have h1 := sum_ok l hlen hs
 have h2 := zLs l 253 [] zCR rfl hlen (fun s hm => ratNeg1 s (hs s hm))
 unfold posE
 generalize (zFk l).1 = q at *
 generalize (zFk l).2 = e at *
 generalize l.any zCR = b at *
 by_cases he : e = 0
 ·subst he
  cases b
  ·rw [if_neg (fun h => Bool.false_ne_true h.2)]
   refine zK.value0 (zC (P := Tryz.prog) (fn := Tryz.f209) Y Y (by kernel_rfl) Y (fun c hR hfix => ?_)) (fix := fun _ => False) (fun _ h => h) Y Y
   refine rn4 ?_
   refine zA Y Y Y h1 ?_
   unfold qA
   refine rn4 ?_
   refine sa1 (c' := .box (zw q)) Y Y Y Y Y Y Y ?_
   refine rn4 ?_
   refine zA Y Y Y h2 ?_
   refine rn6 ?_
   refine sa1 (c' := .box (zw q)) Y Y Y Y Y Y Y ?_
   refine rn0 ?_
   exact zE hR Y Y
  ·rw [if_pos ⟨rfl, rfl⟩]
   refine zK.value0 (zC (P := Tryz.prog) (fn := Tryz.f209) Y Y (by kernel_rfl) Y (fun c hR hfix => ?_)) (fix := fun _ => False) (fun _ h => h) Y Y
   refine rn4 ?_
   refine zA Y Y Y h1 ?_
   unfold qA
   refine rn4 ?_
   refine sa1 (c' := .box (zw q)) Y Y Y Y Y Y Y ?_
   refine rn4 ?_
   refine zA Y Y Y h2 ?_
   refine rn6 ?_
   refine sa1 (c' := .box (zw q)) Y Y Y Y Y Y Y ?_
   refine rn0 ?_
   exact zE hR Y Y
 ·rw [if_neg (fun h => he h.1)]
  refine zK.value0 (zC (P := Tryz.prog) (fn := Tryz.f209) Y Y (by kernel_rfl) Y (fun c hR hfix => ?_)) (fix := fun _ => False) (fun _ h => h) Y Y
  refine rn4 ?_
  refine zA Y Y Y h1 ?_
  unfold qA
  refine rn4 ?_
  refine sa1 (c' := .box (zw q)) Y Y Y Y Y Y Y ?_
  refine rn4 ?_
  refine zW Y Y (fun h0 => absurd h0 he) (fun h0 => ?_)
  refine rn6 ?_
  refine sa1 (c' := .box (zw q)) Y Y Y Y Y Y Y ?_
  refine rn0 ?_
  exact zE hR Y Y
theorem odds_ok (l : List (List UInt8)) (hlen : l.length ≤ 9223372036854775807) (hs : ∀ s ∈ l, s.length ≤ 9223372036854775807) : zN Tryz.prog 150 [.ro (.strs l) 0 l.length] (.int .i64 (zGK l)) := by
 have h1 := zJQ l hlen hs
 have hz := sumR_sz l
 unfold zGK
 generalize (zFk l).1 = q at *
 generalize posE l = e at *
 have h2 := qcmp_ok q 1 (hz.mono (by decide)) (by refine ⟨?_, ?_⟩ <;> (show (zL 1).length ≤ 100000; rw [zEL]; decide))
 by_cases he : e = 0
 ·rw [if_pos he]
  subst he
  generalize cmpQ q 1 = t at *
  by_cases ht : t = 0
  ·rw [if_pos ht]
   subst ht
   refine zK.value0 (zC (P := Tryz.prog) (fn := Tryz.f150) Y Y (by kernel_rfl) Y (fun c hR hfix => ?_)) (fix := fun _ => False) (fun _ h => h) Y Y
   refine rn0 ?_
   refine zA Y Y Y h1 ?_
   unfold qA
   refine rn4 ?_
   refine sa1 (c' := .box (zw q)) Y Y Y Y Y Y Y ?_
   refine rn4 ?_
   refine zz (by kernel_rfl) ?_
   refine zAY (fuel := 0) [0, 1, 2, 3] [(3, .ptr 0 0 0)] ⟨Y, trivial⟩ (by kernel_rfl) (by decide) Y Y ?_
   refine zn Y Y (qpp Y Y Y Y Y Y Y) ?_
   refine zBs Y Y Y Y Y zKO ?_
   refine zBs Y Y Y Y Y h2 ?_
   refine zn Y Y (zFc Y Y) ?_
   refine zBR ?_
   refine zr (by kernel_rfl) ?_
   refine rn4 ?_
   exact zE hR Y Y
  ·rw [if_neg ht]
   refine zK.value0 (zC (P := Tryz.prog) (fn := Tryz.f150) Y Y (by kernel_rfl) Y (fun c hR hfix => ?_)) (fix := fun _ => False) (fun _ h => h) Y Y
   refine rn0 ?_
   refine zA Y Y Y h1 ?_
   unfold qA
   refine rn4 ?_
   refine sa1 (c' := .box (zw q)) Y Y Y Y Y Y Y ?_
   refine rn4 ?_
   refine zz (by kernel_rfl) ?_
   refine zAY (fuel := 0) [0, 1, 2, 3] [(3, .ptr 0 0 0)] ⟨Y, trivial⟩ (by kernel_rfl) (by decide) Y Y ?_
   refine zn Y Y (qpp Y Y Y Y Y Y Y) ?_
   refine zBs Y Y Y Y Y zKO ?_
   refine zBs Y Y Y Y Y h2 ?_
   refine zn Y Y (zFc Y Y) ?_
   refine zBR ?_
   refine zr (by kernel_rfl) ?_
   repeat (refine zO ?_)
   refine zB Y (fun h0 => ?_) (fun h0 => absurd ht h0)
   refine rn2 ?_
   exact zE hR Y Y
 ·rw [if_neg he]
  refine zK.value0 (zC (P := Tryz.prog) (fn := Tryz.f150) Y Y (by kernel_rfl) Y (fun c hR hfix => ?_)) (fix := fun _ => False) (fun _ h => h) Y Y
  refine rn0 ?_
  refine zA Y Y Y h1 ?_
  unfold qA
  refine rn4 ?_
  refine sa1 (c' := .box (zw q)) Y Y Y Y Y Y Y ?_
  refine rn3 ?_
  refine zB Y (fun h0 => ?_) (fun h0 => absurd he h0)
  refine rn2 ?_
  exact zE hR Y Y
end Go.Proofs.YtkncmbklkhjmgaaGreatDoor
namespace Go.Ax.Rt
open Go.Ax.Bg
theorem Parts.fit {s : List UInt8} {q : Rat} (h : Parts s q) : zCJ q = true := by
 unfold zCJ
 rw [Bool.and_eq_true, decide_eq_true_eq, decide_eq_true_eq, h.num, h.den, zC3, zCl h.cn]
 refine ⟨h.ln, ?_⟩
 cases e : zEq s
 ·rw [zEd e, Lib.decDigits_one (by decide)]; decide
 ·rw [zDS e, zCl (h.cd e).1]; exact h.ld
/-- A text that spells q. -/
def IsQ (s : List UInt8) (q : Rat) : Prop := zC7 s = 0 ∧ zAl s = q
instance (s : List UInt8) (q : Rat) : Decidable (IsQ s q) := inferInstanceAs (Decidable (_ ∧ _))
theorem IsQ.self {s : List UInt8} (h : zC7 s = 0) : IsQ s (zAl s) := ⟨h, rfl⟩
theorem IsQ.text {s : List UInt8} {q : Rat} (h : IsQ s q) : zAM q = s := by
 have := (zCe h.1).text
 rwa [h.2] at this
theorem IsQ.fit {s : List UInt8} {q : Rat} (h : IsQ s q) : zCJ q = true := by
 have := (zCe h.1).fit
 rwa [h.2] at this
/-- Numbers of at most so many digits. -/
def D (k : Nat) (q : Rat) : Prop := q.num.natAbs < 10 ^ k ∧ q.den < 10 ^ k
theorem D.mono {j k : Nat} {q : Rat} (h : D j q) (hk : j ≤ k) : D k q :=
 ⟨Nat.lt_of_lt_of_le h.1 (Nat.pow_le_pow_right (by decide) hk), Nat.lt_of_lt_of_le h.2 (Nat.pow_le_pow_right (by decide) hk)⟩
theorem zH1 {s : List UInt8} (h : zC7 s = 0) : zCR s = false ↔ 0 ≤ zAl s := by
 have hp := zCe h
 have h1 := zHG (zCR s) (zAG 0 (zCw s))
 rw [← hp.num] at h1
 rw [← Rat.num_nonneg]
 cases e : zCR s
 ·rw [e] at h1; simp at h1; simpa using h1
 ·have h2 : (zAl s).num < 0 := by
   have h3 := hp.ng e
   rw [e] at h1
   simpa [h3] using h1
  exact ⟨fun q => absurd q (by decide), fun q => absurd h2 (by omega)⟩
def sumN (f : Nat → Rat) : Nat → Rat
 | 0 => 0
 | n + 1 => sumN f n + f n
/-- The sum of the products. -/
def dotQ (a b : List Rat) : Rat := sumN (fun i => a.getD i 0 * b.getD i 0) a.length
def colQ (m : List (List Rat)) (k : Nat) : List Rat := m.map (fun row => row.getD k 0)
def colsQ (m : List (List Rat)) (w : Nat) : List (List Rat) := (List.range w).map (colQ m)
def mulQ (a b : List (List Rat)) (w : Nat) : List (List Rat) := a.map (fun row => (colsQ b w).map (dotQ row))
theorem map_getD {α β : Type} (f : α → β) (l : List α) (d : α) (e : β) (i : Nat) (hi : i < l.length) : (l.map f).getD i e = f (l.getD i d) := by simp [List.getD, hi]
abbrev zc := List UInt8
def vecE (v : List zc) : Int := if 40 < v.length then 2 else zD0 v
def rowsE (w : Nat) : List (List zc) → Int
 | [] => 0
 | r :: rs => if r.length = w then (if vecE r = 0 then rowsE w rs else vecE r) else 3
def zF9 (m : List (List zc)) : Nat := (m.getD 0 []).length
/-- matrix.Check -/
def matE (m : List (List zc)) : Int := if 40 < m.length then 2 else rowsE (zF9 m) m
def inM (m : List (List zc)) : List (List Rat) := m.map (fun r => r.map zAl)
def outM (q : List (List Rat)) : List (List zc) × Int := if q.all (fun r => r.all zCJ) then (q.map (fun r => r.map zAM), 0) else ([], 2)
def mulR (a b : List (List zc)) : List (List zc) × Int := if matE a ≠ 0 then ([], matE a) else if matE b ≠ 0 then ([], matE b) else if zF9 a = b.length then outM (mulQ (inM a) (inM b) (zF9 b)) else ([], 3)
/-- A valid matrix of so many rows and columns. -/
structure IsM (m : List (List zc)) (p q : Nat) : Prop where
 rows : m.length = p
 cols : ∀ r ∈ m, r.length = q
 sp : p ≤ 40
 sq : m ≠ [] → q ≤ 40
 ok : ∀ r ∈ m, ∀ s ∈ r, zC7 s = 0
/-- The product of short valid matrices. -/
structure Prod (a b : List (List zc)) (t : List (List zc)) (p q r K : Nat) : Prop where
 res : mulR a b = (t, 0)
 ok : IsM t p r
 val : inM t = mulQ (inM a) (inM b) r
 dig : ∀ x ∈ inM t, ∀ y ∈ x, D K y
end Go.Ax.Rt
namespace Go.Ax.Dt
abbrev V := Nat → Int
abbrev Mx := Nat → V
def skip (i : Nat) (D : Mx) : Mx := fun a c => D (if a < i then a else a + 1) (c + 1)
def put (D : Mx) (r : Nat) (v : V) : Mx := fun a => if a = r then v else D a
abbrev Tab := List (List Int)
def at2 (T : Tab) (i j : Nat) : Int := (T.getD i []).getD j 0
theorem getD_set {α : Type} (l : List α) (d x : α) (i j : Nat) : (l.set i x).getD j d = if j = i ∧ i < l.length then x else l.getD j d := by
 by_cases h : j = i
 ·subst h
  by_cases h2 : j < l.length
  ·simp [List.getD, h2]
  ·have : l.length ≤ j := by omega
   simp [List.getD, h2, this]
 ·have : ¬ i = j := fun e => h e.symm
  simp [List.getD, h, List.getElem?_set, this]
end Go.Ax.Dt
namespace Go.Ax.Rt
open Go.Ax.Bg Go.Ax.Dt
theorem zBp {α : Type} {l : List α} {j : Nat} (d : α) (h : j < l.length) : l.getD j d = l[j] := by simp [List.getD, h]
theorem zCQ {α : Type} {l : List α} {j : Nat} (d : α) (h : j < l.length) : l.getD j d ∈ l := by rw [zBp d h]; exact List.getElem_mem h
theorem dig_D {k : Nat} {q : Rat} (h1 : (Lib.decDigits q.num.natAbs).length ≤ k) (h2 : (Lib.decDigits q.den).length ≤ k) : D k q :=
 ⟨Nat.lt_of_lt_of_le (zDT _) (Nat.pow_le_pow_right (by decide) h1), Nat.lt_of_lt_of_le (zDT _) (Nat.pow_le_pow_right (by decide) h2)⟩
end Go.Ax.Rt
namespace Go.Ax.Rt
open Go.Ax.Bg
structure TNode where
 kind : Int
 player : Int
 info : Int
 next : List Int
 odds : List zc
 pay : zc
 deriving DecidableEq
def zQ : TNode := ⟨0, 0, 0, [], [], []⟩
abbrev zm := List TNode
def zCm (N i : Nat) (k : Int) : Bool := decide (k ≤ (i : Int)) || decide ((N : Int) ≤ k)
/-- the error of the children of a node -/
def zD8 (N i : Nat) (l : List Int) : Int := if l.length = 0 then 3 else if 6 < l.length then 2 else if l.any (zCm N i) = true then 3 else 0
def zBr (N i : Nat) (n : TNode) : Int :=
 if n.kind = 0 then (if n.player ≠ 0 ∨ n.info ≠ 0 ∨ n.next ≠ [] ∨ n.odds ≠ [] then 3 else zC7 n.pay)
 else if n.kind = 1 then (if n.player ≠ 0 ∨ n.info ≠ 0 ∨ n.pay ≠ [] then 3 else if zD8 N i n.next ≠ 0 then zD8 N i n.next else if n.odds.length ≠ n.next.length then 3 else zGK n.odds)
 else if n.kind = 2 then (if n.odds ≠ [] ∨ n.pay ≠ [] then 3 else if (n.player ≠ 0 ∧ n.player ≠ 1) ∨ n.info < 0 ∨ 10 ≤ n.info then 4 else zD8 N i n.next)
 else 1
def zCv (N : Nat) : Nat → zm → Int
 | _, [] => 0
 | i, n :: r => if zBr N i n = 0 then zCv N (i + 1) r else zBr N i n
/-- how often a node is named -/
def named (t : zm) (k : Nat) : Nat := ((t.flatMap TNode.next).filter (fun x => decide (x = (k : Int)))).length
def zFM (a b : TNode) : Bool := decide (a.kind = 2) && (decide (b.kind = 2) && (decide (a.player = b.player) && (decide (a.info = b.info) && decide (a.next.length ≠ b.next.length))))
def zA1 (t : zm) : Int :=
 if 120 < t.length then 2 else if t.length = 0 then 8 else if zCv t.length 0 t ≠ 0 then zCv t.length 0 t
 else if (List.range t.length).any (fun k => decide (k ≠ 0) && decide (named t k ≠ 1)) = true then 3
 else if t.any (fun a => t.any (zFM a)) = true then 3 else 0
def zFY (t : zm) (p : Int) : Int := if zA1 t ≠ 0 then zA1 t else if p ≠ 0 ∧ p ≠ 1 then 4 else 0
/-- Is it the player's move, in an information set? -/
def own (p : Int) (n : TNode) : Bool := decide (n.kind = 2) && decide (n.player = p)
def zDX (p i : Int) (n : TNode) : Bool := own p n && decide (n.info = i)
/-- the first node of an information set -/
def zK9 (t : zm) (p i : Int) : Nat := t.findIdx (zDX p i)
def zEi (t : zm) (p : Int) : List Int := ((List.range 10).map (fun i : Nat => (i : Int))).filter (fun i => t.any (zDX p i))
def zCd (t : zm) (p i : Int) : Nat := (t.getD (zK9 t p i) zQ).next.length
def zGa (t : zm) (p : Int) : List Int := (zEi t p).map (fun i => ((zCd t p i : Nat) : Int))
/-- What a valid game is. -/
structure Valid (t : zm) : Prop where
 le : t.length ≤ 120
 ne : t.length ≠ 0
 nodes : ∀ i, i < t.length → zBr t.length i (t.getD i zQ) = 0
 once : ∀ k, k < t.length → k ≠ 0 → named t k = 1
 same : ∀ a ∈ t, ∀ b ∈ t, zFM a b = false
theorem zH0 (N : Nat) : ∀ (t : zm) (i : Nat), zCv N i t = 0 → ∀ j, j < t.length → zBr N (i + j) (t.getD j zQ) = 0
 | [], i, _, j, hj => absurd hj (Nat.not_lt_zero _)
 | n :: r, i, h, j, hj => by
  rw [zCv] at h
  split at h
  ·rename_i h0
   cases j with
   | zero => exact h0
   | succ j =>
    have := zH0 N r (i + 1) h j (by simpa using hj)
    rw [show i + (j + 1) = i + 1 + j by omega]
    exact this
  ·rename_i h0; exact absurd h h0
theorem zFn {t : zm} (h : zA1 t = 0) : Valid t := by
 unfold zA1 at h
 split at h
 ·cases h
 split at h
 ·cases h
 split at h
 ·rename_i h3; exact absurd h h3
 split at h
 ·cases h
 split at h
 ·cases h
 rename_i h1 h2 h3 h4 h5
 refine ⟨by omega, h2, fun i hi => ?_, fun k hk h0 => ?_, fun a ha b hb => ?_⟩
 ·have := zH0 t.length t 0 (Classical.not_not.1 h3) i hi
  rwa [Nat.zero_add] at this
 ·rw [Bool.not_eq_true, List.any_eq_false] at h4
  have := h4 k (by simpa using hk)
  simp only [Bool.and_eq_true, decide_eq_true_eq, not_and] at this
  exact Classical.not_not.1 (this h0)
 ·rw [Bool.not_eq_true, List.any_eq_false] at h5
  have := h5 a ha
  rw [List.any_eq_true] at this
  cases hc : zFM a b
  ·rfl
  ·exact absurd ⟨b, hb, hc⟩ this
/-- The children stand behind their parent. -/
theorem zD9 {N i : Nat} {l : List Int} (h : zD8 N i l = 0) : 1 ≤ l.length ∧ l.length ≤ 6 ∧ ∀ k ∈ l, (i : Int) < k ∧ k < N := by
 unfold zD8 at h
 split at h
 ·cases h
 split at h
 ·cases h
 split at h
 ·cases h
 rename_i h1 h2 h3
 refine ⟨by omega, by omega, fun k hk => ?_⟩
 rw [Bool.not_eq_true, List.any_eq_false] at h3
 have := h3 k hk
 unfold zCm at this
 simp only [Bool.or_eq_true, decide_eq_true_eq, not_or] at this
 omega
theorem Valid.child {t : zm} (h : Valid t) {i : Nat} (hi : i < t.length) : ((t.getD i zQ).kind = 0 ∧ (t.getD i zQ).next = []) ∨ (((t.getD i zQ).kind = 1 ∨ (t.getD i zQ).kind = 2) ∧ zD8 t.length i (t.getD i zQ).next = 0) := by
 have hn := h.nodes i hi
 unfold zBr at hn
 split at hn
 ·rename_i h0
  split at hn
  ·cases hn
  ·rename_i h1
   simp only [not_or] at h1
   exact .inl ⟨h0, Classical.not_not.1 h1.2.2.1⟩
 ·split at hn
  ·rename_i h1
   split at hn
   ·cases hn
   split at hn
   ·rename_i h2; exact absurd hn h2
   rename_i h2 h3
   exact .inr ⟨.inl h1, Classical.not_not.1 h3⟩
  ·split at hn
   ·rename_i h2
    split at hn
    ·cases hn
    split at hn
    ·cases hn
    exact .inr ⟨.inr h2, hn⟩
   ·cases hn
theorem Valid.behind {t : zm} (h : Valid t) {i : Nat} (hi : i < t.length) : ∀ k ∈ (t.getD i zQ).next, (i : Int) < k ∧ k < t.length := by
 rcases h.child hi with ⟨_, h2⟩ | ⟨_, h2⟩
 ·rw [h2]; intro k hk; simp at hk
 ·exact (zD9 h2).2.2
/-- how often 0, 1, .. N-1 occur -/
def zCH (N : Nat) (l : List Int) : List Int := (List.range N).map (fun k : Nat => (((l.filter (fun x => decide (x = (k : Int)))).length : Nat) : Int))
theorem zCn (N : Nat) (l : List Int) : (zCH N l).length = N := by simp [zCH]
theorem zGm {N : Nat} {l : List Int} {k : Nat} (hk : k < N) : (zCH N l).getD k 0 = (((l.filter (fun x => decide (x = (k : Int)))).length : Nat) : Int) := by simp [zCH, List.getD, hk]
theorem cntT_nil (N : Nat) : zCH N [] = List.replicate N 0 := by
 apply List.ext_getElem (by simp [zCH])
 intro i h1 h2
 simp [zCH]
theorem zLq {N : Nat} (l : List Int) {x : Int} (h0 : 0 ≤ x) (h1 : x < N) : zCH N (l ++ [x]) = (zCH N l).set x.toNat ((zCH N l).getD x.toNat 0 + 1) := by
 rw [zGm (by omega)]
 apply List.ext_getElem (by simp [zCH])
 intro i i1 i2
 rw [List.getElem_set]
 have hi : i < N := by simpa [zCH] using i1
 simp only [zCH, List.getElem_map, List.getElem_range, List.filter_append, List.length_append]
 by_cases h : x.toNat = i
 ·rw [if_pos h, h]
  have : x = (i : Int) := by omega
  simp [this]
 ·rw [if_neg h]
  have : ¬ x = (i : Int) := by omega
  simp [this]
theorem cntT_le (N : Nat) (l : List Int) (k : Nat) : 0 ≤ (zCH N l).getD k 0 ∧ (zCH N l).getD k 0 ≤ l.length := by
 by_cases hk : k < N
 ·rw [zGm hk]
  have := List.length_filter_le (fun x => decide (x = (k : Int))) l
  omega
 ·have : (zCH N l).getD k 0 = 0 := by simp [zCH, List.getD, hk]
  rw [this]; omega
theorem zGn (t : zm) {k : Nat} (hk : k < t.length) : (zCH t.length (t.flatMap TNode.next)).getD k 0 = ((named t k : Nat) : Int) := zGm hk
/-- All but the first are named once. -/
theorem zL6 {t : zm} (h0 : t.length ≠ 0) : ((zCH t.length (t.flatMap TNode.next)).drop 1).any (fun n => decide (n ≠ 1)) = (List.range t.length).any (fun k => decide (k ≠ 0) && decide (named t k ≠ 1)) := by
 rw [Bool.eq_iff_iff, List.any_eq_true, List.any_eq_true]
 constructor
 ·rintro ⟨x, hx, h⟩
  obtain ⟨i, hi, rfl⟩ := List.mem_iff_getElem.1 hx
  rw [List.length_drop, zCn] at hi
  refine ⟨1 + i, by simp; omega, ?_⟩
  rw [List.getElem_drop] at h
  have e := zGn t (k := 1 + i) (by omega)
  rw [zBp 0 (by rw [zCn]; omega)] at e
  rw [e] at h
  simp only [Bool.and_eq_true, decide_eq_true_eq] at h ⊢
  exact ⟨by omega, by omega⟩
 ·rintro ⟨k, hk, h⟩
  have hk : k < t.length := by simpa using hk
  simp only [Bool.and_eq_true, decide_eq_true_eq] at h
  have e := zGn t hk
  refine ⟨_, List.mem_iff_getElem.2 ⟨k - 1, by rw [List.length_drop, zCn]; omega, Y⟩, ?_⟩
  rw [List.getElem_drop]
  rw [zBp 0 (by rw [zCn]; omega)] at e
  have e2 : (zCH t.length (t.flatMap TNode.next))[1 + (k - 1)]'(by rw [zCn]; omega) = ((named t k : Nat) : Int) := by
   rw [← e]; congr 1; omega
  rw [e2, decide_eq_true_eq]
  omega
/-- the sizes of the information sets, as the loop finds them -/
abbrev KSz := List (Int × Int × Nat)
def zGW (t : zm) : Prop := ∀ a ∈ t, ∀ b ∈ t, zFM a b = false
structure KInv (t : zm) (S : KSz) : Prop where
 free : zGW t
 from_ : ∀ e ∈ S, ∃ b ∈ t, b.kind = 2 ∧ b.player = e.1 ∧ b.info = e.2.1 ∧ b.next.length = e.2.2
 all : ∀ a ∈ t, a.kind = 2 → ∃ e ∈ S, e.1 = a.player ∧ e.2.1 = a.info
theorem zIy {a b : TNode} : zFM a b = true ↔ a.kind = 2 ∧ b.kind = 2 ∧ a.player = b.player ∧ a.info = b.info ∧ a.next.length ≠ b.next.length := by
 unfold zFM
 simp only [Bool.and_eq_true, decide_eq_true_eq]
theorem zGl {a b : TNode} : zFM a b = false ↔ (a.kind = 2 → b.kind = 2 → a.player = b.player → a.info = b.info → a.next.length = b.next.length) := by
 rw [← Bool.not_eq_true, zIy]
 constructor
 ·intro h h1 h2 h3 h4
  exact Classical.not_not.1 (fun h5 => h ⟨h1, h2, h3, h4, h5⟩)
 ·rintro h ⟨h1, h2, h3, h4, h5⟩
  exact h5 (h h1 h2 h3 h4)
theorem KInv.nil : KInv [] [] := ⟨fun a ha => by simp at ha, fun e he => by simp at he, fun a ha => by simp at ha⟩
theorem zDn {t : zm} {n : TNode} (h : zGW t) (hn : ∀ a ∈ t, n.kind = 2 → a.kind = 2 → a.player = n.player → a.info = n.info → a.next.length = n.next.length) : zGW (t ++ [n]) := by
 intro a ha0 b hb0
 rw [zGl]
 intro k1 k2 k3 k4
 rcases List.mem_append.1 ha0 with ha | ha <;> rcases List.mem_append.1 hb0 with hb | hb
 ·exact zGl.1 (h a ha b hb) k1 k2 k3 k4
 ·have e := List.mem_singleton.1 hb
  rw [e] at k2 k3 k4 ⊢
  exact hn a ha k2 k1 k3 k4
 ·have e := List.mem_singleton.1 ha
  rw [e] at k1 k3 k4 ⊢
  exact (hn b hb k1 k2 k3.symm k4.symm).symm
 ·rw [List.mem_singleton.1 ha, List.mem_singleton.1 hb]
theorem KInv.skip {t : zm} {S : KSz} {n : TNode} (h : KInv t S) (hk : n.kind ≠ 2) : KInv (t ++ [n]) S :=
 ⟨zDn h.free (fun a _ h1 => absurd h1 hk), fun e he => by
  obtain ⟨b, hb, q⟩ := h.from_ e he
  exact ⟨b, List.mem_append_left _ hb, q⟩, fun a ha h1 => by
  rcases List.mem_append.1 ha with ha | ha
  ·exact h.all a ha h1
  ·rw [List.mem_singleton.1 ha] at h1; exact absurd h1 hk⟩
theorem KInv.hit {t : zm} {S : KSz} {n : TNode} {e : Int × Int × Nat} (h : KInv t S) (he : e ∈ S) (h1 : e.1 = n.player) (h2 : e.2.1 = n.info) (h3 : e.2.2 = n.next.length) : KInv (t ++ [n]) S :=
 ⟨zDn h.free (fun a ha q1 q2 q3 q4 => by
  obtain ⟨b, hb, p1, p2, p3, p4⟩ := h.from_ e he
  have := zGl.1 (h.free a ha b hb) q2 p1 (by rw [q3, p2, h1]) (by rw [q4, p3, h2])
  rw [this, p4, h3]), fun e he => by
  obtain ⟨b, hb, q⟩ := h.from_ e he
  exact ⟨b, List.mem_append_left _ hb, q⟩, fun a ha q1 => by
  rcases List.mem_append.1 ha with ha | ha
  ·exact h.all a ha q1
  ·rw [List.mem_singleton.1 ha]; exact ⟨e, he, h1, h2⟩⟩
theorem KInv.miss {t : zm} {S : KSz} {n : TNode} (h : KInv t S) (hk : n.kind = 2) (hm : ∀ e ∈ S, ¬ (e.1 = n.player ∧ e.2.1 = n.info)) : KInv (t ++ [n]) (S ++ [(n.player, n.info, n.next.length)]) :=
 ⟨zDn h.free (fun a ha q1 q2 q3 q4 => by
  obtain ⟨e, he, p1, p2⟩ := h.all a ha q2
  exact absurd ⟨by rw [p1, q3], by rw [p2, q4]⟩ (hm e he)), fun e he => by
  rcases List.mem_append.1 he with he | he
  ·obtain ⟨b, hb, q⟩ := h.from_ e he
   exact ⟨b, List.mem_append_left _ hb, q⟩
  ·rw [List.mem_singleton.1 he]
   exact ⟨n, by simp, hk, Y, Y, Y⟩, fun a ha q1 => by
  rcases List.mem_append.1 ha with ha | ha
  ·obtain ⟨e, he, q⟩ := h.all a ha q1
   exact ⟨e, List.mem_append_left _ he, q⟩
  ·rw [List.mem_singleton.1 ha]; exact ⟨_, List.mem_append_right _ (List.mem_singleton.2 rfl), rfl, rfl⟩⟩
theorem KInv.bad {t T : zm} {S : KSz} {n : TNode} {e : Int × Int × Nat} (h : KInv t S) (hT : ∀ a ∈ t, a ∈ T) (hn : n ∈ T) (hk : n.kind = 2) (he : e ∈ S) (h1 : e.1 = n.player) (h2 : e.2.1 = n.info) (h3 : e.2.2 ≠ n.next.length) : T.any (fun a => T.any (zFM a)) = true := by
 obtain ⟨b, hb, p1, p2, p3, p4⟩ := h.from_ e he
 rw [List.any_eq_true]
 refine ⟨b, hT b hb, ?_⟩
 rw [List.any_eq_true]
 exact ⟨n, hn, zIy.2 ⟨p1, hk, by rw [p2, h1], by rw [p3, h2], by rw [p4]; exact h3⟩⟩
theorem zJJ {t : zm} (h : zGW t) : t.any (fun a => t.any (zFM a)) = false := by
 rw [List.any_eq_false]
 intro a ha h1
 obtain ⟨b, hb, h2⟩ := List.any_eq_true.1 h1
 rw [h a ha b hb] at h2
 cases h2
theorem zJL {N i : Nat} {t : zm} (hi : i < t.length) : zCv N i (t.drop i) = if zBr N i (t.getD i zQ) = 0 then zCv N (i + 1) (t.drop (i + 1)) else zBr N i (t.getD i zQ) := by
 rw [List.drop_eq_getElem_cons hi, ← zBp zQ hi, zCv]
theorem zDo {N i : Nat} {n : TNode} (h : zBr N i n = 0) : (∀ k ∈ n.next, (i : Int) < k ∧ k < N) ∧ n.next.length ≤ 6 := by
 unfold zBr at h
 split at h
 ·split at h
  ·cases h
  ·rename_i h1
   simp only [not_or] at h1
   have := Classical.not_not.1 h1.2.2.1
   rw [this]
   exact ⟨fun k hk => by simp at hk, Nat.zero_le _⟩
 ·split at h
  ·split at h
   ·cases h
   split at h
   ·rename_i h2; exact absurd h h2
   rename_i h2 h3
   obtain ⟨q1, q2, q3⟩ := zD9 (Classical.not_not.1 h3)
   exact ⟨q3, q2⟩
  ·split at h
   ·split at h
    ·cases h
    split at h
    ·cases h
    obtain ⟨q1, q2, q3⟩ := zD9 h
    exact ⟨q3, q2⟩
   ·cases h
/-- the nodes named by the first nodes -/
def zCq (t : zm) (i : Nat) : List Int := (t.take i).flatMap TNode.next
theorem zJ7 {t : zm} {i : Nat} (hi : i < t.length) : zCq t (i + 1) = zCq t i ++ (t.getD i zQ).next := by
 unfold zCq
 rw [List.take_succ_eq_append_getElem hi, List.flatMap_append, zBp zQ hi]
 simp
theorem zFD {l : List Int} {j : Nat} (hj : j < l.length) : l.take (j + 1) = l.take j ++ [l.getD j 0] := by
 rw [List.take_succ_eq_append_getElem hj, zBp 0 hj]
theorem zKn {l : zm} {j : Nat} (hj : j < l.length) : l.take (j + 1) = l.take j ++ [l.getD j zQ] := by
 rw [List.take_succ_eq_append_getElem hj, zBp zQ hj]
structure RSeq where
 info : Int
 choice : Int
 before : Int
 deriving DecidableEq
def seq0 : RSeq := ⟨-1, -1, -1⟩
structure RForm where
 seqs : List RSeq
 pos : List Int
 first : List (Int × Nat)
def lookA (m : List (Int × Nat)) (k : Int) : Option Nat := (m.find? (fun x => decide (x.1 = k))).map Prod.snd
def newSeqs (n : TNode) (b : Int) : List RSeq := (List.range n.next.length).map (fun k : Nat => ⟨n.info, (k : Int), b⟩)
def zGR (p : Int) (n : TNode) (i : Nat) (f : RForm) : RForm :=
 if own p n = true ∧ lookA f.first n.info = none then ⟨f.seqs ++ newSeqs n (f.pos.getD i 0), f.pos, f.first ++ [(n.info, f.seqs.length)]⟩ else f
def zLf (v : Nat → Int) : List Int → Nat → List Int → List Int
 | [], _, a => a
 | c :: r, k, a => zLf v r (k + 1) (a.set c.toNat (v k))
def nextV (p : Int) (n : TNode) (i : Nat) (f : RForm) (k : Nat) : Int := if own p n = true then (((lookA f.first n.info).getD 0 : Nat) : Int) + (k : Int) else f.pos.getD i 0
def stepF (p : Int) (n : TNode) (i : Nat) (f : RForm) : RForm := ⟨(zGR p n i f).seqs, zLf (nextV p n i (zGR p n i f)) n.next 0 (zGR p n i f).pos, (zGR p n i f).first⟩
def formN (t : zm) (p : Int) : Nat → RForm
 | 0 => ⟨[seq0], List.replicate t.length 0, []⟩
 | i + 1 => stepF p (t.getD i zQ) i (formN t p i)
def seqsOf (t : zm) (p : Int) : List RSeq := (formN t p t.length).seqs
def sumQ : Rat → List Rat → Rat
 | acc, [] => acc
 | acc, q :: r => sumQ (acc + q) r
/-- The probabilities of the children of a node: none where a node has no own ones. -/
abbrev zDO := Nat → Option (List Rat)
def setQ (v : Nat → Rat) : List Int → Nat → List Rat → List Rat
 | [], _, a => a
 | c :: r, k, a => setQ v r (k + 1) (a.set c.toNat (v k))
theorem zJf (v : Nat → Rat) : ∀ (l : List Int) (k : Nat) (a : List Rat), (setQ v l k a).length = a.length
 | [], _, a => rfl
 | c :: r, k, a => by rw [setQ, zJf v r]; simp
def zIQ (o : Option (List Rat)) (q : Rat) (k : Nat) : Rat := match o with | none => q | some l => q * l.getD k 0
def zBT (t : zm) (o : zDO) : Nat → List Rat
 | 0 => (List.replicate t.length 0).set 0 1
 | i + 1 => setQ (zIQ (o i) ((zBT t o i).getD i 0)) (t.getD i zQ).next 0 (zBT t o i)
def zA6 (t : zm) (o : zDO) : List Rat := zBT t o t.length
theorem zDt (t : zm) (o : zDO) : ∀ i, (zBT t o i).length = t.length
 | 0 => by simp [zBT]
 | i + 1 => by rw [zBT, zJf, zDt t o i]
theorem zDw (v : Nat → Rat) {j : Nat} : ∀ (l : List Int) (k : Nat) (a : List Rat), (∀ c ∈ l, c.toNat ≠ j) → (setQ v l k a).getD j 0 = a.getD j 0
 | [], _, a, _ => rfl
 | c :: r, k, a, h => by
  rw [setQ, zDw v r (k + 1) _ (fun c hc => h c (by simp [hc])), Go.Ax.Dt.getD_set, if_neg]
  exact fun q => h c (by simp) q.1.symm
theorem zLg (v : Nat → Rat) : ∀ (l : List Int) (k : Nat) (a : List Rat) (m : Nat), m < l.length → (l.map Int.toNat).Nodup → (∀ c ∈ l, c.toNat < a.length) → (setQ v l k a).getD (l.getD m 0).toNat 0 = v (k + m)
 | [], _, a, m, h, _, _ => absurd h (Nat.not_lt_zero _)
 | c :: r, k, a, m, h, hn, hl => by
  rw [List.map_cons, List.nodup_cons] at hn
  rw [setQ]
  cases m with
  | zero =>
   have : (c :: r).getD 0 0 = c := rfl
   rw [this, zDw, Go.Ax.Dt.getD_set, if_pos ⟨rfl, hl c (by simp)⟩, Nat.add_zero]
   intro x hx e
   exact hn.1 (List.mem_map.2 ⟨x, hx, e⟩)
  | succ m =>
   have : (c :: r).getD (m + 1) 0 = r.getD m 0 := rfl
   rw [this, zLg v r (k + 1) _ m (by simpa using h) hn.2 (fun x hx => by rw [List.length_set]; exact hl x (by simp [hx]))]
   congr 1; omega
/-- Who names whom. -/
def kid (t : zm) (i : Nat) (c : Nat) : Prop := (c : Int) ∈ (t.getD i zQ).next
theorem zJ8 (l : List Int) (k : Int) : (l.filter (fun x => decide (x = k))).length = l.count k := by
 rw [List.count_eq_length_filter]
 congr 1
theorem zHy (t : zm) (k : Nat) : named t k = (t.map (fun n => n.next.count (k : Int))).sum := by
 unfold named
 rw [zJ8]
 induction t with
 | nil => rfl
 | cons n r ih => rw [List.flatMap_cons, List.count_append, List.map_cons, List.sum_cons, ih]
theorem sum_one {l : List Nat} (h : l.sum = 1) {i j : Nat} (hi : i < l.length) (hj : j < l.length) (hij : i ≠ j) (h1 : 1 ≤ l[i]) (h2 : 1 ≤ l[j]) : False := by
 induction l generalizing i j with
 | nil => simp at hi
 | cons a r ih =>
  have mem_le : ∀ (r : List Nat) (k : Nat) (hk : k < r.length), r[k] ≤ r.sum := by
   intro r
   induction r with
   | nil => intro k hk; simp at hk
   | cons b q ihq =>
    intro k hk
    cases k with
    | zero => simp
    | succ k =>
     have := ihq k (by simpa using hk)
     simp only [List.getElem_cons_succ, List.sum_cons]
     omega
  rw [List.sum_cons] at h
  cases i with
  | zero =>
   cases j with
   | zero => exact hij rfl
   | succ j =>
    have := mem_le r j (by simpa using hj)
    simp only [List.getElem_cons_zero, List.getElem_cons_succ] at h1 h2
    omega
  | succ i =>
   cases j with
   | zero =>
    have := mem_le r i (by simpa using hi)
    simp only [List.getElem_cons_zero, List.getElem_cons_succ] at h1 h2
    omega
   | succ j =>
    simp only [List.getElem_cons_succ] at h1 h2
    have := mem_le r i (by simpa using hi)
    refine ih (by omega) (by simpa using hi) (by simpa using hj) (by omega) h1 h2
/-- Each node but the first has one parent, and is named once there. -/
theorem Valid.parent {t : zm} (h : Valid t) {c i j : Nat} (hc : c < t.length) (h0 : c ≠ 0) (hi : i < t.length) (hj : j < t.length) (k1 : kid t i c) (k2 : kid t j c) : i = j := by
 have hn := h.once c hc h0
 rw [zHy] at hn
 apply Classical.byContradiction
 intro hij
 refine sum_one hn (i := i) (j := j) (by simpa using hi) (by simpa using hj) hij ?_ ?_
 ·rw [List.getElem_map, ← zBp zQ hi]
  exact List.count_pos_iff.2 k1
 ·rw [List.getElem_map, ← zBp zQ hj]
  exact List.count_pos_iff.2 k2
theorem Valid.has {t : zm} (h : Valid t) {c : Nat} (hc : c < t.length) (h0 : c ≠ 0) : ∃ i, i < t.length ∧ kid t i c := by
 have hn := h.once c hc h0
 unfold named at hn
 have hne : (t.flatMap TNode.next).filter (fun x => decide (x = (c : Int))) ≠ [] := by intro e; rw [e] at hn; cases hn
 obtain ⟨x, hx⟩ := List.exists_mem_of_ne_nil _ hne
 obtain ⟨h1, h2⟩ := List.mem_filter.1 hx
 obtain ⟨n, hn1, hn2⟩ := List.mem_flatMap.1 h1
 obtain ⟨i, hi, rfl⟩ := List.getElem_of_mem hn1
 refine ⟨i, hi, ?_⟩
 unfold kid
 rw [zBp zQ hi]
 have : x = (c : Int) := by simpa using h2
 rw [← this]; exact hn2
theorem Valid.kid_lt {t : zm} (h : Valid t) {c i : Nat} (hi : i < t.length) (k : kid t i c) : i < c ∧ c < t.length := by
 have := h.behind hi _ k
 omega
theorem Valid.kids_nodup {t : zm} (h : Valid t) {i : Nat} (hi : i < t.length) : ((t.getD i zQ).next.map Int.toNat).Nodup := by
 rw [List.nodup_iff_pairwise_ne, List.pairwise_map, List.pairwise_iff_getElem]
 intro a b ha hb hab e
 have ma := List.getElem_mem ha
 have mb := List.getElem_mem hb
 have b1 := h.behind hi _ ma
 have b2 := h.behind hi _ mb
 have e2 : (t.getD i zQ).next[a] = (t.getD i zQ).next[b] := by omega
 obtain ⟨c, hc⟩ := Int.eq_ofNat_of_zero_le (show 0 ≤ (t.getD i zQ).next[a] by omega)
 have hn := h.once c (by omega) (by omega)
 rw [zHy] at hn
 have h2 : 2 ≤ (t.getD i zQ).next.count (c : Int) := by
  have hs : [(c : Int), (c : Int)].Sublist (t.getD i zQ).next := by
   have h3 : (t.getD i zQ).next = (t.getD i zQ).next.take b ++ (t.getD i zQ).next.drop b := (List.take_append_drop b _).symm
   rw [h3]
   have h4 : (c : Int) ∈ (t.getD i zQ).next.take b := by
    rw [List.mem_take_iff_getElem]
    exact ⟨a, by omega, hc⟩
   have h5 : (c : Int) ∈ (t.getD i zQ).next.drop b := by
    rw [List.mem_drop_iff_getElem]
    exact ⟨0, by simpa using hb, by simp only [Nat.add_zero]; rw [← e2]; exact hc⟩
   have := List.Sublist.append (List.singleton_sublist.2 h4) (List.singleton_sublist.2 h5)
   simpa using this
  have := hs.count_le (c : Int)
  simpa using this
 have h6 : (t.map (fun n => n.next.count (c : Int)))[i]'(by simpa using hi) ≤ (t.map (fun n => n.next.count (c : Int))).sum := by
  have mem_le : ∀ (r : List Nat) (k : Nat) (hk : k < r.length), r[k] ≤ r.sum := by
   intro r
   induction r with
   | nil => intro k hk; simp at hk
   | cons b q ihq =>
    intro k hk
    cases k with
    | zero => simp
    | succ k =>
     have := ihq k (by simpa using hk)
     simp only [List.getElem_cons_succ, List.sum_cons]
     omega
  exact mem_le _ _ _
 rw [List.getElem_map, ← zBp zQ hi] at h6
 omega
/-- What does not change any more. -/
theorem zE4 {t : zm} (h : Valid t) (o : zDO) {j : Nat} (hj : j < t.length) : ∀ d i, j ≤ i → i + d ≤ t.length → (zBT t o (i + d)).getD j 0 = (zBT t o i).getD j 0
 | 0, i, _, _ => rfl
 | d + 1, i, h1, h2 => by
  rw [← Nat.add_assoc, zBT, zDw, zE4 h o hj d i h1 (by omega)]
  intro c hc e
  have := h.behind (show i + d < t.length by omega) c hc
  omega
theorem zKg {t : zm} (h : Valid t) (o : zDO) : (zA6 t o).getD 0 0 = 1 := by
 have hn := h.ne
 have := zE4 h o (j := 0) (by omega) t.length 0 (Nat.le_refl _) (by omega)
 rw [Nat.zero_add] at this
 unfold zA6
 rw [this, zBT, Go.Ax.Dt.getD_set, if_pos ⟨rfl, by simp; omega⟩]
/-- Each child's probability is that of its parent, times that of the choice. -/
theorem zMF {t : zm} (h : Valid t) (o : zDO) {i m : Nat} (hi : i < t.length) (hm : m < (t.getD i zQ).next.length) : (zA6 t o).getD ((t.getD i zQ).next.getD m 0).toNat 0 = zIQ (o i) ((zA6 t o).getD i 0) m := by
 have hb := h.behind hi _ (zCQ 0 hm)
 have hc : ((t.getD i zQ).next.getD m 0).toNat < t.length := by omega
 have h1 : (zBT t o (i + 1)).getD ((t.getD i zQ).next.getD m 0).toNat 0 = zIQ (o i) ((zBT t o i).getD i 0) m := by
  rw [zBT, zLg _ _ _ _ m hm (h.kids_nodup hi) (fun c hc => by rw [zDt]; have := h.behind hi c hc; omega), Nat.zero_add]
 have h2 := zE4 h o (j := i) hi (t.length - i) i (Nat.le_refl _) (by omega)
 rw [show i + (t.length - i) = t.length by omega] at h2
 -- the child is not touched again
 have key : ∀ d, i + 1 + d ≤ t.length → (zBT t o (i + 1 + d)).getD ((t.getD i zQ).next.getD m 0).toNat 0 = (zBT t o (i + 1)).getD ((t.getD i zQ).next.getD m 0).toNat 0 := by
  intro d
  induction d with
  | zero => intro _; rfl
  | succ d ih =>
   intro hd
   rw [← Nat.add_assoc, zBT, zDw, ih (by omega)]
   intro c hc2 e
   have hc3 := h.behind (show i + 1 + d < t.length by omega) c hc2
   have k1 : kid t i ((t.getD i zQ).next.getD m 0).toNat := by
    unfold kid
    rw [show ((((t.getD i zQ).next.getD m 0).toNat : Nat) : Int) = (t.getD i zQ).next.getD m 0 by omega]
    exact zCQ 0 hm
   have k2 : kid t (i + 1 + d) ((t.getD i zQ).next.getD m 0).toNat := by
    unfold kid
    rw [← e, show ((c.toNat : Nat) : Int) = c by omega]
    exact hc2
   have := h.parent hc (by omega) hi (by omega) k1 k2
   omega
 have h3 := key (t.length - (i + 1)) (by omega)
 rw [show i + 1 + (t.length - (i + 1)) = t.length by omega] at h3
 unfold zA6
 rw [h3, h1, h2]
theorem kid_at {t : zm} {i j : Nat} (h : Valid t) (hi : i < t.length) (hk : kid t i j) : ∃ m, m < (t.getD i zQ).next.length ∧ ((t.getD i zQ).next.getD m 0).toNat = j := by
 obtain ⟨m, hm, he⟩ := List.getElem_of_mem hk
 exact ⟨m, hm, by rw [zBp 0 hm, he]; exact Int.toNat_natCast j⟩
def zB8 {α : Type} (v : Nat → α) : List Int → Nat → List α → List α
 | [], _, a => a
 | c :: r, k, a => zB8 v r (k + 1) (a.set c.toNat (v k))
theorem zFh {α : Type} (v : Nat → α) : ∀ (l : List Int) (k : Nat) (a : List α), (zB8 v l k a).length = a.length
 | [], _, a => rfl
 | c :: r, k, a => by rw [zB8, zFh v r]; simp
theorem zF6 {α : Type} (v : Nat → α) (x : Int) : ∀ (l : List Int) (k : Nat) (a : List α), zB8 v (l ++ [x]) k a = (zB8 v l k a).set x.toNat (v (k + l.length))
 | [], k, a => rfl
 | c :: r, k, a => by
  rw [List.cons_append, zB8, zB8, zF6 v x r (k + 1)]
  congr 2
  rw [List.length_cons]; omega
theorem zC2 {α : Type} (v : Nat → α) (d : α) {j : Nat} : ∀ (l : List Int) (k : Nat) (a : List α), (∀ c ∈ l, c.toNat ≠ j) → (zB8 v l k a).getD j d = a.getD j d
 | [], _, a, _ => rfl
 | c :: r, k, a, h => by
  rw [zB8, zC2 v d r (k + 1) _ (fun c hc => h c (by simp [hc])), Go.Ax.Dt.getD_set, if_neg]
  exact fun q => h c (by simp) q.1.symm
theorem zLe {α : Type} (v : Nat → α) (d : α) : ∀ (l : List Int) (k : Nat) (a : List α) (m : Nat), m < l.length → (l.map Int.toNat).Nodup → (∀ c ∈ l, c.toNat < a.length) → (zB8 v l k a).getD (l.getD m 0).toNat d = v (k + m)
 | [], _, a, m, h, _, _ => absurd h (Nat.not_lt_zero _)
 | c :: r, k, a, m, h, hn, hl => by
  rw [List.map_cons, List.nodup_cons] at hn
  rw [zB8]
  cases m with
  | zero =>
   have : (c :: r).getD 0 0 = c := rfl
   rw [this, zC2, Go.Ax.Dt.getD_set, if_pos ⟨rfl, hl c (by simp)⟩, Nat.add_zero]
   intro x hx e
   exact hn.1 (List.mem_map.2 ⟨x, hx, e⟩)
  | succ m =>
   have : (c :: r).getD (m + 1) 0 = r.getD m 0 := rfl
   rw [this, zLe v d r (k + 1) _ m (by simpa using h) hn.2 (fun x hx => by rw [List.length_set]; exact hl x (by simp [hx]))]
   congr 1; omega
abbrev firstF (t : zm) (p : Int) : List (Int × Nat) := (formN t p t.length).first
/-- The choices from e on belong to whole sets. -/
structure Bnd (t : zm) (p : Int) (e : Nat) : Prop where
 one : 1 ≤ e
 le : e ≤ (seqsOf t p).length
 whole : ∀ x ∈ firstF t p, x.2 < e → x.2 + zCd t p x.1 ≤ e
structure Blk (t : zm) (p : Int) (e : Nat) (x : Int × Nat) (b : Nat) : Prop where
 mem : x ∈ firstF t p
 info : x.1 ∈ zEi t p
 one : 1 ≤ x.2
 w1 : 1 ≤ zCd t p x.1
 fin : x.2 + zCd t p x.1 = e
 lt : b < x.2
 bnd : Bnd t p x.2
 seqs : ∀ c, c < zCd t p x.1 → (seqsOf t p).getD (x.2 + c) seq0 = ⟨x.1, (c : Int), (b : Int)⟩
end Go.Ax.Rt
namespace Go.Proofs.YtkncmbklkhjmgaaGreatDoor
open Go.Ax Go.Ax.Bg Go.Ax.Rt Go.RowKit Go.Ax.Idx Go.Ax.Cd
attribute [local irreducible] Ax zAO QOp zK zAN
def ze (n : TNode) : List AV := [.int .i64 n.kind, .int .i64 n.player, .int .i64 n.info, .ro (.ints .i64 n.next) 0 n.next.length, .ro (.strs n.odds) 0 n.odds.length, .str n.pay]
abbrev zf (t : zm) : Cells := rowE zQ 6 ze t
theorem zIP (n : TNode) (j : Nat) : noRef ((ze n).getD j .any) = true := by
 match j with
 | 0 => rfl
 | 1 => rfl
 | 2 => rfl
 | 3 => rfl
 | 4 => rfl
 | 5 => rfl
 | _ + 6 => rfl
structure ShortN (n : TNode) : Prop where
 next : n.next.length ≤ 9223372036854775807
 odds : n.odds.length ≤ 9223372036854775807
 each : ∀ s ∈ n.odds, s.length ≤ 9223372036854775807
 pay : n.pay.length ≤ 9223372036854775807
structure ShortT (t : zm) : Prop where
 len : t.length ≤ 9223372036854775807
 node : ∀ n ∈ t, ShortN n
theorem zLo (t : zm) (i : Nat) (k : Int) (hi : i ≤ 9223372036854775807) (hlen : t.length ≤ 9223372036854775807) : zN Tryz.prog 239 [.int .i64 k, .rp (.box [.int .i64 (i : Nat)]) 0 0, .rp (.box [.ro (zf t) 0 t.length]) 0 0] (.bool (zCm t.length i k)) := by
 refine zK.value0 (zC (P := Tryz.prog) (fn := Tryz.f239) Y Y (by kernel_rfl) Y (fun c hR hfix => ?_)) (fix := fun _ => False) (fun _ h => h) Y Y
 refine rn8 ?_
 refine zW Y Y (fun h => ?_) (fun h => ?_)
 ·refine rn6 ?_
  refine zE hR Y ?_
  unfold zCm
  rw [decide_eq_true h]; rfl
 ·refine rn8 ?_
  refine zE hR Y ?_
  unfold zCm
  rw [decide_eq_false h, Bool.false_or]; rfl
theorem boxT1 (t : zm) : zj (.box [.ro (zf t) 0 t.length]) := by
 intro i j _ hj
 obtain rfl : j = 0 := by have hj : j < 1 := hj; omega
 rfl
theorem boxIU (n : Int) : zj (.box [.int .i64 n]) := by
 intro i j _ hj
 obtain rfl : j = 0 := by have hj : j < 1 := hj; omega
 rfl
theorem refl2 {o1 o2 : AObj} (h1 : zj o1.c) (h2 : zj o2.c) : ∀ (h : Nat) (o : AObj), ([some o1, some o2] : zH)[h]? = some (some o) → zj o.c := by
 intro h o ho
 match h, ho with
 | 0, ho => cases ho; exact h1
 | 1, ho => cases ho; exact h2
 | _ + 2, ho => simp at ho
theorem zIx (t : zm) (i : Nat) (hi : i < t.length) (hlen : t.length ≤ 9223372036854775807) (hn : (t.getD i zQ).next.length ≤ 9223372036854775807) : zN Tryz.prog 184 [.ro (zf t) 0 t.length, .int .i64 (i : Nat)] (.int .i64 (zD8 t.length i (t.getD i zQ).next)) := by
 have hc := zHj (t.getD i zQ).next 239 [.rp (.box [.int .i64 (i : Nat)]) 0 0, .rp (.box [.ro (zf t) 0 t.length]) 0 0] (zCm t.length i) rfl hn (fun k _ => zLo t i k (by omega) hlen)
 refine zK.value0 (zC (P := Tryz.prog) (fn := Tryz.f184) Y Y (by kernel_rfl) Y (fun c hR hfix => ?_)) (fix := fun _ => False) (fun _ h => h) Y Y
 repeat (first | refine zF (zT rfl) ?_ | refine zV ?_ | refine zO ?_ | refine zAA ?_ | refine zZ rfl ?_ | refine zF (zB4 rfl rfl rfl rfl) ?_ | refine zF (zR rfl rfl rfl rfl rfl) ?_ | refine zF (zx rfl rfl rfl rfl (by first | (simp only [Nat.zero_add, Int.toNat_natCast, Int.toNat_zero]; exact rfl) | exact rfl) (by omega)) ?_ | refine zF (zCz rfl rfl rfl rfl rfl rfl) ?_ | refine zEv rfl rfl ?_)
 refine zAS 5 (.ro (.ints .i64 (t.getD i zQ).next) 0 (t.getD i zQ).next.length) Y (AEq.of_eq Y) ?_
 generalize (t.getD i zQ).next = l at *
 unfold zD8 at hR
 refine rn4 ?_
 refine zB Y (fun h1 => ?_) (fun h1 => ?_)
 ·rw [if_pos (by omega)] at hR
  refine rn6 ?_
  exact zE hR Y Y
 rw [if_neg (by omega)] at hR
 refine rn6 ?_
 refine zB Y (fun h2 => ?_) (fun h2 => ?_)
 ·rw [if_pos (by omega)] at hR
  refine rn6 ?_
  exact zE hR Y Y
 rw [if_neg (by omega)] at hR
 refine zCM ?_
 refine zFI rfl rfl rfl rfl hc (refl2 (o1 := ⟨60, .box [.ro (zf t) 0 t.length]⟩) (o2 := ⟨3, .box [.int .i64 (i : Nat)]⟩) (boxT1 _) (boxIU _)) ⟨trivial, ⟨fun o ho => by simp at ho; subst ho; exact Nat.zero_lt_one, fun o ho => by simp at ho; subst ho; exact Nat.zero_lt_one, trivial⟩, trivial⟩ rfl rfl rfl ?_
 generalize l.any (zCm t.length i) = b at *
 cases b
 ·rw [if_neg (by decide)] at hR
  refine rn5 ?_
  exact zE hR Y Y
 ·rw [if_pos rfl] at hR
  refine rn6 ?_
  exact zE hR Y Y
theorem node_ok (t : zm) (i : Nat) (hi : i < t.length) (hlen : t.length ≤ 9223372036854775807) (hs : ShortN (t.getD i zQ)) : zN Tryz.prog 108 [.ro (zf t) 0 t.length, .int .i64 (i : Nat)] (.int .i64 (zBr t.length i (t.getD i zQ))) := by
 have cc := zIx t i hi hlen hs.next
 have cp := zIC (t.getD i zQ).pay hs.pay
 have co := odds_ok (t.getD i zQ).odds hs.odds hs.each
 obtain ⟨s1, s2, s3, s4⟩ := hs
 refine zK.value0 (zC (P := Tryz.prog) (fn := Tryz.f108) Y Y (by kernel_rfl) Y (fun c hR hfix => ?_)) (fix := fun _ => False) (fun _ h => h) Y Y
 refine rn6 ?_
 refine zG 10 (.agg (ze (t.getD i zQ))) Y (AEq.of_eq Y) ?_
 generalize t.getD i zQ = n at *
 obtain ⟨kd, pl, nf, nx, od, py⟩ := n
 simp only at *
 unfold zBr at hR
 refine sa1 (c' := .box [.int .i64 kd, .int .i64 pl, .int .i64 nf, .ro (.ints .i64 nx) 0 nx.length, .ro (.strs od) 0 od.length, .str py]) Y Y Y Y Y Y Y ?_
 simp only at hR
 refine rn5 ?_
 refine zB Y (fun h0 => ?_) (fun h0 => ?_)
 ·rw [if_pos h0] at hR
  refine rn5 ?_
  refine zW Y Y (fun g1 => ?_) (fun g1 => ?_)
  ·rw [if_pos (.inl g1)] at hR
   refine rn6 ?_
   exact zE hR Y Y
  refine rn5 ?_
  refine zW Y Y (fun g2 => ?_) (fun g2 => ?_)
  ·rw [if_pos (.inr (.inl g2))] at hR
   refine rn6 ?_
   exact zE hR Y Y
  refine rn6 ?_
  refine zW Y Y (fun g3 => ?_) (fun g3 => ?_)
  ·rw [if_pos (.inr (.inr (.inl (by rintro rfl; simp at g3))))] at hR
   refine rn6 ?_
   exact zE hR Y Y
  refine rn6 ?_
  refine zB Y (fun g4 => ?_) (fun g4 => ?_)
  ·rw [if_pos (.inr (.inr (.inr (by rintro rfl; simp at g4))))] at hR
   refine rn6 ?_
   exact zE hR Y Y
  rw [if_neg (by
   rintro (q | q | q | q)
   ·exact g1 q
   ·exact g2 q
   ·have := List.length_pos_iff.2 q; omega
   ·have := List.length_pos_iff.2 q; omega)] at hR
  refine rn5 ?_
  refine zA Y Y Y cp ?_
  refine rn6 ?_
  exact zE hR Y Y
 rw [if_neg h0] at hR
 refine rn4 ?_
 refine zB Y (fun h1 => ?_) (fun h1 => ?_)
 ·rw [if_pos h1] at hR
  refine rn5 ?_
  refine zW Y Y (fun g1 => ?_) (fun g1 => ?_)
  ·rw [if_pos (.inl g1)] at hR
   refine rn6 ?_
   exact zE hR Y Y
  refine rn5 ?_
  refine zW Y Y (fun g2 => ?_) (fun g2 => ?_)
  ·rw [if_pos (.inr (.inl g2))] at hR
   refine rn6 ?_
   exact zE hR Y Y
  refine rn8 ?_
  refine zB Y (fun g3 => ?_) (fun g3 => ?_)
  ·rw [if_pos (.inr (.inr g3))] at hR
   refine rn6 ?_
   exact zE hR Y Y
  rw [if_neg (by
   rintro (q | q | q)
   ·exact g1 q
   ·exact g2 q
   ·exact g3 q)] at hR
  refine rn1 ?_
  refine zA Y Y Y cc ?_
  refine rn3 ?_
  refine zB Y (fun h3 => ?_) (fun h3 => ?_)
  ·rw [if_pos h3] at hR
   refine rn6 ?_
   exact zE hR Y Y
  rw [if_neg h3] at hR
  refine rn5 ?_
  refine zB Y (fun h4 => ?_) (fun h4 => ?_)
  ·rw [if_pos (by omega)] at hR
   refine rn6 ?_
   exact zE hR Y Y
  rw [if_neg (by omega)] at hR
  refine rn5 ?_
  refine zA Y Y Y co ?_
  refine rn6 ?_
  exact zE hR Y Y
 rw [if_neg h1] at hR
 refine rn4 ?_
 refine zB Y (fun h2 => ?_) (fun h2 => ?_)
 ·rw [if_pos h2] at hR
  refine rn6 ?_
  refine zW Y Y (fun g1 => ?_) (fun g1 => ?_)
  ·rw [if_pos (.inl (by rintro rfl; simp at g1))] at hR
   refine rn6 ?_
   exact zE hR Y Y
  refine rn8 ?_
  refine zB Y (fun g2 => ?_) (fun g2 => ?_)
  ·rw [if_pos (.inr g2)] at hR
   refine rn6 ?_
   exact zE hR Y Y
  rw [if_neg (by
   rintro (q | q)
   ·have := List.length_pos_iff.2 q; omega
   ·exact g2 q)] at hR
  refine rn5 ?_
  refine zW Y Y (fun g3 => ?_) (fun g3 => ?_)
  ·refine rn5 ?_
   refine zW Y Y (fun g4 => ?_) (fun g4 => ?_)
   ·rw [if_pos (.inl ⟨g3, g4⟩)] at hR
    refine rn6 ?_
    exact zE hR Y Y
   refine rn5 ?_
   refine zW Y Y (fun g5 => ?_) (fun g5 => ?_)
   ·rw [if_pos (.inr (.inl g5))] at hR
    refine rn6 ?_
    exact zE hR Y Y
   refine rn8 ?_
   refine zB Y (fun g6 => ?_) (fun g6 => ?_)
   ·rw [if_pos (.inr (.inr g6))] at hR
    refine rn6 ?_
    exact zE hR Y Y
   rw [if_neg (by
    rintro (q | q | q)
    ·exact g4 q.2
    ·exact g5 q
    ·exact g6 q)] at hR
   refine rn1 ?_
   refine zA Y Y Y cc ?_
   refine rn6 ?_
   exact zE hR Y Y
  ·refine rn6 ?_
   refine zW Y Y (fun g5 => ?_) (fun g5 => ?_)
   ·rw [if_pos (.inr (.inl g5))] at hR
    refine rn6 ?_
    exact zE hR Y Y
   refine rn8 ?_
   refine zB Y (fun g6 => ?_) (fun g6 => ?_)
   ·rw [if_pos (.inr (.inr g6))] at hR
    refine rn6 ?_
    exact zE hR Y Y
   rw [if_neg (by
    rintro (q | q | q)
    ·exact g3 q.1
    ·exact g5 q
    ·exact g6 q)] at hR
   refine rn1 ?_
   refine zA Y Y Y cc ?_
   refine rn6 ?_
   exact zE hR Y Y
 ·rw [if_neg h2] at hR
  refine rn5 ?_
  exact zE hR Y Y
theorem chk1_ok (n : Int) : zN Tryz.prog 110 [.int .i64 n] (.bool (decide (n ≠ 1))) := by
 refine zK.value0 (zC (P := Tryz.prog) (fn := Tryz.f110) Y Y (by kernel_rfl) Y (fun c hR hfix => ?_)) (fix := fun _ => False) (fun _ h => h) Y Y
 refine rn3 ?_
 exact zE hR Y Y
def zF0 (e : Int × Int × Nat) : AV := .agg [.int .i64 e.1, .int .i64 e.2.1]
def lenV (e : Int × Int × Nat) : AV := .int .i64 (e.2.2 : Nat)
abbrev szC (S : KSz) : Cells := .mp (S.map zF0) (S.map lenV)
theorem keysV (S : KSz) : ∀ x ∈ S.map zF0, zCV (.pair .i64) x = true := by
 intro x hx
 obtain ⟨e, _, rfl⟩ := List.mem_map.1 hx
 rfl
theorem set_same {l : List AV} {j : Nat} {v : AV} (h : l[j]? = some v) : l.set j v = l := by
 apply List.ext_getElem?
 intro i
 by_cases e : j = i
 ·subst e
  obtain ⟨hj, _⟩ := List.getElem?_eq_some_iff.1 h
  rw [List.getElem?_set_self hj, h]
 ·rw [List.getElem?_set_ne e]
theorem zEx {α : Type} {n : Nat} {f : α → AV} (hf : ∀ x, zCi n (f x) = true) : ∀ l : List α, zBJ n (l.map f) = true
 | [] => rfl
 | a :: r => by
  show (zCi n (f a) && zBJ n (r.map f)) = true
  rw [hf a, zEx hf r]; rfl
theorem zEw {n : Nat} {t : TypeId} {c : Cells} (hc : zBI n c) : ∀ (h : Nat) (o : AObj), ([some ⟨t, c⟩] : zH)[h]? = some (some o) → zBI n o.c := by
 intro h o ho
 match h, ho with
 | 0, ho => cases ho; exact hc
 | _ + 1, ho => simp at ho
theorem zGj (S : KSz) (n : Nat) : zBI n (szC S) := ⟨zEx (fun _ => rfl) S, zEx (fun _ => rfl) S⟩
theorem zCg (t : zm) (hT : ShortT t) : zN Tryz.prog 36 [.ro (zf t) 0 t.length] (.int .i64 (zA1 t)) := by
 have hlen := hT.len
 refine zK.value0 (zC (P := Tryz.prog) (fn := Tryz.f36) Y Y (by kernel_rfl) Y (fun c hR hfix => ?_)) (fix := fun _ => False) (fun _ h => h) Y Y
 unfold zA1 at hR
 refine rn6 ?_
 refine zB Y (fun h1 => ?_) (fun h1 => ?_)
 ·rw [if_pos (by omega)] at hR
  refine rn2 ?_
  exact zE hR Y Y
 rw [if_neg (by omega)] at hR
 refine rn4 ?_
 refine zB Y (fun h2 => ?_) (fun h2 => ?_)
 ·rw [if_pos (by omega)] at hR
  refine rn2 ?_
  exact zE hR Y Y
 rw [if_neg (by omega)] at hR
 have hN : t.length ≤ 120 := by omega
 have hN0 : t.length ≠ 0 := by omega
 refine rn3 ?_
 refine zBl Y Y Y Y Y Y Y Y (by show 0 ≤ _ ∧ _ ≤ _ ∧ (8 : Int) * _ ≤ _ ∧ _; omega) ?_
 refine rn3 ?_
 refine zY (ι := Nat) (fun i => [(0, .ro (zf t) 0 t.length), (3, .sl 0 0 t.length), (23, .ro (zf t) 0 t.length), (24, .int .i64 (t.length : Nat)), (25, .int .i64 (i : Nat))]) (fun i => [some ⟨3, .ints .i64 (zCH t.length (zCq t i))⟩])
  (fun i => i ≤ t.length ∧ zCv t.length 0 t = zCv t.length i (t.drop i) ∧ (zCq t i).length ≤ 6 * i) (fun i => t.length - i) 0 ⟨⟨rfl, rfl, rfl, rfl, rfl, trivial⟩, by show [some (⟨3, .ints .i64 (List.replicate _ 0)⟩ : AObj)] = [some ⟨3, .ints .i64 (zCH t.length [])⟩]; rw [cntT_nil]; rfl, Nat.zero_le _, by rw [List.drop_zero], by simp [zCq]⟩ ?_
 rintro i ⟨hi, hE, hF⟩
 refine rn4 ?_
 refine zB Y (fun h3 => ?_) (fun h3 => ?_)
 ·have hi' : i < t.length := by omega
  have hmem := zAx zQ hi'
  have cn := node_ok t i hi' hlen (hT.node _ hmem)
  rw [zJL hi'] at hE
  have hfs := zJ7 hi'
  refine rn1 ?_
  refine zA Y Y Y cn ?_
  refine rn3 ?_
  refine zB Y (fun h4 => ?_) (fun h4 => ?_)
  ·rw [if_neg h4] at hE
   rw [if_pos (by rw [hE]; exact h4), hE] at hR
   refine rn6 ?_
   exact zE hR Y Y
  rw [if_pos (Classical.not_not.1 h4)] at hE
  obtain ⟨q1, q2⟩ := zDo (Classical.not_not.1 h4)
  have hl9 : (t.getD i zQ).next.length ≤ 9223372036854775807 := by omega
  refine rn20 ?_
  refine zZ Y ?_
  refine zDc ?_
  refine zAS 38 (.ro (.ints .i64 (t.getD i zQ).next) 0 (t.getD i zQ).next.length) Y (AEq.of_eq Y) ?_
  generalize (t.getD i zQ).next = l at *
  repeat (refine zt ?_)
  refine zY (ι := Nat) (fun j => [(0, .ro (zf t) 0 t.length), (3, .sl 0 0 t.length), (23, .ro (zf t) 0 t.length), (24, .int .i64 (t.length : Nat)), (25, .int .i64 (i : Nat)), (38, .ro (.ints .i64 l) 0 l.length), (39, .int .i64 (l.length : Nat)), (40, .int .i64 (j : Nat))]) (fun j => [some ⟨3, .ints .i64 (zCH t.length (zCq t i ++ l.take j))⟩])
   (fun j => j ≤ l.length) (fun j => l.length - j) 0 ⟨⟨rfl, rfl, rfl, rfl, rfl, rfl, rfl, rfl, trivial⟩, by rw [List.take_zero, List.append_nil], Nat.zero_le _⟩ ?_
  intro j hj
  refine rn4 ?_
  refine zB Y (fun h5 => ?_) (fun h5 => ?_)
  ·have hj' : j < l.length := by omega
   obtain ⟨b1, b2⟩ := q1 _ (zCQ 0 hj')
   have hs := zLq (zCq t i ++ l.take j) (x := l.getD j 0) (by omega) b2
   rw [List.append_assoc, ← zFD hj'] at hs
   have hb := cntT_le t.length (zCq t i ++ l.take j) (l.getD j 0).toNat
   have hll : (zCq t i ++ l.take j).length ≤ 6 * i + 6 := by rw [List.length_append, List.length_take]; omega
   have hcl := zCn t.length (zCq t i ++ l.take j)
   have hlt : (l.getD j 0).toNat < (zCH t.length (zCq t i ++ l.take j)).length := by omega
   generalize zCH t.length (zCq t i ++ l.take j) = C at *
   refine rn17 ?_
   exact zM ⟨j + 1, by omega, by omega, ⟨Y, Y, Y, Y, Y, Y, Y, Y, trivial⟩, by rw [hs]; rfl⟩
  ·have hje : j = l.length := by omega
   subst hje
   rw [List.take_length, ← hfs]
   refine rn5 ?_
   exact zM ⟨i + 1, ⟨by omega, hE, by rw [hfs, List.length_append]; omega⟩, by omega, ⟨Y, Y, Y, Y, Y, trivial⟩, Y⟩
 have hie : i = t.length := by omega
 subst hie
 rw [List.drop_length] at hE
 have hE0 : zCv t.length 0 t = 0 := hE
 rw [if_neg (by rw [hE0]; exact fun q => q rfl)] at hR
 have hfl : zCq t t.length = t.flatMap TNode.next := by unfold zCq; rw [List.take_length]
 rw [hfl]
 have hall := zL6 hN0
 rw [← hall] at hR
 have hcl := zCn t.length (t.flatMap TNode.next)
 generalize zCH t.length (t.flatMap TNode.next) = C at *
 have cc := zHj (C.drop 1) 110 [] (fun n => decide (n ≠ 1)) rfl (by rw [List.length_drop]; omega) (fun n _ => chk1_ok n)
 refine zDc ?_
 refine zAb 0 3 t.length [(0, .ro (zf t) 0 t.length)] Y zl Y (by show t.length ≤ C.length; omega) ⟨Y, trivial⟩ ?_
 refine zBa [] [none] [(0, .ro (zf t) 0 t.length), (3, .ro (.ints .i64 C) 0 t.length)] Y ⟨Y, Y, trivial⟩ (fun h hh => by rw [hfix] at hh; exact absurd hh id) (fun h o ho => by simp at ho) Y ?_
 refine zHD ?_
 refine zG 53 (.ro (.ints .i64 (C.drop 1)) 0 (C.drop 1).length) Y (AEq.trans (AEq.drop (k := .i64) (l := C) (i := 1) (n := ((t.length : Int) - 1).toNat)) (AEq.of_eq (by rw [List.length_drop, hcl]; congr 1; omega))) ?_
 refine zA Y Y Y cc ?_
 generalize (C.drop 1).any (fun n => decide (n ≠ 1)) = b at *
 cases b
 case true =>
  rw [if_pos rfl] at hR
  refine rn5 ?_
  exact zE hR Y Y
 rw [if_neg (by decide)] at hR
 refine rn4 ?_
 refine zJt ?_
 refine rn3 ?_
 refine zY (ι := Nat × KSz) (fun x => [(0, .ro (zf t) 0 t.length), (8, .mp 0), (56, .ro (zf t) 0 t.length), (57, .int .i64 (t.length : Nat)), (58, .int .i64 (x.1 : Nat))]) (fun x => [some ⟨170, szC x.2⟩])
  (fun x => x.1 ≤ t.length ∧ KInv (t.take x.1) x.2) (fun x => t.length - x.1) (0, []) ⟨⟨rfl, rfl, rfl, rfl, rfl, trivial⟩, rfl, Nat.zero_le _, KInv.nil⟩ ?_
 rintro ⟨k, S⟩ ⟨hk, hK⟩
 simp only at hk hK
 refine rn4 ?_
 refine zB Y (fun h5 => ?_) (fun h5 => ?_)
 ·have hk' : k < t.length := by omega
  have hmem := zAx zQ hk'
  have hsn := hT.node _ hmem
  have htk := zKn hk'
  have hpre : ∀ a ∈ t.take k, a ∈ t := fun a ha => List.mem_of_mem_take ha
  have hskip := @KInv.skip (t.take k) S (t.getD k zQ) hK
  have hhit := fun e => @KInv.hit (t.take k) S (t.getD k zQ) e hK
  have hmiss := @KInv.miss (t.take k) S (t.getD k zQ) hK
  have hbad := fun e => @KInv.bad (t.take k) t S (t.getD k zQ) e hK hpre hmem
  rw [← htk] at hskip hhit hmiss
  obtain ⟨s1, s2, s3, s4⟩ := hsn
  refine rn6 ?_
  refine zG 61 (.agg (ze (t.getD k zQ))) Y (AEq.of_eq Y) ?_
  generalize t.getD k zQ = n at *
  obtain ⟨kd, pl, nf, nx, od, py⟩ := n
  simp only at *
  refine sa1 (c' := .box [.int .i64 kd, .int .i64 pl, .int .i64 nf, .ro (.ints .i64 nx) 0 nx.length, .ro (.strs od) 0 od.length, .str py]) Y Y Y Y Y Y Y ?_
  refine rn5 ?_
  refine zB Y (fun g1 => ?_) (fun g1 => ?_)
  ·refine zCM ?_
   refine zO ?_
   refine zBa [some ⟨170, szC S⟩] [some ⟨79, .box [.int .i64 kd, .int .i64 pl, .int .i64 nf, .ro (.ints .i64 nx) 0 nx.length, .ro (.strs od) 0 od.length, .str py]⟩] [(0, .ro (zf t) 0 t.length), (8, .mp 0), (56, .ro (zf t) 0 t.length), (57, .int .i64 (t.length : Nat)), (58, .int .i64 (k : Nat))] Y ⟨Y, Y, Y, Y, Y, trivial⟩ (fun h hh => by rw [hfix] at hh; exact absurd hh id) (zEw (zGj S 1)) Y ?_
   refine rn3 ?_
   exact zM ⟨(k + 1, S), ⟨by simp only; omega, hskip g1⟩, by simp only; omega, ⟨Y, Y, Y, Y, Y, trivial⟩, Y⟩
  ·have hk2 : kd = 2 := Classical.not_not.1 g1
   refine rn8 ?_
   refine zG 69 (.agg [.int .i64 pl, .int .i64 nf]) Y (AEq.of_eq Y) ?_
   refine sa1 (c' := .box [.int .i64 pl, .int .i64 nf]) Y Y Y Y Y Y Y ?_
   refine rn6 ?_
   refine zG 72 (zF0 (pl, nf, 0)) Y (AEq.of_eq Y) ?_
   by_cases hm : ∃ e ∈ S, e.1 = pl ∧ e.2.1 = nf
   ·obtain ⟨e, he, e1, e2⟩ := hm
    obtain ⟨j, hj, hje⟩ := List.getElem_of_mem he
    have i1 : (S.map zF0)[j]? = some (zF0 (pl, nf, 0)) := by
     rw [List.getElem?_map, List.getElem?_eq_getElem hj, hje]
     show some (zF0 e) = _
     unfold zF0; rw [e1, e2]
    have i2 : (S.map lenV)[j]? = some (.int .i64 (e.2.2 : Nat)) := by
     rw [List.getElem?_map, List.getElem?_eq_getElem hj, hje]; rfl
    refine zF (zIh Y (.pair Y Y Y) Y Y Y Y (keysV S) j i1 i2) ?_
    refine rn5 ?_
    refine zB Y (fun h7 => ?_) (fun h7 => ?_)
    ·rw [if_pos (hbad e hk2 he e1 e2 (by omega))] at hR
     refine rn6 ?_
     exact zE hR Y Y
    ·have h8 : e.2.2 = nx.length := by omega
     have hset : (S.map lenV).set j (.int .i64 (nx.length : Nat)) = S.map lenV := set_same (by rw [i2, h8])
     refine rn6 ?_
     refine zG 85 (zF0 (pl, nf, 0)) Y (AEq.of_eq Y) ?_
     refine zHT Y (.pair Y Y Y) Y Y Y Y Y (keysV S) j i1 ?_
     refine zAu [some ⟨170, szC (S)⟩, some ⟨79, .box [.int .i64 kd, .int .i64 pl, .int .i64 nf, .ro (.ints .i64 nx) 0 nx.length, .ro (.strs od) 0 od.length, .str py]⟩, some ⟨134, .box [.int .i64 pl, .int .i64 nf]⟩] (by rw [← hset]; rw [hset]; exact (congrArg (fun l => [some (⟨170, .mp (S.map zF0) l⟩ : AObj), some ⟨79, .box [.int .i64 kd, .int .i64 pl, .int .i64 nf, .ro (.ints .i64 nx) 0 nx.length, .ro (.strs od) 0 od.length, .str py]⟩, some ⟨134, .box [.int .i64 pl, .int .i64 nf]⟩]) hset)) ?_
     refine zCM ?_
     refine zO ?_
     refine zBa [some ⟨170, szC (S)⟩] [some ⟨79, .box [.int .i64 kd, .int .i64 pl, .int .i64 nf, .ro (.ints .i64 nx) 0 nx.length, .ro (.strs od) 0 od.length, .str py]⟩, some ⟨134, .box [.int .i64 pl, .int .i64 nf]⟩] [(0, .ro (zf t) 0 t.length), (8, .mp 0), (56, .ro (zf t) 0 t.length), (57, .int .i64 (t.length : Nat)), (58, .int .i64 (k : Nat))] Y ⟨Y, Y, Y, Y, Y, trivial⟩ (fun h hh => by rw [hfix] at hh; exact absurd hh id) (zEw (zGj _ 1)) Y ?_
     refine rn3 ?_
     exact zM ⟨(k + 1, S), ⟨by simp only; omega, hhit e he e1 e2 h8⟩, by simp only; omega, ⟨Y, Y, Y, Y, Y, trivial⟩, Y⟩
   ·have hnew : zF0 (pl, nf, 0) ∉ S.map zF0 := by
     intro q
     obtain ⟨e, he, ee⟩ := List.mem_map.1 q
     simp only [zF0, AV.agg.injEq, List.cons.injEq, AV.int.injEq, true_and, and_true] at ee
     exact hm ⟨e, he, ee.1, ee.2⟩
    refine zF (zHY Y (.pair Y Y Y) Y Y Y Y Y Y Y Y (keysV S) hnew) ?_
    refine rn6 ?_
    refine zG 85 (zF0 (pl, nf, 0)) Y (AEq.of_eq Y) ?_
    refine zGg Y (.pair Y Y Y) Y Y Y Y Y (keysV S) hnew ?_
    refine zAu [some ⟨170, szC (S ++ [(pl, nf, nx.length)])⟩, some ⟨79, .box [.int .i64 kd, .int .i64 pl, .int .i64 nf, .ro (.ints .i64 nx) 0 nx.length, .ro (.strs od) 0 od.length, .str py]⟩, some ⟨134, .box [.int .i64 pl, .int .i64 nf]⟩] (by unfold szC; rw [List.map_append, List.map_append]; rfl) ?_
    refine zCM ?_
    refine zO ?_
    refine zBa [some ⟨170, szC (S ++ [(pl, nf, nx.length)])⟩] [some ⟨79, .box [.int .i64 kd, .int .i64 pl, .int .i64 nf, .ro (.ints .i64 nx) 0 nx.length, .ro (.strs od) 0 od.length, .str py]⟩, some ⟨134, .box [.int .i64 pl, .int .i64 nf]⟩] [(0, .ro (zf t) 0 t.length), (8, .mp 0), (56, .ro (zf t) 0 t.length), (57, .int .i64 (t.length : Nat)), (58, .int .i64 (k : Nat))] Y ⟨Y, Y, Y, Y, Y, trivial⟩ (fun h hh => by rw [hfix] at hh; exact absurd hh id) (zEw (zGj _ 1)) Y ?_
    refine rn3 ?_
    exact zM ⟨(k + 1, S ++ [(pl, nf, nx.length)]), ⟨by simp only; omega, hmiss hk2 (fun e he q => hm ⟨e, he, q⟩)⟩, by simp only; omega, ⟨Y, Y, Y, Y, Y, trivial⟩, Y⟩
 ·have hke : k = t.length := by omega
  subst hke
  rw [List.take_length] at hK
  rw [zJJ hK.free, if_neg (by decide)] at hR
  refine rn5 ?_
  exact zE hR Y Y
end Go.Proofs.YtkncmbklkhjmgaaGreatDoor
namespace Go.Ax.Rt
open Go.Ax.Bg Go.Ax.Idx
theorem zHw {α : Type} (p : α → Bool) : ∀ l : List α, l.any p = true → zCK p l = (l.findIdx p : Nat)
 | [], h => by simp at h
 | x :: r, h => by
  rw [zCK, List.findIdx_cons]
  cases hx : p x
  ·have hr : r.any p = true := by simpa [hx] using h
   rw [zHw p r hr]
   simp only [cond_false, Bool.false_eq_true, if_false]
   rw [if_neg (by omega)]
   omega
  ·rfl
theorem zL2 {α : Type} (p : α → Bool) (l : List α) (h : l.any p = false) : zCK p l = -1 := by
 have := zEJ p l
 rw [h, decide_eq_false_iff_not] at this
 exact zJA p l (by omega)
def zAj (t : zm) (p : Int) (k : Nat) : List Int := ((List.range k).map (fun i : Nat => (i : Int))).filter (fun i => t.any (zDX p i))
def zB9 (t : zm) (p : Int) (k : Nat) : List Int := (zAj t p k).map (fun i => ((zCd t p i : Nat) : Int))
theorem zGI (t : zm) (p : Int) (k : Nat) : zAj t p (k + 1) = if t.any (zDX p (k : Int)) = true then zAj t p k ++ [(k : Int)] else zAj t p k := by
 unfold zAj
 rw [List.range_succ, List.map_append, List.filter_append]
 split
 ·rename_i h; simp [h]
 ·rename_i h; simp [h]
theorem zJi (t : zm) (p : Int) (k : Nat) : zB9 t p (k + 1) = if t.any (zDX p (k : Int)) = true then zB9 t p k ++ [((zCd t p (k : Int) : Nat) : Int)] else zB9 t p k := by
 unfold zB9
 rw [zGI]
 split
 ·simp
 ·rfl
theorem zKH (t : zm) (p : Int) (k : Nat) : (zAj t p k).length ≤ k := by
 unfold zAj
 refine Nat.le_trans (List.length_filter_le _ _) (by simp)
theorem zHH (t : zm) (p : Int) (k : Nat) : (zB9 t p k).length = (zAj t p k).length := by unfold zB9; simp
theorem zKG (t : zm) (p : Int) : zAj t p 10 = zEi t p := rfl
theorem zKl (t : zm) (p : Int) : zB9 t p 10 = zGa t p := rfl
theorem zJ5 {t : zm} {p i : Int} (h : t.any (zDX p i) = true) : zK9 t p i < t.length := by
 obtain ⟨x, hx, h2⟩ := List.any_eq_true.1 h
 exact List.findIdx_lt_length_of_exists ⟨x, hx, h2⟩
end Go.Ax.Rt
namespace Go.Proofs.YtkncmbklkhjmgaaGreatDoor
open Go.Ax Go.Ax.Bg Go.Ax.Rt Go.RowKit Go.Ax.Idx Go.Ax.Cd
attribute [local irreducible] Ax zAO QOp zK zAN
theorem zH9 (t : zm) (p : Int) (hT : ShortT t) : zN Tryz.prog 99 [.ro (zf t) 0 t.length, .int .i64 p] (.int .i64 (zFY t p)) := by
 have cc := zCg t hT
 refine zK.value0 (zC (P := Tryz.prog) (fn := Tryz.f99) Y Y (by kernel_rfl) Y (fun c hR hfix => ?_)) (fix := fun _ => False) (fun _ h => h) Y Y
 unfold zFY at hR
 refine rn0 ?_
 refine zA Y Y Y cc ?_
 refine rn3 ?_
 refine zB Y (fun h1 => ?_) (fun h1 => ?_)
 ·rw [if_pos h1] at hR
  refine rn2 ?_
  exact zE hR Y Y
 rw [if_neg h1] at hR
 refine rn3 ?_
 refine zW Y Y (fun g1 => ?_) (fun g1 => ?_)
 ·refine rn3 ?_
  refine zB Y (fun g2 => ?_) (fun g2 => ?_)
  ·rw [if_pos ⟨g1, g2⟩] at hR
   refine rn2 ?_
   exact zE hR Y Y
  ·rw [if_neg (fun q => g2 q.2)] at hR
   refine rn1 ?_
   exact zE hR Y Y
 ·rw [if_neg (fun q => g1 q.1)] at hR
  refine rn6 ?_
  exact zE hR Y Y
theorem zKF (l : zm) (g : FuncId) (caps : List AV) (p : TNode → Bool) (hc : noRef.noRefs caps = true) (hlen : l.length ≤ 9223372036854775807) (hp : ∀ x ∈ l, zN Tryz.prog g ([.agg (ze x)] ++ caps) (.bool (p x))) :
 zN Tryz.prog 188 [.ro (zf l) 0 l.length, .fn g caps] (.int .i64 (zCK p l)) := by
 refine zK.value0 (zC (P := Tryz.prog) (fn := Tryz.f188) Y Y (by kernel_rfl) Y (fun c hR hfix => ?_)) (fix := fun _ => False) (fun _ h => h) (by simp [noRef.noRefs, noRef, hc]) Y
 refine rn3 ?_
 refine zY (ι := Nat) (fun k => [(0, .ro (zf l) 0 l.length), (1, .fn g caps), (7, .int .i64 (l.length : Nat)), (8, .int .i64 (k : Nat))]) (fun _ => [])
  (fun k => k ≤ l.length ∧ (l.take k).any p = false) (fun k => l.length - k) 0 ⟨⟨rfl, rfl, rfl, rfl, trivial⟩, rfl, Nat.zero_le _, rfl⟩ ?_
 intro k ⟨hk, hany⟩
 refine rn4 ?_
 refine zB Y (fun h => ?_) (fun h => ?_)
 ·have hk' : k < l.length := by omega
  have hanys := zBV p l zQ k hk'
  refine rn6 ?_
  refine zG 15 (.agg (ze (l.getD k zQ))) Y (AEq.of_eq Y) ?_
  refine zA Y Y Y (hp _ (zAx zQ hk')) ?_
  refine rn0 ?_
  refine zDA Y (fun h2 => ?_) (fun h2 => ?_)
  ·refine rn6 ?_
   refine zE hR Y ?_
   have := zBA p l k hany hk
   rw [zA9 l zQ k hk'] at this
   simp only [zCK, h2, if_true] at this
   rw [this]; simp [zAX]
  ·refine rn5 ?_
   refine zM ⟨k + 1, ⟨by omega, by rw [hanys, hany, h2]; rfl⟩, by omega, ⟨Y, Y, Y, Y, trivial⟩, Y⟩
 ·have hk' : k = l.length := by omega
  subst hk'
  refine rn5 ?_
  refine zE hR Y ?_
  have := zBA p l l.length hany hk
  rw [List.drop_length] at this
  rw [this]; rfl
theorem sets1_ok (n : TNode) (p i : Int) : zN Tryz.prog 191 [.agg (ze n), .rp (.box [.int .i64 p]) 0 0, .rp (.box [.int .i64 i]) 0 0] (.bool (zDX p i n)) := by
 obtain ⟨kd, pl, nf, nx, od, py⟩ := n
 refine zK.value0 (zC (P := Tryz.prog) (fn := Tryz.f191) Y Y (by kernel_rfl) Y (fun c hR hfix => ?_)) (fix := fun _ => False) (fun _ h => h) Y Y
 unfold zDX own at hR
 unfold ze
 simp only at hR ⊢
 refine rn6 ?_
 refine zW Y Y (fun g1 => ?_) (fun g1 => ?_)
 ·rw [decide_eq_true g1, Bool.true_and] at hR
  refine rn8 ?_
  refine zW Y Y (fun g2 => ?_) (fun g2 => ?_)
  ·rw [decide_eq_true g2, Bool.true_and] at hR
   refine rn8 ?_
   exact zE hR Y Y
  ·rw [decide_eq_false g2, Bool.false_and] at hR
   refine rn6 ?_
   exact zE hR Y Y
 ·rw [decide_eq_false g1, Bool.false_and, Bool.false_and] at hR
  refine rn6 ?_
  exact zE hR Y Y
theorem refl4 {o1 o2 o3 o4 : AObj} (h1 : zj o1.c) (h2 : zj o2.c) (h3 : zj o3.c) (h4 : zj o4.c) : ∀ (h : Nat) (o : AObj), ([some o1, some o2, some o3, some o4] : zH)[h]? = some (some o) → zj o.c := by
 intro h o ho
 match h, ho with
 | 0, ho => cases ho; exact h1
 | 1, ho => cases ho; exact h2
 | 2, ho => cases ho; exact h3
 | 3, ho => cases ho; exact h4
 | _ + 4, ho => simp at ho
theorem below3 {n : Nat} {o1 o2 o3 : AObj} (h1 : zBI n o1.c) (h2 : zBI n o2.c) (h3 : zBI n o3.c) : ∀ (h : Nat) (o : AObj), ([some o1, some o2, some o3] : zH)[h]? = some (some o) → zBI n o.c := by
 intro h o ho
 match h, ho with
 | 0, ho => cases ho; exact h1
 | 1, ho => cases ho; exact h2
 | 2, ho => cases ho; exact h3
 | _ + 3, ho => simp at ho
theorem zBz (k : IntKind) (l : List Int) (n : Nat) : zBI n (.ints k l) := fun _ _ _ _ => rfl
theorem zGi (x : Int) (n : Nat) : zBI n (.box [.int .i64 x]) := by
 intro i j _ hj
 obtain rfl : j = 0 := by have hj : j < 1 := hj; omega
 rfl
theorem sets_ok (t : zm) (p : Int) (hlen : t.length ≤ 9223372036854775807) : zN Tryz.prog 119 [.ro (zf t) 0 t.length, .int .i64 p] (.tup [.ro (.ints .i64 (zEi t p)) 0 (zEi t p).length, .ro (.ints .i64 (zGa t p)) 0 (zGa t p).length]) := by
 refine zK.value0 (zC (P := Tryz.prog) (fn := Tryz.f119) Y Y (by kernel_rfl) Y (fun c hR hfix => ?_)) (fix := fun _ => False) (fun _ h => h) Y Y
 rw [← zKG, ← zKl] at hR
 refine zHD ?_
 refine zBN 6 ⟨3, .ints .i64 []⟩ Y Y ?_
 refine zBN 7 ⟨3, .ints .i64 []⟩ Y Y ?_
 repeat (refine zt ?_)
 refine zY (ι := Nat) (fun k => [(0, .ro (zf t) 0 t.length), (3, .ptr 0 0 0), (6, .sl 1 0 (zAj t p k).length), (7, .sl 2 0 (zAj t p k).length), (10, .int .i64 (k : Nat))]) (fun k => [some ⟨3, .box [.int .i64 p]⟩, some ⟨3, .ints .i64 (zAj t p k)⟩, some ⟨3, .ints .i64 (zB9 t p k)⟩])
  (fun k => k ≤ 10) (fun k => 10 - k) 0 ⟨⟨rfl, rfl, rfl, rfl, rfl, trivial⟩, rfl, Nat.zero_le _⟩ ?_
 intro k hk
 refine rn4 ?_
 refine zB Y (fun h => ?_) (fun h => ?_)
 ·have hk' : k < 10 := by omega
  have ci := zKF t 191 [.rp (.box [.int .i64 p]) 0 0, .rp (.box [.int .i64 (k : Nat)]) 0 0] (zDX p (k : Int)) rfl hlen (fun n _ => sets1_ok n p k)
  have is := zGI t p k
  have ss := zJi t p k
  have hll := zKH t p k
  have hsl := zHH t p k
  generalize hI2 : zAj t p (k + 1) = I2 at *
  generalize hS2 : zB9 t p (k + 1) = S2 at *
  generalize zAj t p k = I at *
  generalize zB9 t p k = S at *
  refine rn18 ?_
  refine zAu [some ⟨3, .box [.int .i64 p]⟩, some ⟨3, .ints .i64 I⟩, some ⟨3, .ints .i64 S⟩, some ⟨3, .box [.int .i64 (k : Nat)]⟩] Y ?_
  refine zG 8 (.ptr 3 0 0) Y (AEq.of_eq Y) ?_
  refine zG 14 (.fn 191 [.ptr 0 0 0, .ptr 3 0 0]) Y (AEq.of_eq Y) ?_
  refine zFI rfl rfl rfl rfl ci (refl4 (o1 := ⟨3, .box [.int .i64 p]⟩) (o2 := ⟨3, .ints .i64 I⟩) (o3 := ⟨3, .ints .i64 S⟩) (o4 := ⟨3, .box [.int .i64 (k : Nat)]⟩) (boxIU _) zl zl (boxIU _)) ⟨trivial, ⟨fun o ho => by simp at ho; subst ho; exact Nat.zero_lt_one, fun o ho => by simp at ho; subst ho; exact Nat.zero_lt_one, trivial⟩, trivial⟩ rfl rfl rfl ?_
  cases hany : t.any (zDX p (k : Int))
  ·rw [hany, if_neg (by decide)] at is ss
   rw [zL2 _ _ hany]
   refine zCM ?_
   refine zO ?_
   refine zBa [some ⟨3, .box [.int .i64 p]⟩, some ⟨3, .ints .i64 I⟩, some ⟨3, .ints .i64 S⟩] [some ⟨3, .box [.int .i64 (k : Nat)]⟩] [(0, .ro (zf t) 0 t.length), (3, .ptr 0 0 0), (6, .sl 1 0 I.length), (7, .sl 2 0 I.length), (9, .int .i64 (-1)), (10, .int .i64 (k : Nat))] Y ⟨Y, Y, Y, Y, Y, Y, trivial⟩ (fun h hh => by rw [hfix] at hh; exact absurd hh id) (below3 (zGi _ _) (zBz _ _ _) (zBz _ _ _)) Y ?_
   refine zHC ?_
   exact zM ⟨k + 1, by omega, by omega, ⟨Y, Y, by rw [hI2, is]; rfl, by rw [hI2, is]; rfl, Y, trivial⟩, by rw [hI2, hS2, is, ss]⟩
  ·rw [hany, if_pos rfl] at is ss
   have hfl := zJ5 hany
   rw [zHw _ _ hany]
   have hw : zCd t p (k : Int) = (t.getD (t.findIdx (zDX p (k : Int))) zQ).next.length := rfl
   have hfl : t.findIdx (zDX p (k : Int)) < t.length := hfl
   generalize zCd t p (k : Int) = wd at *
   generalize t.findIdx (zDX p (k : Int)) = f at *
   refine zHC ?_
   refine zz (by kernel_rfl) ?_
   refine zI 0 Y (by kernel_rfl) (by kernel_rfl) (by kernel_rfl) Y (zU Y) Y ?_
   refine zI 4 Y (by kernel_rfl) (by kernel_rfl) (by kernel_rfl) Y (zU Y) Y ?_
   refine zI 5 Y (by kernel_rfl) (by kernel_rfl) (by kernel_rfl) Y (zU Y) Y ?_
   refine zI 6 Y (by kernel_rfl) (by kernel_rfl) (by kernel_rfl) Y (zU Y) Y ?_
   refine zI 7 Y (by kernel_rfl) (by kernel_rfl) (by kernel_rfl) Y (zx Y Y Y Y (by first | (simp only [Nat.zero_add, Int.toNat_natCast, Int.toNat_zero]; exact Y) | exact Y) (by omega)) Y ?_
   refine zI 8 Y (by kernel_rfl) (by kernel_rfl) (by kernel_rfl) Y (zCz Y Y Y Y Y Y) Y ?_
   apply zBf (H := [some ⟨3, .box [.int .i64 p]⟩, some ⟨3, .ints .i64 (I ++ [(k : Int)])⟩, some ⟨3, .ints .i64 (S ++ [(wd : Int)])⟩, some ⟨3, .box [.int .i64 (k : Nat)]⟩]) [(0, .ro (zf t) 0 t.length), (3, .ptr 0 0 0), (6, .sl 1 0 (I.length + 1)), (7, .sl 2 0 (I.length + 1)), (10, .int .i64 (k : Nat))]
   ·intro fin2
    subst hw
    refine zD (is := [1, 9]) (by kernel_rfl) (by simp) Y ⟨fun o ho => ?_, fun o ho => ?_, trivial⟩
    all_goals (cases ho)
    ·refine rn4 ?_
     refine zD (is := [2, 9]) (by kernel_rfl) (by simp) Y ⟨fun o ho => ?_, fun o ho => ?_, trivial⟩
     all_goals (cases ho)
     ·refine rn3 ?_
      refine zD (is := [3, 9]) (by kernel_rfl) (by simp) Y ⟨fun o ho => ?_, fun o ho => ?_, trivial⟩
      all_goals (cases ho)
      ·refine zS Y Y Y Y Y Y Y Y Y Y Y Y (by show 0 + 1 ≤ 1; omega) Y (by show (I.length + 1) * 8 ≤ _ ∧ _; omega) (fun i j _ _ => rfl) (by rw [hfix]; exact fun h => h) ?_
       refine rn1 ?_
       refine zD (is := [9]) (by kernel_rfl) (by simp) Y ⟨fun o ho => ?_, trivial⟩
       all_goals (cases ho)
       refine rn6 ?_
       refine zI 10 Y (by kernel_rfl) (by kernel_rfl) (by kernel_rfl) Y (zBi Y Y Y) Y ?_
       refine zD (is := [11]) (by kernel_rfl) (by simp) Y ⟨fun o ho => ?_, trivial⟩
       all_goals (cases ho)
       refine rn3 ?_
       refine zD (is := [12]) (by kernel_rfl) (by simp) Y ⟨fun o ho => ?_, trivial⟩
       all_goals (cases ho)
       refine zS Y Y Y Y Y Y Y Y Y hsl Y Y (by show 0 + 1 ≤ 1; omega) Y (by show (I.length + 1) * 8 ≤ _ ∧ _; omega) (fun i j _ _ => rfl) (by rw [hfix]; exact fun h => h) ?_
       refine rn1 ?_
       refine zI 13 Y (by kernel_rfl) (by kernel_rfl) (by kernel_rfl) Y (zT Y) Y ?_
       refine zI 14 Y (by kernel_rfl) (by kernel_rfl) (by kernel_rfl) Y (zT Y) Y ?_
       exact fin2 _ ⟨Y, Y, Y, Y, Y, trivial⟩
      ·refine rn6 ?_
       refine zI 10 Y (by kernel_rfl) (by kernel_rfl) (by kernel_rfl) Y (zBi Y Y Y) Y ?_
       refine zD (is := [3, 11]) (by kernel_rfl) (by simp) Y ⟨fun o ho => ?_, fun o ho => ?_, trivial⟩
       all_goals (cases ho)
       ·refine zS Y Y Y Y Y Y Y Y Y Y Y Y (by show 0 + 1 ≤ 1; omega) Y (by show (I.length + 1) * 8 ≤ _ ∧ _; omega) (fun i j _ _ => rfl) (by rw [hfix]; exact fun h => h) ?_
        refine rn1 ?_
        refine zD (is := [11]) (by kernel_rfl) (by simp) Y ⟨fun o ho => ?_, trivial⟩
        all_goals (cases ho)
        refine rn3 ?_
        refine zD (is := [12]) (by kernel_rfl) (by simp) Y ⟨fun o ho => ?_, trivial⟩
        all_goals (cases ho)
        refine zS Y Y Y Y Y Y Y Y Y hsl Y Y (by show 0 + 1 ≤ 1; omega) Y (by show (I.length + 1) * 8 ≤ _ ∧ _; omega) (fun i j _ _ => rfl) (by rw [hfix]; exact fun h => h) ?_
        refine rn1 ?_
        refine zI 13 Y (by kernel_rfl) (by kernel_rfl) (by kernel_rfl) Y (zT Y) Y ?_
        refine zI 14 Y (by kernel_rfl) (by kernel_rfl) (by kernel_rfl) Y (zT Y) Y ?_
        exact fin2 _ ⟨Y, Y, Y, Y, Y, trivial⟩
       ·refine rn3 ?_
        refine zD (is := [3]) (by kernel_rfl) (by simp) Y ⟨fun o ho => ?_, trivial⟩
        all_goals (cases ho)
        refine zS Y Y Y Y Y Y Y Y Y Y Y Y (by show 0 + 1 ≤ 1; omega) Y (by show (I.length + 1) * 8 ≤ _ ∧ _; omega) (fun i j _ _ => rfl) (by rw [hfix]; exact fun h => h) ?_
        refine rn1 ?_
        refine zD (is := [12]) (by kernel_rfl) (by simp) Y ⟨fun o ho => ?_, trivial⟩
        all_goals (cases ho)
        refine zS Y Y Y Y Y Y Y Y Y hsl Y Y (by show 0 + 1 ≤ 1; omega) Y (by show (I.length + 1) * 8 ≤ _ ∧ _; omega) (fun i j _ _ => rfl) (by rw [hfix]; exact fun h => h) ?_
        refine rn1 ?_
        refine zI 13 Y (by kernel_rfl) (by kernel_rfl) (by kernel_rfl) Y (zT Y) Y ?_
        refine zI 14 Y (by kernel_rfl) (by kernel_rfl) (by kernel_rfl) Y (zT Y) Y ?_
        exact fin2 _ ⟨Y, Y, Y, Y, Y, trivial⟩
     ·refine rn6 ?_
      refine zI 10 Y (by kernel_rfl) (by kernel_rfl) (by kernel_rfl) Y (zBi Y Y Y) Y ?_
      refine zD (is := [2, 11]) (by kernel_rfl) (by simp) Y ⟨fun o ho => ?_, fun o ho => ?_, trivial⟩
      all_goals (cases ho)
      ·refine rn3 ?_
       refine zD (is := [3, 11]) (by kernel_rfl) (by simp) Y ⟨fun o ho => ?_, fun o ho => ?_, trivial⟩
       all_goals (cases ho)
       ·refine zS Y Y Y Y Y Y Y Y Y Y Y Y (by show 0 + 1 ≤ 1; omega) Y (by show (I.length + 1) * 8 ≤ _ ∧ _; omega) (fun i j _ _ => rfl) (by rw [hfix]; exact fun h => h) ?_
        refine rn1 ?_
        refine zD (is := [11]) (by kernel_rfl) (by simp) Y ⟨fun o ho => ?_, trivial⟩
        all_goals (cases ho)
        refine rn3 ?_
        refine zD (is := [12]) (by kernel_rfl) (by simp) Y ⟨fun o ho => ?_, trivial⟩
        all_goals (cases ho)
        refine zS Y Y Y Y Y Y Y Y Y hsl Y Y (by show 0 + 1 ≤ 1; omega) Y (by show (I.length + 1) * 8 ≤ _ ∧ _; omega) (fun i j _ _ => rfl) (by rw [hfix]; exact fun h => h) ?_
        refine rn1 ?_
        refine zI 13 Y (by kernel_rfl) (by kernel_rfl) (by kernel_rfl) Y (zT Y) Y ?_
        refine zI 14 Y (by kernel_rfl) (by kernel_rfl) (by kernel_rfl) Y (zT Y) Y ?_
        exact fin2 _ ⟨Y, Y, Y, Y, Y, trivial⟩
       ·refine rn3 ?_
        refine zD (is := [3]) (by kernel_rfl) (by simp) Y ⟨fun o ho => ?_, trivial⟩
        all_goals (cases ho)
        refine zS Y Y Y Y Y Y Y Y Y Y Y Y (by show 0 + 1 ≤ 1; omega) Y (by show (I.length + 1) * 8 ≤ _ ∧ _; omega) (fun i j _ _ => rfl) (by rw [hfix]; exact fun h => h) ?_
        refine rn1 ?_
        refine zD (is := [12]) (by kernel_rfl) (by simp) Y ⟨fun o ho => ?_, trivial⟩
        all_goals (cases ho)
        refine zS Y Y Y Y Y Y Y Y Y hsl Y Y (by show 0 + 1 ≤ 1; omega) Y (by show (I.length + 1) * 8 ≤ _ ∧ _; omega) (fun i j _ _ => rfl) (by rw [hfix]; exact fun h => h) ?_
        refine rn1 ?_
        refine zI 13 Y (by kernel_rfl) (by kernel_rfl) (by kernel_rfl) Y (zT Y) Y ?_
        refine zI 14 Y (by kernel_rfl) (by kernel_rfl) (by kernel_rfl) Y (zT Y) Y ?_
        exact fin2 _ ⟨Y, Y, Y, Y, Y, trivial⟩
      ·refine rn3 ?_
       refine zD (is := [2]) (by kernel_rfl) (by simp) Y ⟨fun o ho => ?_, trivial⟩
       all_goals (cases ho)
       refine rn3 ?_
       refine zD (is := [3]) (by kernel_rfl) (by simp) Y ⟨fun o ho => ?_, trivial⟩
       all_goals (cases ho)
       refine zS Y Y Y Y Y Y Y Y Y Y Y Y (by show 0 + 1 ≤ 1; omega) Y (by show (I.length + 1) * 8 ≤ _ ∧ _; omega) (fun i j _ _ => rfl) (by rw [hfix]; exact fun h => h) ?_
       refine rn1 ?_
       refine zD (is := [12]) (by kernel_rfl) (by simp) Y ⟨fun o ho => ?_, trivial⟩
       all_goals (cases ho)
       refine zS Y Y Y Y Y Y Y Y Y hsl Y Y (by show 0 + 1 ≤ 1; omega) Y (by show (I.length + 1) * 8 ≤ _ ∧ _; omega) (fun i j _ _ => rfl) (by rw [hfix]; exact fun h => h) ?_
       refine rn1 ?_
       refine zI 13 Y (by kernel_rfl) (by kernel_rfl) (by kernel_rfl) Y (zT Y) Y ?_
       refine zI 14 Y (by kernel_rfl) (by kernel_rfl) (by kernel_rfl) Y (zT Y) Y ?_
       exact fin2 _ ⟨Y, Y, Y, Y, Y, trivial⟩
    ·refine rn6 ?_
     refine zI 10 Y (by kernel_rfl) (by kernel_rfl) (by kernel_rfl) Y (zBi Y Y Y) Y ?_
     refine zD (is := [1, 11]) (by kernel_rfl) (by simp) Y ⟨fun o ho => ?_, fun o ho => ?_, trivial⟩
     all_goals (cases ho)
     ·refine rn4 ?_
      refine zD (is := [2, 11]) (by kernel_rfl) (by simp) Y ⟨fun o ho => ?_, fun o ho => ?_, trivial⟩
      all_goals (cases ho)
      ·refine rn3 ?_
       refine zD (is := [3, 11]) (by kernel_rfl) (by simp) Y ⟨fun o ho => ?_, fun o ho => ?_, trivial⟩
       all_goals (cases ho)
       ·refine zS Y Y Y Y Y Y Y Y Y Y Y Y (by show 0 + 1 ≤ 1; omega) Y (by show (I.length + 1) * 8 ≤ _ ∧ _; omega) (fun i j _ _ => rfl) (by rw [hfix]; exact fun h => h) ?_
        refine rn1 ?_
        refine zD (is := [11]) (by kernel_rfl) (by simp) Y ⟨fun o ho => ?_, trivial⟩
        all_goals (cases ho)
        refine rn3 ?_
        refine zD (is := [12]) (by kernel_rfl) (by simp) Y ⟨fun o ho => ?_, trivial⟩
        all_goals (cases ho)
        refine zS Y Y Y Y Y Y Y Y Y hsl Y Y (by show 0 + 1 ≤ 1; omega) Y (by show (I.length + 1) * 8 ≤ _ ∧ _; omega) (fun i j _ _ => rfl) (by rw [hfix]; exact fun h => h) ?_
        refine rn1 ?_
        refine zI 13 Y (by kernel_rfl) (by kernel_rfl) (by kernel_rfl) Y (zT Y) Y ?_
        refine zI 14 Y (by kernel_rfl) (by kernel_rfl) (by kernel_rfl) Y (zT Y) Y ?_
        exact fin2 _ ⟨Y, Y, Y, Y, Y, trivial⟩
       ·refine rn3 ?_
        refine zD (is := [3]) (by kernel_rfl) (by simp) Y ⟨fun o ho => ?_, trivial⟩
        all_goals (cases ho)
        refine zS Y Y Y Y Y Y Y Y Y Y Y Y (by show 0 + 1 ≤ 1; omega) Y (by show (I.length + 1) * 8 ≤ _ ∧ _; omega) (fun i j _ _ => rfl) (by rw [hfix]; exact fun h => h) ?_
        refine rn1 ?_
        refine zD (is := [12]) (by kernel_rfl) (by simp) Y ⟨fun o ho => ?_, trivial⟩
        all_goals (cases ho)
        refine zS Y Y Y Y Y Y Y Y Y hsl Y Y (by show 0 + 1 ≤ 1; omega) Y (by show (I.length + 1) * 8 ≤ _ ∧ _; omega) (fun i j _ _ => rfl) (by rw [hfix]; exact fun h => h) ?_
        refine rn1 ?_
        refine zI 13 Y (by kernel_rfl) (by kernel_rfl) (by kernel_rfl) Y (zT Y) Y ?_
        refine zI 14 Y (by kernel_rfl) (by kernel_rfl) (by kernel_rfl) Y (zT Y) Y ?_
        exact fin2 _ ⟨Y, Y, Y, Y, Y, trivial⟩
      ·refine rn3 ?_
       refine zD (is := [2]) (by kernel_rfl) (by simp) Y ⟨fun o ho => ?_, trivial⟩
       all_goals (cases ho)
       refine rn3 ?_
       refine zD (is := [3]) (by kernel_rfl) (by simp) Y ⟨fun o ho => ?_, trivial⟩
       all_goals (cases ho)
       refine zS Y Y Y Y Y Y Y Y Y Y Y Y (by show 0 + 1 ≤ 1; omega) Y (by show (I.length + 1) * 8 ≤ _ ∧ _; omega) (fun i j _ _ => rfl) (by rw [hfix]; exact fun h => h) ?_
       refine rn1 ?_
       refine zD (is := [12]) (by kernel_rfl) (by simp) Y ⟨fun o ho => ?_, trivial⟩
       all_goals (cases ho)
       refine zS Y Y Y Y Y Y Y Y Y hsl Y Y (by show 0 + 1 ≤ 1; omega) Y (by show (I.length + 1) * 8 ≤ _ ∧ _; omega) (fun i j _ _ => rfl) (by rw [hfix]; exact fun h => h) ?_
       refine rn1 ?_
       refine zI 13 Y (by kernel_rfl) (by kernel_rfl) (by kernel_rfl) Y (zT Y) Y ?_
       refine zI 14 Y (by kernel_rfl) (by kernel_rfl) (by kernel_rfl) Y (zT Y) Y ?_
       exact fin2 _ ⟨Y, Y, Y, Y, Y, trivial⟩
     ·refine rn3 ?_
      refine zD (is := [1]) (by kernel_rfl) (by simp) Y ⟨fun o ho => ?_, trivial⟩
      all_goals (cases ho)
      refine rn4 ?_
      refine zD (is := [2]) (by kernel_rfl) (by simp) Y ⟨fun o ho => ?_, trivial⟩
      all_goals (cases ho)
      refine rn3 ?_
      refine zD (is := [3]) (by kernel_rfl) (by simp) Y ⟨fun o ho => ?_, trivial⟩
      all_goals (cases ho)
      refine zS Y Y Y Y Y Y Y Y Y Y Y Y (by show 0 + 1 ≤ 1; omega) Y (by show (I.length + 1) * 8 ≤ _ ∧ _; omega) (fun i j _ _ => rfl) (by rw [hfix]; exact fun h => h) ?_
      refine rn1 ?_
      refine zD (is := [12]) (by kernel_rfl) (by simp) Y ⟨fun o ho => ?_, trivial⟩
      all_goals (cases ho)
      refine zS Y Y Y Y Y Y Y Y Y hsl Y Y (by show 0 + 1 ≤ 1; omega) Y (by show (I.length + 1) * 8 ≤ _ ∧ _; omega) (fun i j _ _ => rfl) (by rw [hfix]; exact fun h => h) ?_
      refine rn1 ?_
      refine zI 13 Y (by kernel_rfl) (by kernel_rfl) (by kernel_rfl) Y (zT Y) Y ?_
      refine zI 14 Y (by kernel_rfl) (by kernel_rfl) (by kernel_rfl) Y (zT Y) Y ?_
      exact fin2 _ ⟨Y, Y, Y, Y, Y, trivial⟩
   ·refine zr (by kernel_rfl) ?_
    repeat (refine zAU ?_)
    refine zO ?_
    refine zBa [some ⟨3, .box [.int .i64 p]⟩, some ⟨3, .ints .i64 (I ++ [(k : Int)])⟩, some ⟨3, .ints .i64 (S ++ [(wd : Int)])⟩] [some ⟨3, .box [.int .i64 (k : Nat)]⟩] [(0, .ro (zf t) 0 t.length), (3, .ptr 0 0 0), (6, .sl 1 0 (I.length + 1)), (7, .sl 2 0 (I.length + 1)), (10, .int .i64 (k : Nat))] Y ⟨Y, Y, Y, Y, Y, trivial⟩ (fun h hh => by rw [hfix] at hh; exact absurd hh id) (below3 (zGi _ _) (zBz _ _ _) (zBz _ _ _)) Y ?_
    refine rn3 ?_
    have il : I2.length = I.length + 1 := by rw [is, List.length_append]; rfl
    exact zM ⟨k + 1, by omega, by omega, ⟨Y, Y, by rw [hI2, il]; rfl, by rw [hI2, il]; rfl, Y, trivial⟩, by rw [hI2, hS2, is, ss]⟩
 ·have hke10 : k = 10 := by omega
  subst hke10
  have hsl := zHH t p 10
  refine zDc ?_
  refine zAb 1 6 (zAj t p 10).length [(7, .sl 2 0 (zAj t p 10).length)] Y zl Y (by show (zAj t p 10).length ≤ (zAj t p 10).length; exact Nat.le_refl _) ⟨Y, trivial⟩ ?_
  refine zAb 2 7 (zAj t p 10).length [(6, .ro (.ints .i64 (zAj t p 10)) 0 (zAj t p 10).length)] Y zl Y (by show (zAj t p 10).length ≤ (zB9 t p 10).length; omega) ⟨Y, trivial⟩ ?_
  refine zAS 7 (.ro (.ints .i64 (zB9 t p 10)) 0 (zB9 t p 10).length) Y (AEq.of_eq (by rw [hsl])) ?_
  refine rn0 ?_
  exact zE hR Y Y
end Go.Proofs.YtkncmbklkhjmgaaGreatDoor
namespace Go.Ax.Cd
open Go.Ax.Idx
end Go.Ax.Cd
namespace Go.Ax.Cd
open Go.Ax.Idx
end Go.Ax.Cd
namespace Go.Ax.Cd
open Go.Ax.Idx
theorem zBc (y : List UInt8) (q : List (List UInt8)) (b : UInt8) : Lib.joinTail [b] (y :: q) = b :: Lib.join (y :: q) [b] := by
 rw [Lib.join_cons]; simp [Lib.joinTail]
theorem zGv (b : UInt8) (s : List UInt8) : Lib.join (zh b s) [b] = s := by
 induction s with
 | nil => rw [zh, Lib.join_one]
 | cons x r ih =>
  simp only [zh]
  cases hq : zh b r with
  | nil => exact absurd hq (zDe b r)
  | cons y q =>
   rw [hq] at ih
   by_cases h : x = b
   ·rw [if_pos h, Lib.join_cons, zBc, ih, h]; rfl
   ·rw [if_neg h]
    simp only
    rw [Lib.join_cons] at ih ⊢
    rw [List.cons_append, ih]
theorem zJk (b : UInt8) (w s : List UInt8) (h : b ∉ w) : zh b (w ++ b :: s) = w :: zh b s := by
 induction w with
 | nil => simp [zh]
 | cons x r ih =>
  have hx : ¬ x = b := fun e => h (by simp [e])
  have := ih (fun hm => h (by simp [hm]))
  simp only [List.cons_append, zh, hx, if_false, this]
theorem zJj (b : UInt8) (w : List UInt8) (h : b ∉ w) : zh b w = [w] := by
 induction w with
 | nil => rfl
 | cons x r ih =>
  have hx : ¬ x = b := fun e => h (by simp [e])
  have := ih (fun hm => h (by simp [hm]))
  simp only [zh, hx, if_false, this]
theorem zHK (b : UInt8) (ls : List (List UInt8)) (hne : ls ≠ []) (h : ∀ w ∈ ls, b ∉ w) : zh b (Lib.join ls [b]) = ls := by
 induction ls with
 | nil => exact absurd rfl hne
 | cons x r ih =>
  rw [Lib.join_cons]
  cases r with
  | nil =>
   have : Lib.joinTail [b] [] = [] := rfl
   rw [this, List.append_nil]; exact zJj b x (h x (by simp))
  | cons y q =>
   rw [zBc, zJk b x _ (h x (by simp)), ih (by simp) (fun w hw => h w (by simp [hw]))]
end Go.Ax.Cd
namespace Go.Ax.Sx
open Go.Ax.Dt
structure St where
 rows : Tab
 den : Int
 basis : List Nat
/-- the row that leaves -/
def zIL (T : Tab) (β : List Nat) (c e k b : Nat) : Prop := at2 T k e * at2 T b c < at2 T b e * at2 T k c ∨ at2 T k e * at2 T b c = at2 T b e * at2 T k c ∧ β.getD k 0 < β.getD b 0
instance (T : Tab) (β : List Nat) (c e k b : Nat) : Decidable (zIL T β c e k b) := by unfold zIL; infer_instance
section
variable {m N : Nat} {M : Tab} {s : Nat → St} {c r : Nat → Nat}
end
end Go.Ax.Sx
namespace Go.Ax.Sx
open Go.Ax.Dt
end Go.Ax.Sx
namespace Go.Ax.Sx
open Go.Ax.Dt Go.Ax.Rt Go.Ax.Bg
/-- the first conditions that need an artificial unknown -/
def needN (B : List Rat) : Nat → List Nat
 | 0 => []
 | k + 1 => if (B.getD k 0).num < 0 then needN B k ++ [k] else needN B k
abbrev artI (B : List Rat) (i : Nat) : Nat := (needN B i).length
abbrev artN (B : List Rat) : Nat := artI B B.length
/-- a linear program: the conditions, the right sides, and the costs -/
structure Prog where
 A : List (List Rat)
 B : List Rat
 C : List Rat
abbrev Prog.n (p : Prog) : Nat := p.C.length
abbrev Prog.m (p : Prog) : Nat := p.B.length
abbrev Prog.a (p : Prog) : Nat := artN p.B
abbrev Prog.N (p : Prog) : Nat := p.C.length + p.B.length + artN p.B
section
variable {m N w : Nat} {M : Tab} {s : St}
end
section
variable {m N w : Nat} {M : Tab} {s : St}
end
end Go.Ax.Sx
namespace Go.Ax.Sx
open Go.Ax.Dt Go.Ax.Rt Go.Ax.Bg
section
variable {p : Prog} {k : Nat → Int} {s : St}
end
end Go.Ax.Sx
namespace Go.Ax.Sx
open Go.Ax.Dt Go.Ax.Rt Go.Ax.Bg
def Prog.E (p : Prog) (k : Nat) : Nat := k + k * (p.n + 1)
def Prog.T (p : Prog) (k : Nat) : Nat := (p.E k + 2) * (p.m + 1)
def Prog.W (p : Prog) (k : Nat) : Nat := p.T k + 2 + 2 * (k * (p.n + 1))
section
variable {p : Prog} {k : Nat}
end
end Go.Ax.Sx
namespace Go.Ax.Sx
open Go.Ax.Dt Go.Ax.Rt Go.Ax.Bg
section
variable {p : Prog}
end
section
variable {p : Prog}
end
end Go.Ax.Sx
namespace Go.Ax.Sx
open Go.Ax.Dt Go.Ax.Rt Go.Ax.Bg
structure Prob where
 A : List (List zc)
 B : List zc
 C : List zc
def Prob.prog (P : Prob) : Prog := ⟨inM P.A, P.B.map zAl, P.C.map zAl⟩
/-- the form of a result -/
def lensP (P : Prob) (k x y r : Nat) : Prop := x = (if k = 1 then 0 else P.C.length) ∧ y = (if k = 2 then 0 else P.B.length) ∧ r = (if k = 2 then P.C.length else 0)
instance (P : Prob) (k x y r : Nat) : Decidable (lensP P k x y r) := inferInstanceAs (Decidable (_ ∧ _))
def zLQ (l : List Rat) : Bool := l.all (fun q => decide (0 ≤ q))
theorem zH1 {l : List Rat} {n : Nat} (hl : l.length = n) (h : ∀ j, j < n → 0 ≤ l.getD j 0) : zLQ l = true := by
 unfold zLQ
 rw [List.all_eq_true]
 intro q hq
 obtain ⟨i, hi, rfl⟩ := List.getElem_of_mem hq
 have := h i (by omega)
 rw [zBp 0 hi] at this
 exact decide_eq_true this
section
variable {P : Prob}
theorem text_ne (q : Rat) : zAM q ≠ [] := by
 unfold zAM
 intro h
 have h2 : Lib.decDigits q.num.natAbs = [] := by
  have := (List.append_eq_nil_iff.1 h).2
  exact (List.append_eq_nil_iff.1 this).1
 have h3 := zDT q.num.natAbs
 have h4 : (natE (Lib.decDigits q.num.natAbs)) = 0 ∨ True := .inr trivial
 rw [h2] at h3
 have h5 : q.num.natAbs = 0 := by simpa using h3
 rw [h5, Lib.decDigits_one (by decide)] at h2
 cases h2
end
end Go.Ax.Sx
namespace Go.Ax.Tt
open Go.Ax.Rt Go.Ax.Bg Go.Ax.Cd Go.Ax.Idx Go.Ax.Tb
/-- a number's text: tree.number -/
def zB1 (s : zc) : Option Int := match Lib.atoiAll s with
 | .ok n => if Lib.itoa n = s then some n else none
 | _ => none
theorem zH2 {s : zc} {n : Int} (h : zB1 s = some n) : Lib.itoa n = s := by
 unfold zB1 at h
 split at h
 ·split at h
  ·rename_i m _ h2
   obtain rfl : m = n := by simpa using h
   exact h2
  ·cases h
 ·cases h
theorem zH3 (u : Nat) (h : u < 9223372036854775808) : zB1 (Lib.itoa (u : Int)) = some (u : Int) := by
 unfold zB1
 have e := zIo u h
 rw [itoa_nat, e]
 show (if Lib.itoa (u : Int) = _ then _ else _) = _
 rw [if_pos (itoa_nat u)]
/-- a child with its probability -/
def zCW (w : zc) : Option (Int × zc) := match zB1 (zAR 58 w).1 with
 | some k => if (zAR 58 w).2.1 = [] then none else some (k, (zAR 58 w).2.1)
 | none => none
def zDZ (x : Int × zc) : zc := Lib.itoa x.1 ++ 58 :: x.2
theorem zKS {w : zc} {x : Int × zc} (h : zCW w = some x) : zDZ x = w := by
 unfold zCW at h
 split at h
 ·rename_i k hk
  split at h
  ·cases h
  ·rename_i hne
   obtain rfl : (k, (zAR 58 w).2.1) = x := by simpa using h
   have hf : (zAR 58 w).2.2 = true := by
    cases hb : (zAR 58 w).2.2
    ·exact absurd (zI1 hb) hne
    ·rfl
   have hj := zFx 58 w
   rw [hf] at hj
   show Lib.itoa k ++ 58 :: (zAR 58 w).2.1 = w
   rw [zH2 hk]
   exact hj.symm
 ·cases h
theorem zKT (u : Nat) (h : u < 9223372036854775808) {o : zc} (ho : o ≠ []) : zCW (zDZ ((u : Int), o)) = some ((u : Int), o) := by
 have e : zAR 58 (zDZ ((u : Int), o)) = (Lib.itoa (u : Int), o, true) := zK4 (by rw [itoa_nat]; exact zBQ u 58 (.inr (by decide)))
 unfold zCW
 rw [e, zH3 u h]
 show (if o = [] then none else _) = _
 rw [if_neg ho]
/-- every word, or nothing -/
def zAZ {α : Type} (f : zc → Option α) : List zc → Option (List α)
 | [] => some []
 | w :: r => match f w with
  | some x => (zAZ f r).map (fun l => x :: l)
  | none => none
theorem zEZ {α : Type} {f : zc → Option α} {g : α → zc} (hf : ∀ w x, f w = some x → g x = w) : ∀ {l : List zc} {xs : List α}, zAZ f l = some xs → xs.map g = l
 | [], xs, h => by
  obtain rfl : [] = xs := by simpa [zAZ] using h
  rfl
 | w :: r, xs, h => by
  rw [zAZ] at h
  split at h
  ·rename_i x hx
   cases hr : zAZ f r with
   | none => rw [hr] at h; cases h
   | some l =>
    rw [hr] at h
    obtain rfl : x :: l = xs := by simpa using h
    rw [List.map_cons, hf w x hx, zEZ hf hr]
  ·cases h
theorem zFG {α : Type} {f : zc → Option α} {g : α → zc} : ∀ {xs : List α}, (∀ x ∈ xs, f (g x) = some x) → zAZ f (xs.map g) = some xs
 | [], _ => rfl
 | x :: r, h => by
  rw [List.map_cons, zAZ, h x (List.mem_cons_self ..)]
  show (zAZ f (r.map g)).map _ = _
  rw [zFG (fun y hy => h y (List.mem_cons_of_mem _ hy))]
  rfl
def zEp : zc := [101, 110, 100]
def chW : zc := [99, 104, 97, 110, 99, 101]
def mvW : zc := [109, 111, 118, 101]
/-- tree.read -/
def zCX (l : List zc) : Option TNode :=
 if [] ∈ l then none
 else if l.getD 0 [] = zEp ∧ l.length = 2 then some ⟨0, 0, 0, [], [], l.getD 1 []⟩
 else if l.getD 0 [] = chW then (zAZ zCW (l.drop 1)).map (fun x => ⟨1, 0, 0, x.map Prod.fst, x.map Prod.snd, []⟩)
 else if l.getD 0 [] = mvW ∧ 3 ≤ l.length then (zAZ zB1 (l.drop 1)).map (fun x => ⟨2, x.getD 0 0, x.getD 1 0, x.drop 2, [], []⟩)
 else none
def zBj (s : zc) : Option TNode := zCX (zh 32 s)
/-- tree.line -/
def zu (n : TNode) : List zc :=
 if n.kind = 0 then [zEp, n.pay] else if n.kind = 1 then chW :: (n.next.zip n.odds).map zDZ else mvW :: (n.player :: n.info :: n.next).map Lib.itoa
def zBL (n : TNode) : zc := Lib.join (zu n) [32]
theorem zJq {α β : Type} : ∀ (x : List (α × β)), (x.map Prod.fst).zip (x.map Prod.snd) = x
 | [] => rfl
 | a :: r => by rw [List.map_cons, List.map_cons, List.zip_cons_cons, zJq r]
theorem zHv {l : List zc} (h : l ≠ []) : l = l.getD 0 [] :: l.drop 1 := by
 cases l with
 | nil => exact absurd rfl h
 | cons a r => rfl
theorem zKh {s : zc} {n : TNode} (h : zBj s = some n) : zBL n = s := by
 have hj := zGv 32 s
 have hne := zDe 32 s
 unfold zBj at h
 generalize zh 32 s = l at *
 unfold zCX at h
 split at h
 ·cases h
 split at h
 ·rename_i h1
  obtain rfl := Option.some.inj h
  have e : l = [zEp, l.getD 1 []] := by
   match l, h1 with
   | [a, b], h1 => have := h1.1; simp at this; rw [this]; rfl
  show Lib.join [zEp, l.getD 1 []] [32] = s
  rw [← e]; exact hj
 split at h
 ·rename_i h1
  cases hx : zAZ zCW (l.drop 1) with
  | none => rw [hx] at h; cases h
  | some x =>
   rw [hx] at h
   obtain rfl := Option.some.inj h
   show Lib.join (chW :: ((x.map Prod.fst).zip (x.map Prod.snd)).map zDZ) [32] = s
   rw [zJq, zEZ (fun w x hw => zKS hw) hx, ← h1, ← zHv hne]
   exact hj
 split at h
 ·rename_i h1
  cases hx : zAZ zB1 (l.drop 1) with
  | none => rw [hx] at h; cases h
  | some x =>
   rw [hx] at h
   obtain rfl := Option.some.inj h
   have hb := zEZ (fun w x hw => zH2 hw) hx
   have hl : 2 ≤ x.length := by
    have := congrArg List.length hb
    rw [List.length_map, List.length_drop] at this
    have := h1.2
    omega
   have e : x.getD 0 0 :: x.getD 1 0 :: x.drop 2 = x := by
    match x, hl with
    | a :: b :: r, _ => rfl
   show Lib.join (mvW :: (x.getD 0 0 :: x.getD 1 0 :: x.drop 2).map Lib.itoa) [32] = s
   rw [e, hb, ← h1.1, ← zHv hne]
   exact hj
 ·cases h
structure OkW (w : zc) : Prop where
 ne : w ≠ []
 sp : (32 : UInt8) ∉ w
 nl : (10 : UInt8) ∉ w
theorem zKP (u : Nat) : OkW (Lib.decDigits u) := ⟨zAv u, zBQ u 32 (.inl (by decide)), zBQ u 10 (.inl (by decide))⟩
theorem zJM (u : Nat) : OkW (Lib.itoa (u : Int)) := by rw [itoa_nat]; exact zKP u
theorem zGJ (q : Rat) (b : UInt8) (h1 : b.toNat < 48 ∨ 57 < b.toNat) (h2 : b ≠ 45) (h3 : b ≠ 47) : b ∉ zAM q := by
 unfold zAM
 intro h
 rcases List.mem_append.1 h with h | h
 ·split at h
  ·exact h2 (List.mem_singleton.1 h)
  ·exact absurd h List.not_mem_nil
 ·rcases List.mem_append.1 h with h | h
  ·exact zBQ _ b h1 h
  ·split at h
   ·exact absurd h List.not_mem_nil
   ·rcases List.mem_cons.1 h with h | h
    ·exact h3 h
    ·exact zBQ _ b h1 h
theorem zLT {s : zc} (h : zC7 s = 0) : OkW s := by
 have e := (IsQ.self h).text
 rw [← e]
 exact ⟨Sx.text_ne _, zGJ _ 32 (.inl (by decide)) (by decide) (by decide), zGJ _ 10 (.inl (by decide)) (by decide) (by decide)⟩
theorem okW_pair (u : Nat) {o : zc} (ho : OkW o) : OkW (zDZ ((u : Int), o)) := by
 have h1 := zJM u
 refine ⟨fun e => ?_, fun h => ?_, fun h => ?_⟩
 ·have := (List.append_eq_nil_iff.1 e).2; cases this
 ·rcases List.mem_append.1 h with h | h
  ·exact h1.sp h
  ·rcases List.mem_cons.1 h with h | h
   ·exact absurd h (by decide)
   ·exact ho.sp h
 ·rcases List.mem_append.1 h with h | h
  ·exact h1.nl h
  ·rcases List.mem_cons.1 h with h | h
   ·exact absurd h (by decide)
   ·exact ho.nl h
theorem zJF {c b : UInt8} : ∀ {ws : List zc}, c ∈ Lib.join ws [b] → c = b ∨ ∃ w ∈ ws, c ∈ w
 | [], h => absurd h List.not_mem_nil
 | [w], h => by rw [Lib.join_one] at h; exact .inr ⟨w, List.mem_cons_self .., h⟩
 | w :: y :: r, h => by
  rw [Lib.join_cons, zBc] at h
  rcases List.mem_append.1 h with h | h
  ·exact .inr ⟨w, List.mem_cons_self .., h⟩
  ·rcases List.mem_cons.1 h with h | h
   ·exact .inl h
   ·rcases zJF h with h | ⟨v, hv, hc⟩
    ·exact .inl h
    ·exact .inr ⟨v, List.mem_cons_of_mem _ hv, hc⟩
theorem line_nl {n : TNode} (h : ∀ w ∈ zu n, OkW w) : (10 : UInt8) ∉ zBL n := fun hm => by
 rcases zJF hm with e | ⟨w, hw, hc⟩
 ·exact absurd e (by decide)
 ·exact (h w hw).nl hc
theorem words_ne (n : TNode) : zu n ≠ [] := by
 unfold zu
 split
 ·simp
 ·split <;> simp
theorem zKm {n : TNode} (h : ∀ w ∈ zu n, OkW w) : zh 32 (zBL n) = zu n := zHK 32 _ (words_ne n) (fun w hw => (h w hw).sp)
theorem zKN {l : List zc} (h : zGK l = 0) : ∀ o ∈ l, OkW o := by
 unfold zGK at h
 split at h
 ·rename_i h1
  unfold posE at h1
  split at h1
  ·cases h1
  ·unfold zFk at h1
   split at h1
   ·cases h1
   ·split at h1
    ·rename_i h2
     exact fun o ho => zLT (zDP h2 o ho)
    ·rename_i h2; exact absurd h1 h2
 ·rename_i h1; exact absurd h h1
/-- the words of a good node, and what is read back -/
theorem zKL {N i : Nat} (hN : N ≤ 120) {n : TNode} (h : zBr N i n = 0) : (∀ w ∈ zu n, OkW w) ∧ zCX (zu n) = some n := by
 obtain ⟨hk, hl6⟩ := zDo h
 have hnat : ∀ k ∈ n.next, ∃ u : Nat, k = (u : Int) ∧ u < 9223372036854775808 := fun k hk' => by
  obtain ⟨a, b⟩ := hk k hk'
  exact ⟨k.toNat, by omega, by omega⟩
 obtain ⟨kind, player, info, next, odds, pay⟩ := n
 unfold zBr at h
 split at h
 ·rename_i k0
  split at h
  ·cases h
  ·rename_i h1
   simp only [not_or, Classical.not_not] at h1 k0
   obtain ⟨p1, p2, p3, p4⟩ := h1
   have k0 : kind = 0 := k0
   have p1 : player = 0 := p1
   have p2 : info = 0 := p2
   have p3 : next = [] := p3
   have p4 : odds = [] := p4
   subst k0 p1 p2 p3 p4
   have hw : zu ⟨0, 0, 0, [], [], pay⟩ = [zEp, pay] := rfl
   have hp := zLT h
   have hp : OkW pay := hp
   rw [hw]
   refine ⟨fun w hw => ?_, ?_⟩
   ·rcases List.mem_cons.1 hw with rfl | hw
    ·exact ⟨by decide, by decide, by decide⟩
    ·rw [List.mem_singleton.1 hw]; exact hp
   ·unfold zCX
    rw [if_neg (by
     rw [List.mem_cons, List.mem_singleton]
     rintro (e | e)
     ·exact absurd e (by decide)
     ·exact hp.ne e.symm), if_pos ⟨Y, Y⟩]
    rfl
 split at h
 ·rename_i k0
  split at h
  ·cases h
  rename_i h1
  split at h
  ·rename_i h2; exact absurd h h2
  rename_i h2
  split at h
  ·cases h
  rename_i h3
  simp only [not_or, Classical.not_not] at h1
  obtain ⟨p1, p2, p3⟩ := h1
  have k0 : kind = 1 := k0
  have p1 : player = 0 := p1
  have p2 : info = 0 := p2
  have p3 : pay = [] := p3
  have h3 : odds.length = next.length := Classical.not_not.1 h3
  subst k0 p1 p2 p3
  have hw : zu ⟨1, 0, 0, next, odds, []⟩ = chW :: (next.zip odds).map zDZ := rfl
  have ho := (zKN h)
  have hz : ∀ x ∈ next.zip odds, ∃ u : Nat, x.1 = (u : Int) ∧ u < 9223372036854775808 ∧ OkW x.2 := fun x hx => by
   obtain ⟨a, b⟩ := List.of_mem_zip hx
   obtain ⟨u, hu, hu2⟩ := hnat _ a
   exact ⟨u, hu, hu2, ho _ b⟩
  rw [hw]
  have hok : ∀ w ∈ chW :: (next.zip odds).map zDZ, OkW w := fun w hw => by
   rcases List.mem_cons.1 hw with rfl | hw
   ·exact ⟨by decide, by decide, by decide⟩
   ·obtain ⟨x, hx, rfl⟩ := List.mem_map.1 hw
    obtain ⟨u, hu, _, hx2⟩ := hz x hx
    obtain ⟨a, b⟩ := x
    have hu : a = (u : Int) := hu
    rw [hu]; exact okW_pair u hx2
  refine ⟨hok, ?_⟩
  unfold zCX
  rw [if_neg (fun e => (hok _ e).ne rfl), if_neg (fun e => absurd (show chW = zEp from e.1) (by decide)), if_pos (show (chW :: (next.zip odds).map zDZ).getD 0 [] = chW from rfl)]
  have e : zAZ zCW ((chW :: (next.zip odds).map zDZ).drop 1) = some (next.zip odds) := zFG (fun x hx => by
   obtain ⟨u, hu, hu2, hx2⟩ := hz x hx
   obtain ⟨a, b⟩ := x
   have hu : a = (u : Int) := hu
   rw [hu]; exact zKT u hu2 hx2.ne)
  rw [e]
  show some (TNode.mk 1 0 0 ((next.zip odds).map Prod.fst) ((next.zip odds).map Prod.snd) []) = _
  rw [List.map_fst_zip (by omega), List.map_snd_zip (by omega)]
 split at h
 ·rename_i k0
  split at h
  ·cases h
  rename_i h1
  split at h
  ·cases h
  rename_i h2
  simp only [not_or, Classical.not_not] at h1
  obtain ⟨p1, p2⟩ := h1
  have k0 : kind = 2 := k0
  have p1 : odds = [] := p1
  have p2 : pay = [] := p2
  subst k0 p1 p2
  have h2 : ¬ ((player ≠ 0 ∧ player ≠ 1) ∨ info < 0 ∨ 10 ≤ info) := h2
  have hw : zu ⟨2, player, info, next, [], []⟩ = mvW :: (player :: info :: next).map Lib.itoa := rfl
  have hz : ∀ x ∈ player :: info :: next, ∃ u : Nat, x = (u : Int) ∧ u < 9223372036854775808 := fun x hx => by
   rcases List.mem_cons.1 hx with rfl | hx
   ·exact ⟨x.toNat, by omega, by omega⟩
   ·rcases List.mem_cons.1 hx with rfl | hx
    ·exact ⟨x.toNat, by omega, by omega⟩
    ·exact hnat x hx
  rw [hw]
  have hok : ∀ w ∈ mvW :: (player :: info :: next).map Lib.itoa, OkW w := fun w hw => by
   rcases List.mem_cons.1 hw with rfl | hw
   ·exact ⟨by decide, by decide, by decide⟩
   ·obtain ⟨x, hx, rfl⟩ := List.mem_map.1 hw
    obtain ⟨u, rfl, _⟩ := hz x hx
    exact zJM u
  refine ⟨hok, ?_⟩
  unfold zCX
  rw [if_neg (fun e => (hok _ e).ne rfl), if_neg (fun e => absurd (show mvW = zEp from e.1) (by decide)), if_neg (show ¬ (mvW :: (player :: info :: next).map Lib.itoa).getD 0 [] = chW from fun e => absurd (show mvW = chW from e) (by decide)), if_pos ⟨rfl, by show 3 ≤ ((mvW :: (player :: info :: next).map Lib.itoa)).length; rw [List.length_cons, List.length_map, List.length_cons, List.length_cons]; omega⟩]
  have e : zAZ zB1 ((mvW :: (player :: info :: next).map Lib.itoa).drop 1) = some (player :: info :: next) := zFG (fun x hx => by
   obtain ⟨u, rfl, hu⟩ := hz x hx
   exact zH3 u hu)
  rw [e]
  rfl
 ·cases h
def zBW (t : zm) : zc := (t.map (fun n => zBL n ++ [10])).flatten
theorem zFv : ∀ {t : zm}, t ≠ [] → zBW t = Lib.join (t.map zBL) [10] ++ [10]
 | [], h => absurd rfl h
 | [n], _ => by
  show (zBL n ++ [10]) ++ [] = Lib.join [zBL n] [10] ++ [10]
  rw [Lib.join_one, List.append_nil]
 | n :: m :: r, _ => by
  have ih := zFv (t := m :: r) (by simp)
  show (zBL n ++ [10]) ++ zBW (m :: r) = Lib.join (zBL n :: zBL m :: r.map zBL) [10] ++ [10]
  rw [ih, Lib.join_cons, zBc]
  simp
/-- tree.Print -/
def zCS (t : zm) : zc × Int := if zA1 t ≠ 0 then ([], zA1 t) else if 8192 < (zBW t).length then ([], 2) else (zBW t, 0)
/-- tree.Parse: the game, the line of an error, and the error -/
def zBD (s : zc) : zm × Int × Int :=
 if 8192 < s.length then ([], 0, 2)
 else if s.getLast? ≠ some 10 then ([], ((s.count 10 : Nat) : Int) + 1, 5)
 else match zAZ zBj (zh 10 s.dropLast) with
  | some t => if zA1 t ≠ 0 then ([], 0, zA1 t) else (t, 0, 0)
  | none => ([], (((zh 10 s.dropLast).findIdx (fun w => (zBj w).isNone) : Nat) : Int) + 1, 5)
/-- TreeReads -/
theorem zKo (s : zc) : ((zBD s).2.2 ≠ 0 → (zBD s).1 = [] ∧ 0 ≤ (zBD s).2.1) ∧
 ((zBD s).2.2 = 0 → (zBD s).2.1 = 0 ∧ zCS (zBD s).1 = (s, 0) ∧ zA1 (zBD s).1 = 0) := by
 unfold zBD
 split
 ·exact ⟨fun _ => ⟨rfl, Int.le_refl 0⟩, fun h => by cases h⟩
 split
 ·refine ⟨fun _ => ⟨rfl, ?_⟩, fun h => by cases h⟩
  show 0 ≤ ((s.count 10 : Nat) : Int) + 1
  omega
 rename_i hlen hlast
 have hlast := Classical.not_not.1 hlast
 split
 ·rename_i t ht
  by_cases hc : zA1 t ≠ 0
  ·rw [if_pos hc]
   exact ⟨fun _ => ⟨Y, Int.le_refl 0⟩, fun h => absurd h hc⟩
  ·rw [if_neg hc]
   refine ⟨fun h => absurd Y h, fun _ => ⟨Y, ?_, Classical.not_not.1 hc⟩⟩
   have hv := zFn (Classical.not_not.1 hc)
   have hne : t ≠ [] := fun e => hv.ne (by rw [e]; rfl)
   have hm := zEZ (fun w x hw => zKh hw) ht
   have hb : zBW t = s := by
    rw [zFv hne, hm, zGv]
    obtain ⟨hs, hs2⟩ := List.getLast?_eq_some_iff.1 hlast
    rw [hs2]; simp
   show zCS t = (s, 0)
   unfold zCS
   rw [if_neg hc, hb, if_neg hlen]
 ·refine ⟨fun _ => ⟨rfl, ?_⟩, fun h => by cases h⟩
  show 0 ≤ (((zh 10 s.dropLast).findIdx (fun w => (zBj w).isNone) : Nat) : Int) + 1
  omega
/-- TreeBack -/
theorem tree_back (t : zm) : ((zCS t).2 ≠ 0 → (zCS t).1 = []) ∧ ((zCS t).2 = 0 → zBD (zCS t).1 = (t, 0, 0)) := by
 unfold zCS
 by_cases hc : zA1 t ≠ 0
 ·rw [if_pos hc]
  exact ⟨fun _ => rfl, fun h => absurd h hc⟩
 rw [if_neg hc]
 by_cases hl : 8192 < (zBW t).length
 ·rw [if_pos hl]
  exact ⟨fun _ => rfl, fun h => by cases h⟩
 rw [if_neg hl]
 refine ⟨fun h => absurd Y h, fun _ => ?_⟩
 have hv := zFn (Classical.not_not.1 hc)
 have hne : t ≠ [] := fun e => hv.ne (by rw [e]; rfl)
 have hgood : ∀ n ∈ t, (∀ w ∈ zu n, OkW w) ∧ zCX (zu n) = some n := fun n hn => by
  obtain ⟨i, hi, rfl⟩ := List.mem_iff_getElem.1 hn
  have := hv.nodes i hi
  rw [show t.getD i zQ = t[i] by simp [List.getD, hi]] at this
  exact zKL hv.le this
 have hread : ∀ n ∈ t, zBj (zBL n) = some n := fun n hn => by
  unfold zBj
  rw [zKm (hgood n hn).1]; exact (hgood n hn).2
 show zBD (zBW t) = (t, 0, 0)
 have hb := zFv hne
 have e1 : (zBW t).getLast? = some 10 := by rw [hb]; simp
 have e2 : (zBW t).dropLast = Lib.join (t.map zBL) [10] := by rw [hb]; simp
 have e3 : zh 10 (Lib.join (t.map zBL) [10]) = t.map zBL := zHK 10 _ (by simpa using hne) (fun w hw => by
  obtain ⟨n, hn, rfl⟩ := List.mem_map.1 hw
  exact line_nl (hgood n hn).1)
 unfold zBD
 rw [if_neg hl, if_neg (fun q => q e1), e2, e3, zFG hread]
 show (if zA1 t ≠ 0 then _ else _) = _
 rw [if_neg hc]
end Go.Ax.Tt
namespace Go.Ax.Rt
open Go.Ax.Bg Go.Ax.Idx
structure TChoice where
 info : Int
 odds : List zc
 deriving DecidableEq
theorem zJl : ∀ (qs : List Rat) (acc : Rat), (zHM acc qs).2 = 0 → (zHM acc qs).1 = sumQ acc qs
 | [], acc, _ => rfl
 | q :: r, acc, h => by
  rw [zHM] at h ⊢
  rw [sumQ]
  split at h
  ·rename_i hf
   rw [if_pos hf]
   exact zJl r _ h
  ·cases h
theorem zH5 {l : List zc} (h : zGK l = 0) : l.length ≤ 256 ∧ (∀ s ∈ l, zC7 s = 0) ∧ sumQ 0 (l.map zAl) = 1 ∧ ∀ q ∈ l.map zAl, 0 ≤ q ∧ D 2000 q := by
 unfold zGK at h
 split at h
 case isFalse h1 => exact absurd h h1
 rename_i h1
 split at h
 case isFalse => cases h
 rename_i h2
 unfold posE at h1
 split at h1
 ·cases h1
 rename_i h3
 have h4 : l.any zCR = false := by
  cases hb : l.any zCR
  ·rfl
  ·exact absurd ⟨h1, hb⟩ h3
 unfold zFk at h1 h2
 split at h1
 ·cases h1
 rename_i h5
 split at h1
 case isFalse h6 => exact absurd h1 h6
 rename_i h6
 rw [if_neg h5, if_pos h6] at h2
 have h7 := zDP h6
 refine ⟨by omega, h7, ?_, fun q hq => ?_⟩
 ·have := zJl _ _ h1
  rw [this] at h2
  unfold cmpQ at h2
  split at h2
  ·cases h2
  ·split at h2
   ·rename_i e; exact e
   ·cases h2
 ·obtain ⟨s, hs, rfl⟩ := List.mem_map.1 hq
  have hn := (zH1 (h7 s hs)).1 (by rw [List.any_eq_false] at h4; simpa using h4 s hs)
  refine ⟨hn, ?_⟩
  have hf := (IsQ.self (h7 s hs)).fit
  unfold zCJ at hf
  rw [Bool.and_eq_true, decide_eq_true_eq, decide_eq_true_eq] at hf
  exact dig_D hf.1 hf.2
end Go.Ax.Rt
namespace Go.Ax.Tt
open Go.Ax.Rt Go.Ax.Bg Go.Ax.Cd Go.Ax.Idx Go.Ax.Tb
theorem zDY {w : zc} : ∀ {ws : List zc}, ws ≠ [] → Lib.join (ws ++ [w]) [32] = Lib.join ws [32] ++ ([32] ++ w)
 | [], h => absurd rfl h
 | [a], _ => by
  show Lib.join (a :: w :: []) [32] = _
  rw [Lib.join_cons, zBc, Lib.join_one, Lib.join_one]; rfl
 | a :: b :: r, _ => by
  show Lib.join (a :: b :: (r ++ [w])) [32] = _
  have ih := zDY (w := w) (ws := b :: r) (by simp)
  rw [Lib.join_cons, zBc, show b :: (r ++ [w]) = b :: r ++ [w] from rfl, ih, Lib.join_cons (x := a), zBc]
  simp
theorem zDf {α : Type} (l : List α) (d : α) {i : Nat} (h : i < l.length) : l.take (i + 1) = l.take i ++ [l.getD i d] := by
 rw [List.take_succ_eq_append_getElem h]
 simp [List.getD, h]
theorem zEc {α : Type} {f : zc → Option α} {x : α} {w : zc} : ∀ {l : List zc} {xs : List α}, zAZ f l = some xs → f w = some x → zAZ f (l ++ [w]) = some (xs ++ [x])
 | [], xs, h, hw => by
  obtain rfl : [] = xs := by simpa [zAZ] using h
  show zAZ f [w] = _
  rw [zAZ, hw]; rfl
 | a :: r, xs, h, hw => by
  rw [zAZ] at h
  split at h
  ·rename_i y hy
   cases hr : zAZ f r with
   | none => rw [hr] at h; cases h
   | some l =>
    rw [hr] at h
    obtain rfl : y :: l = xs := by simpa using h
    show zAZ f (a :: (r ++ [w])) = _
    rw [zAZ, hy]
    show (zAZ f (r ++ [w])).map _ = _
    rw [zEc hr hw]; rfl
  ·cases h
theorem zEa {α : Type} {f : zc → Option α} {d : zc} : ∀ {l : List zc} {i : Nat}, i < l.length → f (l.getD i d) = none → zAZ f l = none
 | [], i, h, _ => absurd h (Nat.not_lt_zero _)
 | a :: r, 0, _, h => by
  have h : f a = none := h
  rw [zAZ, h]
 | a :: r, i + 1, h, hf => by
  rw [zAZ]
  split
  ·rw [zEa (by simpa using h) (show f (r.getD i d) = none by simpa using hf)]; rfl
  ·rfl
theorem zCh {α : Type} {f : zc → Option α} : ∀ {l : List zc} {xs : List α}, zAZ f l = some xs → xs.length = l.length
 | [], xs, h => by
  obtain rfl : [] = xs := by simpa [zAZ] using h
  rfl
 | a :: r, xs, h => by
  rw [zAZ] at h
  split at h
  ·cases hr : zAZ f r with
   | none => rw [hr] at h; cases h
   | some l =>
    rw [hr] at h
    obtain rfl := Option.some.inj h
    rw [List.length_cons, List.length_cons, zCh hr]
  ·cases h
/-- the first word that is refused -/
theorem zHs {α : Type} {f : zc → Option α} {d : zc} : ∀ {l : List zc} {xs : List α} {i : Nat}, zAZ f (l.take i) = some xs → i < l.length → f (l.getD i d) = none → l.findIdx (fun w => (f w).isNone) = i
 | [], _, i, _, h, _ => absurd h (Nat.not_lt_zero _)
 | a :: r, _, 0, _, _, h => by
  have h : f a = none := h
  rw [List.findIdx_cons, h]; rfl
 | a :: r, xs, i + 1, ht, h, hf => by
  rw [List.take_succ_cons, zAZ] at ht
  split at ht
  ·rename_i y hy
   cases hr : zAZ f (r.take i) with
   | none => rw [hr] at ht; cases ht
   | some l =>
    rw [List.findIdx_cons, hy, zHs hr (by simpa using h) (show f (r.getD i d) = none by simpa using hf)]; rfl
  ·cases ht
theorem zFw (t : zm) {i : Nat} (h : i < t.length) : zBW (t.take (i + 1)) = zBW (t.take i) ++ (zBL (t.getD i zQ) ++ [10]) := by
 rw [zDf t zQ h]
 unfold zBW
 rw [List.map_append, List.flatten_append]
 simp
theorem zC4 (b : UInt8) : ∀ (s : zc), ∀ w ∈ zh b s, w.length ≤ s.length
 | [], w, hw => by
  rw [zh, List.mem_singleton] at hw
  rw [hw]; exact Nat.le_refl _
 | x :: r, w, hw => by
  have ih := zC4 b r
  rw [zh] at hw
  split at hw
  ·rcases List.mem_cons.1 hw with rfl | hw
   ·exact Nat.zero_le _
   ·have := ih w hw; rw [List.length_cons]; omega
  ·split at hw
   ·rw [List.mem_singleton.1 hw]; simp
   ·rename_i y q hq
    rw [hq] at ih
    rcases List.mem_cons.1 hw with rfl | hw
    ·have := ih y (List.mem_cons_self ..); rw [List.length_cons, List.length_cons]; omega
    ·have := ih w (List.mem_cons_of_mem _ hw); rw [List.length_cons]; omega
theorem zIj {s : zc} (h : zC7 s = 0) : s.length ≤ 4010 := by
 have hi := IsQ.self h
 have hf := hi.fit
 rw [← hi.text]
 unfold zCJ at hf
 rw [Bool.and_eq_true, decide_eq_true_eq, decide_eq_true_eq] at hf
 unfold zAM
 rw [List.length_append, List.length_append]
 have h1 : (if (zAl s).num < 0 then [45] else [] : List UInt8).length ≤ 1 := by split <;> simp
 have h3 : (if (zAl s).den = 1 then [] else 47 :: Lib.decDigits (zAl s).den : List UInt8).length ≤ 2001 := by
  split
  ·simp
  ·rw [List.length_cons]; omega
 omega
theorem zLL {K : Nat} : ∀ {ws : List zc}, (∀ w ∈ ws, w.length ≤ K) → Lib.lens ws ≤ K * ws.length
 | [], _ => Nat.zero_le _
 | a :: r, h => by
  have h1 := h a (List.mem_cons_self ..)
  have h2 := zLL (fun w hw => h w (List.mem_cons_of_mem _ hw))
  have e : Lib.lens (a :: r) = a.length + Lib.lens r := by
   unfold Lib.lens
   rw [List.map_cons, List.sum_cons]
  have e2 : K * (a :: r).length = K * r.length + K := by rw [List.length_cons, Nat.mul_add, Nat.mul_one]
  rw [e, e2]
  generalize K * r.length = z at *
  omega
theorem zLI {K : Nat} {ws : List zc} (h : ∀ w ∈ ws, w.length ≤ K) : (Lib.join ws [32]).length ≤ (K + 1) * ws.length := by
 cases ws with
 | nil => exact Nat.zero_le _
 | cons a r =>
  have h2 := zLL h
  rw [Lib.join_length]
  have e : (K + 1) * (a :: r).length = K * (a :: r).length + (a :: r).length := by rw [Nat.add_mul, Nat.one_mul]
  have e3 : ([32] : zc).length * r.length = r.length := by show 1 * _ = _; rw [Nat.one_mul]
  have e4 : (a :: r).length = r.length + 1 := rfl
  generalize K * (a :: r).length = z at *
  generalize Lib.lens (a :: r) = y at *
  omega
theorem zLH (u : Nat) (h : u < 9223372036854775808) : (Lib.itoa (u : Int)).length ≤ 19 := by
 rw [itoa_nat]
 exact zBY (by decide) (Nat.lt_of_lt_of_le h (by decide))
/-- the words of a good node are short -/
theorem zJo {N i : Nat} (hN : N ≤ 120) {n : TNode} (h : zBr N i n = 0) : (∀ w ∈ zu n, w.length ≤ 4040) ∧ (zu n).length ≤ 9 := by
 obtain ⟨hk, hl6⟩ := zDo h
 have hnat : ∀ k ∈ n.next, ∃ u : Nat, k = (u : Int) ∧ u < 9223372036854775808 := fun k hk' => by
  obtain ⟨a, b⟩ := hk k hk'
  exact ⟨k.toNat, by omega, by omega⟩
 unfold zBr at h
 unfold zu
 split at h
 ·rename_i k0
  rw [if_pos k0]
  split at h
  ·cases h
  ·refine ⟨fun w hw => ?_, by show 2 ≤ 9; decide⟩
   rcases List.mem_cons.1 hw with rfl | hw
   ·decide
   ·rw [List.mem_singleton.1 hw]
    have := zIj h
    omega
 rename_i k0
 rw [if_neg k0]
 split at h
 ·rename_i k1
  rw [if_pos k1]
  split at h
  ·cases h
  split at h
  ·rename_i h2; exact absurd h h2
  split at h
  ·cases h
  have ho := (zH5 h).2.1
  refine ⟨fun w hw => ?_, ?_⟩
  ·rcases List.mem_cons.1 hw with rfl | hw
   ·decide
   ·obtain ⟨x, hx, rfl⟩ := List.mem_map.1 hw
    obtain ⟨a, b⟩ := List.of_mem_zip hx
    obtain ⟨u, hu, hu2⟩ := hnat _ a
    unfold zDZ
    rw [hu, List.length_append, List.length_cons]
    have h1 := zLH u hu2
    have h2 := zIj (ho _ b)
    omega
  ·rw [List.length_cons, List.length_map, List.length_zip]
   omega
 rename_i k1
 rw [if_neg k1]
 split at h
 ·split at h
  ·cases h
  split at h
  ·cases h
  rename_i h2
  refine ⟨fun w hw => ?_, ?_⟩
  ·rcases List.mem_cons.1 hw with rfl | hw
   ·decide
   ·obtain ⟨x, hx, rfl⟩ := List.mem_map.1 hw
    have hz : ∃ u : Nat, x = (u : Int) ∧ u < 9223372036854775808 := by
     rcases List.mem_cons.1 hx with rfl | hx
     ·exact ⟨n.player.toNat, by omega, by omega⟩
     ·rcases List.mem_cons.1 hx with rfl | hx
      ·exact ⟨n.info.toNat, by omega, by omega⟩
      ·exact hnat x hx
    obtain ⟨u, rfl, hu⟩ := hz
    have := zLH u hu
    omega
  ·rw [List.length_cons, List.length_map, List.length_cons, List.length_cons]
   omega
 ·cases h
theorem zLM {N i : Nat} (hN : N ≤ 120) {n : TNode} (h : zBr N i n = 0) : (zBL n).length ≤ 36369 := by
 obtain ⟨h1, h2⟩ := zJo hN h
 have h3 := zLI h1
 have h4 : 4041 * (zu n).length ≤ 4041 * 9 := Nat.mul_le_mul_left _ h2
 unfold zBL
 omega
theorem zKy {t : zm} (h : Valid t) : ∀ i, i ≤ t.length → (zBW (t.take i)).length ≤ 36370 * i
 | 0, _ => by rw [List.take_zero]; exact Nat.zero_le _
 | i + 1, hi => by
  have ih := zKy h i (by omega)
  have hl := zLM h.le (h.nodes i (by omega))
  rw [zFw t (by omega), List.length_append, List.length_append]
  have : ([10] : zc).length = 1 := rfl
  omega
end Go.Ax.Tt
namespace Go.Ax
variable [Pins]
open Go.RowKit
/-- Does operation j wait, at last, for operation i? -/
def needs (all : Array Oper) (idx : List Nat) : Nat → Nat → Nat → Bool
 | 0, _, _ => false
 | n + 1, j, i => match all[j]? with
  | some o => o.after.toList.any (fun e => Region.binds .any e && Nat.beq e.on i) || o.after.toList.any (fun e => Region.binds .any e && (idx.contains e.on && needs all idx n e.on i))
  | none => false
theorem zHu {cur : Array Bool} {i : Nat} (h : cur.getD i false = true) : cur.getD i true = true := by
 have _p := ‹Pins›
 unfold Array.getD at h ⊢
 split at h
 ·rename_i q
  rw [dif_pos q]; exact h
 ·cases h
theorem zG0 {all : Array Oper} {idx : List Nat} {cur : Array Bool} (hcl : ∀ m' ∈ idx, cur.getD m' true = true → ∀ o, all[m']? = some o → ∀ e ∈ o.after, Region.binds .any e = true → cur.getD e.on false = true) :
 ∀ (n j i : Nat), needs all idx n j i = true → (∀ o, all[j]? = some o → ∀ e ∈ o.after, Region.binds .any e = true → cur.getD e.on false = true) → cur.getD i true = true
 | 0, _, _, h, _ => by cases h
 | n + 1, j, i, h, hd => by
  have _p := ‹Pins›
  rw [needs] at h
  split at h
  ·rename_i o ho
   rw [Bool.or_eq_true] at h
   rcases h with h | h
   ·obtain ⟨e, he1, he2⟩ := List.any_eq_true.1 h
    rw [Bool.and_eq_true] at he2
    have h3 := hd o ho e (Array.mem_toList_iff.1 he1) he2.1
    rw [Nat.eq_of_beq_eq_true he2.2] at h3
    exact zHu h3
   ·obtain ⟨e, he1, he2⟩ := List.any_eq_true.1 h
    simp only [Bool.and_eq_true] at he2
    have h3 := zHu (hd o ho e (Array.mem_toList_iff.1 he1) he2.1)
    have hm : e.on ∈ idx := by simpa using he2.2.1
    exact zG0 hcl n e.on i he2.2.2 (hcl e.on hm h3)
  ·cases h
theorem zJg {cur : Array Bool} {i j : Nat} (h : cur.getD j false = true) : (cur.setIfInBounds i true).getD j false = true := by
 have _p := ‹Pins›
 simp only [Array.getD_eq_getD_getElem?, Array.getElem?_setIfInBounds] at h ⊢
 split
 ·split
  ·rfl
  ·rename_i h1 h2
   subst h1
   rw [Array.getElem?_eq_none (by omega)] at h
   cases h
 ·exact h
theorem zLp {all : Array Oper} {idx : List Nat} {cur : Array Bool} {i : Nat} (_hi : i ∈ idx) (hcl : ∀ m' ∈ idx, cur.getD m' true = true → ∀ o, all[m']? = some o → ∀ e ∈ o.after, Region.binds .any e = true → cur.getD e.on false = true)
 (hd : ∀ o, all[i]? = some o → ∀ e ∈ o.after, Region.binds .any e = true → cur.getD e.on false = true) :
 ∀ m' ∈ idx, (cur.setIfInBounds i true).getD m' true = true → ∀ o, all[m']? = some o → ∀ e ∈ o.after, Region.binds .any e = true → (cur.setIfInBounds i true).getD e.on false = true := by
 have _p := ‹Pins›
 intro m' hm' hu o ho e he hb
 by_cases h : m' = i
 ·subst h
  exact zJg (hd o ho e he hb)
 ·refine zJg (hcl m' hm' ?_ o ho e he hb)
  have h' : ¬ i = m' := fun q => h q.symm
  simpa [Array.getD_eq_getD_getElem?, Array.getElem?_setIfInBounds, h'] using hu
/-- May these operations run in any order, ahead of all others? -/
def okRunT (all : Array Oper) (listed : Array Bool) (idx : List Nat) (k0 : List Nat) : Bool :=
 (idx.all fun i => !listed.getD i true && (match all[i]? with
  | some o => (match o.dst with | some d => !k0.contains d | none => false) && o.after.toList.all (fun e => !Region.binds .any e || (Nat.blt e.on i && (idx.contains e.on || listed.getD e.on false)))
  | none => false)) &&
 ((List.range all.size).all fun j => idx.contains j || listed.getD j true || idx.all (fun i => needs all idx (idx.length + 1) j i)) &&
 (idx.all fun i => idx.all fun j => Nat.beq i j || !(match all[i]?, all[j]? with | some o, some o' => o.dst == o'.dst | _, _ => false))
section
variable {P : Program} {fn : Func} {c : Ctx} {fr : Fr} {H : zH} {k : List It}
theorem zGD {all : Array Oper} {fuel : Nat} {listed listed' : Array Bool} (idx : List Nat) (K0 : Fr) (hK : zBS fr K0) (hok : okRunT all listed idx (K0.map (·.1)) = true) (hnd : idx.Nodup) (hd : zBo fn.ntmps all.toList = true) (hl : zET listed idx = listed')
 (h : zGd P fn c H all K0 idx [] (fun st => Ax P fn c (.any all fuel listed' k) (st.map (·.2) ++ K0) H)) : Ax P fn c (.any all (fuel + idx.length) listed k) fr H := by
 obtain ⟨st, hG, hidx, hst⟩ := zE2 h (fun s hs => by simp at hs)
 rw [List.map_nil, List.append_nil] at hidx
 clear h
 unfold okRunT at hok
 simp only [Bool.and_eq_true] at hok
 obtain ⟨⟨ok1, ok2⟩, ok3⟩ := hok
 rw [List.all_eq_true] at ok1 ok2 ok3
 have hmem : ∀ i, i ∈ idx ↔ ∃ s ∈ st, s.1 = i := fun i => by
  have : i ∈ idx.reverse ↔ ∃ s ∈ st, s.1 = i := by rw [← hidx]; simp
  rw [← this, List.mem_reverse]
 have hlen : st.length = idx.length := by
  have := congrArg List.length hidx
  simpa using this
 have hnd' : (st.map (·.1)).Nodup := by rw [hidx]; exact (List.reverse_perm idx).nodup_iff.2 hnd
 have hlt : ∀ i ∈ idx, i < listed.size := fun i hi => by
  have := ok1 i hi
  simp only [Bool.and_eq_true, Bool.not_eq_true'] at this
  rcases Nat.lt_or_ge i listed.size with q | q
  ·exact q
  ·have h1 := this.1
   simp only [Array.getD, show ¬ i < listed.size by omega, dite_false] at h1
   cases h1
 -- the induction
 have key : ∀ (m : Nat) (cur : Array Bool) (fr : Fr), cur.size = listed.size → (∀ j, j ∉ idx → cur[j]? = listed[j]?) → unl cur st = m → (∀ s ∈ st, cur.getD s.1 true = true → zAH s.2.1 fr = some s.2.2) → zBS fr K0 → (∀ m' ∈ idx, cur.getD m' true = true → ∀ o, all[m']? = some o → ∀ e ∈ o.after, Region.binds .any e = true → cur.getD e.on false = true) → Ax P fn c (.any all (fuel + m) cur k) fr H := by
  intro m
  induction m with
  | zero =>
   intro cur fr hcs hco hcm hck hk0 hcl
   have hall : ∀ s ∈ st, cur.getD s.1 true = true := fun s hs => by
    cases hq : cur.getD s.1 true with
    | true => rfl
    | false =>
     exfalso
     have h0 : st.filter (fun s => !cur.getD s.1 true) = [] := List.length_eq_zero_iff.1 hcm
     have : s ∈ st.filter (fun s => !cur.getD s.1 true) := List.mem_filter.2 ⟨hs, by rw [hq]; rfl⟩
     rw [h0] at this; simp at this
   have hcur : cur = listed' := by
    rw [← hl]
    apply Array.ext_getElem?
    intro j
    rcases Nat.lt_or_ge j listed.size with q | q
    ·rw [zE8 idx listed j q]
     by_cases hj : j ∈ idx
     ·rw [if_pos hj]
      obtain ⟨s, hs1, hs2⟩ := (hmem j).1 hj
      have := hall s hs1
      rw [hs2] at this
      simp only [Array.getD, show j < cur.size by omega, dite_true] at this
      rw [Array.getElem?_eq_getElem (by omega)]
      exact congrArg some this
     ·rw [if_neg hj]; exact hco j hj
    ·rw [Array.getElem?_eq_none (by omega), Array.getElem?_eq_none (by rw [zEU]; omega)]
   subst hcur
   intro w a σ S hr
   refine hG w a σ S (hr.weaken (zCu fun p hp => ?_))
   rcases List.mem_append.1 hp with q | q
   ·obtain ⟨s, q1, q2⟩ := List.mem_map.1 q
    rw [← q2]; exact hck s q1 (hall s q1)
   ·exact zCx hk0 p q
  | succ m ih =>
   intro cur fr hcs hco hcm hck hk0 hcl
   -- some step is left
   obtain ⟨s0, hs0, hs0u⟩ : ∃ s ∈ st, cur.getD s.1 true = false := by
    rcases hq : st.filter (fun s => !cur.getD s.1 true) with _ | ⟨s, r⟩
    ·unfold unl at hcm; rw [hq] at hcm; simp at hcm
    ·have : s ∈ st.filter (fun s => !cur.getD s.1 true) := by rw [hq]; simp
     obtain ⟨h1, h2⟩ := List.mem_filter.1 this
     exact ⟨s, h1, by simpa using h2⟩
   have hsub : ∀ i ∈ Region.ready .any all cur, i ∈ idx ∧ cur.getD i true = false := by
    intro i hi
    obtain ⟨h1, o, ho, hdeps⟩ := mem_ready.1 hi
    refine ⟨?_, h1⟩
    apply Classical.byContradiction
    intro hni
    have hjs : i < all.size := (Array.getElem?_eq_some_iff.1 ho).1
    have := ok2 i (List.mem_range.2 hjs)
    simp only [Bool.or_eq_true, ho] at this
    rcases this with (q | q) | q
    ·exact hni (by simpa using q)
    ·have hco' := hco i hni
     have h2 : listed.getD i true = cur.getD i true := by
      simp only [Array.getD_eq_getD_getElem?, hco']
     rw [h2, h1] at q; cases q
    ·rw [List.all_eq_true] at q
     have h3 := zG0 hcl _ i s0.1 (q s0.1 ((hmem s0.1).2 ⟨s0, hs0, rfl⟩)) (fun o' ho' e he hb => by
      rw [ho] at ho'
      obtain rfl := Option.some.inj ho'
      exact hdeps e he hb)
     rw [h3] at hs0u; cases hs0u
   have hne : Region.ready .any all cur ≠ [] := by
    intro h0
    -- the least one that is left
    have hex : ∃ i, i ∈ idx ∧ cur.getD i true = false := ⟨s0.1, (hmem s0.1).2 ⟨s0, hs0, rfl⟩, hs0u⟩
    have least : ∀ n i, i ≤ n → i ∈ idx → cur.getD i true = false → False := by
     intro n
     induction n with
     | zero =>
      intro i hi him hiu
      have h1 := ok1 i him
      simp only [Bool.and_eq_true] at h1
      cases hoo : all[i]? with
      | none => rw [hoo] at h1; exact absurd h1.2 (by simp)
      | some o =>
       rw [hoo] at h1
       simp only [Bool.and_eq_true] at h1
       have h2 := List.all_eq_true.1 h1.2.2
       have : i ∈ Region.ready .any all cur := mem_ready.2 ⟨hiu, o, hoo, fun e he hb => by
        have := h2 e (Array.mem_toList_iff.2 he)
        rw [hb] at this
        simp only [Bool.not_true, Bool.false_or, Bool.and_eq_true] at this
        have := Nat.le_of_ble_eq_true this.1
        omega⟩
       rw [h0] at this; simp at this
     | succ n ihn =>
      intro i hi him hiu
      have h1 := ok1 i him
      simp only [Bool.and_eq_true] at h1
      cases hoo : all[i]? with
      | none => rw [hoo] at h1; exact absurd h1.2 (by simp)
      | some o =>
       rw [hoo] at h1
       simp only [Bool.and_eq_true] at h1
       have h2 := List.all_eq_true.1 h1.2.2
       have : i ∈ Region.ready .any all cur := mem_ready.2 ⟨hiu, o, hoo, fun e he hb => by
        have h3 := h2 e (Array.mem_toList_iff.2 he)
        rw [hb] at h3
        simp only [Bool.not_true, Bool.false_or, Bool.and_eq_true, Bool.or_eq_true] at h3
        have hlt' : e.on < i := Nat.le_of_ble_eq_true h3.1
        by_cases hei : e.on ∈ idx
        ·cases hq : cur.getD e.on true with
         | false => exact (ihn e.on (by omega) hei hq).elim
         | true =>
          have hsz := hlt e.on hei
          simp only [Array.getD, show e.on < cur.size by omega, dite_true] at hq ⊢
          exact hq
        ·rcases h3.2 with q | q
         ·exact absurd (by simpa using q) hei
         ·have h2 : cur.getD e.on false = listed.getD e.on false := by simp only [Array.getD_eq_getD_getElem?, hco e.on hei]
          rw [h2]; exact q⟩
       rw [h0] at this; simp at this
    obtain ⟨i, hi1, hi2⟩ := hex
    exact least i i (Nat.le_refl _) hi1 hi2
   refine zD Y hne hd (zIG (fun i hi o ho => ?_))
   obtain ⟨him, hiu⟩ := hsub i hi
   obtain ⟨s, hs1, hs2⟩ := (hmem i).1 him
   obtain ⟨o', K, g1, g2, g3, g4⟩ := hst s hs1
   rw [hs2, ho] at g1
   obtain rfl := Option.some.inj g1
   obtain ⟨_, o2, ho2, hdeps⟩ := mem_ready.1 hi
   rw [ho] at ho2
   obtain rfl := Option.some.inj ho2
   refine g3 _ fr (zCu fun p hp => ?_) (zV (zAT ?_))
   ·rcases g4 p hp with q | ⟨s', q1, ⟨e, q2, q3, q4⟩, q5⟩
    ·exact zCx hk0 p q
    ·have h1 := hdeps e q2 q3
     rw [q4] at h1
     rw [← q5]
     refine hck s' q1 ?_
     have hsz := hlt s'.1 ((hmem s'.1).2 ⟨s', q1, rfl⟩)
     simp only [Array.getD, show s'.1 < cur.size by omega, dite_true] at h1 ⊢
     exact h1
   ·have hisz := hlt i him
    refine ih (cur.setIfInBounds i true) _ (by simpa using hcs) (fun j hj => ?_) ?_ (fun s' hs' hu => ?_) ?_ (zLp him hcl (fun o' ho' e he hb => by rw [ho] at ho'; obtain rfl := Option.some.inj ho'; exact hdeps e he hb))
    ·rw [Array.getElem?_setIfInBounds_ne (show i ≠ j from fun e => hj (e ▸ him))]; exact hco j hj
    ·-- one less
     have hf : st.filter (fun s' => !(cur.setIfInBounds i true).getD s'.1 true) = (st.filter (fun s' => !cur.getD s'.1 true)).filter (fun s' => decide (s'.1 ≠ i)) := by
      rw [List.filter_filter]
      congr 1
      funext s'
      by_cases hq : s'.1 = i
      ·rw [hq]; simp [Array.getD, show i < cur.size by omega]
      ·have hq' : ¬ i = s'.1 := fun e => hq e.symm
       simp [Array.getD_eq_getD_getElem?, Array.getElem?_setIfInBounds, hq, hq']
     unfold unl at hcm ⊢
     rw [hf]
     have hmemf : s ∈ st.filter (fun s' => !cur.getD s'.1 true) := List.mem_filter.2 ⟨hs1, by rw [hs2, hiu]; rfl⟩
     have hndf : ((st.filter (fun s' => !cur.getD s'.1 true)).map (·.1)).Nodup := List.Nodup.sublist (List.Sublist.map _ List.filter_sublist) hnd'
     revert hcm hmemf hndf
     generalize st.filter (fun s' => !cur.getD s'.1 true) = L
     intro hcm hmemf hndf
     have gen : ∀ (L : Steps) (n : Nat), L.length = n + 1 → s ∈ L → (L.map (·.1)).Nodup → (L.filter (fun s' => decide (s'.1 ≠ i))).length = n := by
      intro L
      induction L with
      | nil => intro n h; simp at h
      | cons x r ihL =>
       intro n hn hm hnd
       simp only [List.map_cons, List.nodup_cons] at hnd
       rcases List.mem_cons.1 hm with rfl | hm
       ·have hno : ∀ y ∈ r, y.1 ≠ i := fun y hy e => hnd.1 (List.mem_map.2 ⟨y, hy, by rw [e, hs2]⟩)
        have : (r.filter (fun s' => decide (s'.1 ≠ i))) = r := List.filter_eq_self.2 (fun y hy => by simpa using hno y hy)
        rw [List.filter_cons_of_neg (by simp [hs2]), this]
        simpa using hn
       ·have hx : x.1 ≠ i := fun e => hnd.1 (List.mem_map.2 ⟨s, hm, by rw [hs2, e]⟩)
        have hr0 : 0 < r.length := List.length_pos_iff.2 (by rintro rfl; simp at hm)
        obtain ⟨n', rfl⟩ : ∃ n', n = n' + 1 := ⟨n - 1, by simp at hn; omega⟩
        rw [List.filter_cons_of_pos (by simpa using hx), List.length_cons, ihL n' (by simpa using hn) hm hnd.2]
     exact gen L m hcm hmemf hndf
    ·by_cases hq : s'.1 = i
     ·have : s' = s := by
       have h1 : s ∈ st := hs1
       have hinj : ∀ (L : Steps), (L.map (·.1)).Nodup → ∀ x ∈ L, ∀ y ∈ L, x.1 = y.1 → x = y := by
        intro L
        induction L with
        | nil => intro _ x hx; simp at hx
        | cons z r ihL =>
         intro hnd x hx y hy hxy
         simp only [List.map_cons, List.nodup_cons] at hnd
         rcases List.mem_cons.1 hx with hx | hx <;> rcases List.mem_cons.1 hy with hy | hy
         ·rw [hx, hy]
         ·exact absurd (List.mem_map.2 ⟨y, hy, by rw [← hxy, hx]⟩) hnd.1
         ·exact absurd (List.mem_map.2 ⟨x, hx, by rw [hxy, hy]⟩) hnd.1
         ·exact ihL hnd.2 x hx y hy hxy
       exact hinj st hnd' s' hs' s hs1 (by rw [hq, hs2])
      rw [this]
      exact zLN _ _ _
     ·have h1 : cur.getD s'.1 true = true := by
       have hq' : ¬ i = s'.1 := fun e => hq e.symm
       simpa [Array.getD_eq_getD_getElem?, Array.getElem?_setIfInBounds, hq'] using hu
      have h2 := hck s' hs' h1
      -- another slot
      have hne2 : s'.2.1 ≠ s.2.1 := by
       intro e
       obtain ⟨o3, _, f1, f2, _, _⟩ := hst s' hs'
       have h3 := List.all_eq_true.1 (ok3 s'.1 ((hmem s'.1).2 ⟨s', hs', rfl⟩)) i him
       rw [f1, ho] at h3
       simp only [Bool.or_eq_true, Bool.not_eq_true', f2, g2] at h3
       rcases h3 with h3 | h3
       ·exact hq (Nat.eq_of_beq_eq_true h3)
       ·rw [e] at h3; simp at h3
      show (bif Nat.beq s'.2.1 s.2.1 then some s.2.2 else zAH s'.2.1 fr) = _
      rw [zAi hne2]; exact h2
    ·refine zCu fun p hp => ?_
     have h1 := ok1 i him
     simp only [Bool.and_eq_true] at h1
     rw [ho] at h1
     simp only [g2, Bool.and_eq_true, Bool.not_eq_true'] at h1
     have hne3 : p.1 ≠ s.2.1 := by
      intro e
      have : (K0.map (·.1)).contains s.2.1 = true := by
       rw [List.contains_iff_mem]
       exact List.mem_map.2 ⟨p, hp, e⟩
      rw [h1.2.1] at this; cases this
     show (bif Nat.beq p.1 s.2.1 then some s.2.2 else zAH p.1 fr) = _
     rw [zAi hne3]; exact zCx hk0 p hp
 have hm0 : unl listed st = idx.length := by
  unfold unl
  rw [List.filter_eq_self.2 (fun s hs => ?_), hlen]
  have := ok1 s.1 ((hmem s.1).2 ⟨s, hs, rfl⟩)
  simp only [Bool.and_eq_true] at this
  exact this.1
 have := key idx.length listed fr rfl (fun _ _ => rfl) hm0 (fun s hs hu => by
  have h1 := ok1 s.1 ((hmem s.1).2 ⟨s, hs, rfl⟩)
  simp only [Bool.and_eq_true, Bool.not_eq_true'] at h1
  rw [h1.1] at hu; cases hu) hK (fun m' hm' hu => by
  have h1 := ok1 m' hm'
  simp only [Bool.and_eq_true, Bool.not_eq_true'] at h1
  rw [h1.1] at hu; cases hu)
 exact this
end
end Go.Ax
namespace Go.Ax
variable [Pins]
open Go.RowKit
section
variable {ind : Bool} {P : Program} {fn : Func} {c : Ctx} {fr : Fr} {H : zH} {k : List It}
variable {d : Option Nat} {ty : TypeId} {pos : String} {after : Array Edge} {g : Option (Nat × Bool)}
end
theorem zC8 {l l' : List AV} (h : AEqs l l') : AEq (.agg l) (.agg l') := by
 intro w S σ v hv
 have hl := h.length
 cases hv with
 | agg _ _ vs h1 h2 h3 => exact .agg _ _ _ (h1.trans hl) (fun i hi => h.get i (by omega) _ _ _ _ (h2 i (by omega))) (fun i hi => h3 i (by omega))
end Go.Ax
namespace Go.Proofs.YtkncmbklkhjmgaaGreatDoor
open Go.Ax Go.RowKit Go.Ax.Rt Go.Ax.Idx Go.Ax.Cd Go.Ax.Tb Go.Ax.Bg Go.Ax.Tt
attribute [local irreducible] Ax zAO QOp zK zAN
theorem zH4 (s : zc) (h : s.length ≤ 281474976710656) : zN Tryz.prog 181 [.str s] (.tup [.int .i64 (numV s), .bool (zB1 s).isSome]) := by
 have ca := atoi s h
 refine zK.value0 (zC (P := Tryz.prog) (fn := Tryz.f181) Y Y (by kernel_rfl) Y (fun c hR hfix => ?_)) (fix := fun _ => False) (fun _ h => h) Y Y
 cases hc : Lib.atoiAll s with
 | ok n =>
  have ci := itoa n (zKu hc)
  have e1 : numV s = n := by unfold numV; rw [hc]
  have e2 : (zB1 s).isSome = decide (Lib.itoa n = s) := by
   unfold zB1
   rw [hc]
   show (if Lib.itoa n = s then some n else none : Option Int).isSome = _
   by_cases q : Lib.itoa n = s
   ·rw [if_pos q, decide_eq_true q]; rfl
   ·rw [if_neg q, decide_eq_false q]; rfl
  rw [hc, e1] at ca
  rw [e1, e2] at hR
  refine rn0 ?_
  refine zA Y Y Y ca ?_
  repeat (first | refine zF (zU rfl) ?_ | refine zF (zT rfl) ?_ | refine zV ?_ | refine zO ?_ | refine zAA ?_ | refine zZ rfl ?_ | refine zAF rfl rfl ?_ | refine zF (zAg rfl rfl) ?_ | refine zF (zF2 rfl rfl rfl) ?_)
  refine zA Y Y Y ci ?_
  refine rn6 ?_
  exact zE hR Y Y
 | «syntax» =>
  have e2 : (zB1 s).isSome = false := by unfold zB1; rw [hc]; rfl
  rw [hc] at ca
  rw [e2] at hR
  refine rn0 ?_
  refine zA Y Y Y ca ?_
  repeat (first | refine zF (zU rfl) ?_ | refine zF (zT rfl) ?_ | refine zV ?_ | refine zO ?_ | refine zAA ?_ | refine zZ rfl ?_ | refine zAz rfl rfl rfl ?_ | refine zAK ?_ | refine zF (zBt rfl rfl) ?_ | refine zF (zAg rfl rfl) ?_ | refine zF (zF2 rfl rfl rfl) ?_)
  exact zE hR Y Y
 | range =>
  have e2 : (zB1 s).isSome = false := by unfold zB1; rw [hc]; rfl
  rw [hc] at ca
  rw [e2] at hR
  refine rn0 ?_
  refine zA Y Y Y ca ?_
  repeat (first | refine zF (zU rfl) ?_ | refine zF (zT rfl) ?_ | refine zV ?_ | refine zO ?_ | refine zAA ?_ | refine zZ rfl ?_ | refine zAz rfl rfl rfl ?_ | refine zAK ?_ | refine zF (zBt rfl rfl) ?_ | refine zF (zAg rfl rfl) ?_ | refine zF (zF2 rfl rfl rfl) ?_)
  exact zE hR Y Y
def eqT (v : zc) (x : zc) : Bool := decide (v = x)
theorem indexT (l : List zc) (v : zc) (hlen : l.length ≤ 9223372036854775807) :
 zN Tryz.prog 234 [.ro (.strs l) 0 l.length, .str v] (.int .i64 (zCK (eqT v) l)) := by
 refine zK.value0 (zC (P := Tryz.prog) (fn := Tryz.f234) Y Y (by kernel_rfl) Y (fun c hR hfix => ?_)) (fix := fun _ => False) (fun _ h => h) Y Y
 refine rn3 ?_
 refine zY (ι := Nat) (fun k => [(0, .ro (.strs l) 0 l.length), (1, .str v), (7, .int .i64 (l.length : Nat)), (8, .int .i64 (k : Nat))]) (fun _ => [])
  (fun k => k ≤ l.length ∧ (l.take k).any (eqT v) = false) (fun k => l.length - k) 0 ⟨⟨rfl, rfl, rfl, rfl, trivial⟩, rfl, Nat.zero_le _, rfl⟩ ?_
 intro k ⟨hk, hany⟩
 refine rn4 ?_
 refine zB Y (fun h => ?_) (fun h => ?_)
 ·have hk' : k < l.length := by omega
  have hanys := zBV (eqT v) l [] k hk'
  refine rn9 ?_
  refine zB Y (fun h2 => ?_) (fun h2 => ?_)
  ·refine rn6 ?_
   refine zE hR Y ?_
   have := zBA (eqT v) l k hany hk
   rw [zA9 l [] k hk'] at this
   have h3 : eqT v (l.getD k []) = true := decide_eq_true h2
   simp only [zCK, h3, if_true] at this
   rw [this]; simp [zAX]
  ·refine rn5 ?_
   have h3 : eqT v (l.getD k []) = false := decide_eq_false h2
   refine zM ⟨k + 1, ⟨by omega, by rw [hanys, hany, h3]; rfl⟩, by omega, ⟨Y, Y, Y, Y, trivial⟩, Y⟩
 ·have hk' : k = l.length := by omega
  subst hk'
  refine rn5 ?_
  refine zE hR Y ?_
  have := zBA (eqT v) l l.length hany hk
  rw [List.drop_length] at this
  rw [this]; rfl
theorem zLt (l : List zc) (v : zc) (hlen : l.length ≤ 9223372036854775807) :
 zN Tryz.prog 179 [.ro (.strs l) 0 l.length, .str v] (.bool (l.any (eqT v))) := by
 refine zK.value0 (zC (P := Tryz.prog) (fn := Tryz.f179) Y Y (by kernel_rfl) Y (fun c hR hfix => ?_)) (fix := fun _ => False) (fun _ h => h) Y Y
 refine rn0 ?_
 refine zA Y Y Y (indexT l v hlen) ?_
 refine rn8 ?_
 refine zE hR Y ?_
 simp only [zAX, zEJ]
end Go.Proofs.YtkncmbklkhjmgaaGreatDoor
namespace Go.Ax.Tb
open Go.Ax.Bg (zBY)
end Go.Ax.Tb
namespace Go.Ax
variable [Pins]
section
variable {P : Program} {fn : Func} {c : Ctx} {fr : Fr} {H : zH} {k : List It}
theorem zDg {x : Code} (h : Nat) (o : AObj) {ob : AObj} (c' : Cells) (hh : H[h]? = some (some ob)) (ho : o.c.len = 0) (h1 : c'.len = ob.c.len) (h2 : c'.kd = ob.c.kd)
 (h3 : ∀ i j, i < ob.c.len → j < ob.c.sz → c'.at i j = ob.c.at i j ∨ (ob.c.at i j = .nil ∧ c'.at i j = .sl H.length 0 0)) (hk : Ax P fn c (.code x k) fr ((H ++ [some o]).set h (some ⟨ob.ty, c'⟩))) : Ax P fn c (.code x k) fr H := by
 intro w a σ S hr
 have g1 := hr.nowhere1 ho
 have hlt : h < H.length := (List.getElem?_eq_some_iff.1 hh).1
 have hh' : (H ++ [some o])[h]? = some (some ob) := by rw [List.getElem?_append_left hlt]; exact hh
 refine hk w a _ S (g1.recell hh' h1 h2 (fun i j v hi hj hv => ?_))
 rcases h3 i j hi hj with e | ⟨e1, e2⟩
 ·rw [e]; exact hv
 ·rw [e1] at hv
  rw [e2]
  cases hv
  exact .sl0 _ _ (by simp [upσ])
end
end Go.Ax
namespace Go.Proofs.YtkncmbklkhjmgaaGreatDoor
open Go.Ax Go.RowKit Go.Ax.Rt Go.Ax.Idx Go.Ax.Cd Go.Ax.Tb Go.Ax.Bg Go.Ax.Tt
attribute [local irreducible] Ax zAO QOp zK zAN
abbrev readA (o : Option TNode) : AV := .tup [.agg (ze (o.getD zQ)), .bool o.isSome]
theorem zJx (b : UInt8) : ∀ s : zc, (zAR b s).1.length ≤ s.length ∧ (zAR b s).2.1.length ≤ s.length
 | [] => ⟨Nat.le_refl _, Nat.le_refl _⟩
 | c :: r => by
  obtain ⟨h1, h2⟩ := zJx b r
  rw [zAR]
  split
  ·exact ⟨Nat.zero_le _, by show r.length ≤ _; rw [List.length_cons]; omega⟩
  ·exact ⟨by show (c :: (zAR b r).1).length ≤ _; rw [List.length_cons, List.length_cons]; omega, by show (zAR b r).2.1.length ≤ _; rw [List.length_cons]; omega⟩
theorem any_eqT (l : List zc) : l.any (eqT []) = decide ([] ∈ l) := by
 rw [Bool.eq_iff_iff, List.any_eq_true, decide_eq_true_eq]
 constructor
 ·rintro ⟨x, hx, h⟩
  unfold eqT at h
  rw [decide_eq_true_eq] at h
  rw [h]; exact hx
 ·intro h
  exact ⟨[], h, decide_eq_true Y⟩
theorem numO_V {s : zc} {n : Int} (h : zB1 s = some n) : numV s = n := by
 unfold zB1 at h
 unfold numV
 split at h
 ·rename_i m hm
  rw [hm]
  split at h
  ·exact Option.some.inj h
  ·cases h
 ·cases h
theorem zLS {s : zc} {n : Int} (h : zB1 s = some n) : -9223372036854775808 ≤ n ∧ n ≤ 9223372036854775807 := by
 unfold zB1 at h
 split at h
 ·rename_i m hm
  split at h
  ·obtain rfl := Option.some.inj h
   exact zKu hm
  ·cases h
 ·cases h
theorem read_W (l : List zc) (hne : l ≠ []) : (([] ∈ l) → zCX l = none) ∧ (¬ [] ∈ l → (l.getD 0 [] = zEp ∧ l.length = 2 → zCX l = some ⟨0, 0, 0, [], [], l.getD 1 []⟩) ∧
 (¬ (l.getD 0 [] = zEp ∧ l.length = 2) → (l.getD 0 [] = chW → zCX l = (zAZ zCW (l.drop 1)).map (fun x => ⟨1, 0, 0, x.map Prod.fst, x.map Prod.snd, []⟩)) ∧
 (l.getD 0 [] ≠ chW → (l.getD 0 [] = mvW ∧ 3 ≤ l.length → zCX l = (zAZ zB1 (l.drop 1)).map (fun x => ⟨2, x.getD 0 0, x.getD 1 0, x.drop 2, [], []⟩)) ∧ (¬ (l.getD 0 [] = mvW ∧ 3 ≤ l.length) → zCX l = none)))) := by
 unfold zCX
 refine ⟨fun h => by rw [if_pos h], fun h => ?_⟩
 rw [if_neg h]
 refine ⟨fun h1 => by rw [if_pos h1], fun h1 => ?_⟩
 rw [if_neg h1]
 refine ⟨fun h2 => by rw [if_pos h2], fun h2 => ?_⟩
 rw [if_neg h2]
 exact ⟨fun h3 => by rw [if_pos h3], fun h3 => by rw [if_neg h3]⟩
theorem zLy (l : List zc) (k : Nat) : (l.drop 1).getD k [] = l.getD (1 + k) [] := by simp [List.getD, List.getElem?_drop, Nat.add_comm]
theorem tread_ok (s : zc) (h : s.length ≤ 1000000) : zN Tryz.prog 103 [.str s] (readA (zBj s)) := by
 have cs := split1 s 32 h
 have hsl := zBB 32 s
 have hcn := List.count_le_length (a := 32) (l := s)
 have hwl := zC4 32 s
 have hne := zDe 32 s
 have eR : zBj s = zCX (zh 32 s) := rfl
 rw [eR]
 generalize zh 32 s = l at *
 have hlen : l.length ≤ 1000001 := by omega
 have cc := zLt l [] (by omega)
 rw [any_eqT] at cc
 obtain ⟨r1, r2⟩ := read_W l hne
 have hpos : 0 < l.length := List.length_pos_iff.2 hne
 refine zK.value0 (zC (P := Tryz.prog) (fn := Tryz.f103) Y Y (by kernel_rfl) Y (fun c hR hfix => ?_)) (fix := fun _ => False) (fun _ h => h) Y Y
 refine rn4 ?_
 refine zA Y Y Y cs ?_
 refine rn0 ?_
 refine zA Y Y Y cc ?_
 refine rn0 ?_
 refine zB Y (fun h1 => ?_) (fun h1 => ?_)
 ·rw [r1 h1] at hR
  refine rn8 ?_
  refine zG 22 (.agg (ze zQ)) Y (zC8 ⟨AEq.rfl', AEq.rfl', AEq.rfl', AEq.nil, AEq.nil, AEq.rfl', trivial⟩) ?_
  refine sa1 (c' := .box (ze zQ)) Y Y Y Y Y Y Y ?_
  refine rn2 ?_
  exact zE hR Y Y
 obtain ⟨r3, r4⟩ := r2 h1
 have hmem : ∀ k, k < l.length → l.getD k [] ∈ l := fun k hk => zCQ [] hk
 obtain ⟨b, hb⟩ : ∃ b, b = (decide (l.getD 0 [] = zEp) && decide (l.length = 2)) := ⟨_, rfl⟩
 have e2 : decide (((l.length : Nat) : Int) = 2) = decide (l.length = 2) := decide_eq_decide.2 (by omega)
 apply zAD (H := [some ⟨79, .box [.int .i64 0, .int .i64 0, .int .i64 0, .nil, .nil, .str []]⟩]) [(2, .ptr 0 0 0), (4, .ro (.strs l) 0 l.length), (23, .bool b)]
 ·intro fin
  refine rn9 ?_
  refine zW Y Y (fun g1 => ?_) (fun g1 => ?_)
  ·have g1 : l.getD 0 [] = zEp := g1
   rw [decide_eq_true g1, Bool.true_and] at hb
   refine zDc ?_
   refine zAS 23 (.bool b) Y (AEq.of_eq (by rw [hb]; exact congrArg AV.bool e2)) ?_
   exact fin _ ⟨Y, Y, Y, trivial⟩
  ·have g1 : ¬ l.getD 0 [] = zEp := g1
   rw [decide_eq_false g1, Bool.false_and] at hb
   refine zDc ?_
   refine zAS 23 (.bool b) Y (AEq.of_eq (by rw [hb])) ?_
   exact fin _ ⟨Y, Y, Y, trivial⟩
 cases b
 case true =>
  have hb := hb.symm
  rw [Bool.and_eq_true, decide_eq_true_eq, decide_eq_true_eq] at hb
  rw [r3 hb] at hR
  have ck := sclone (l.getD 1 []) (by have := hwl _ (hmem 1 (by omega)); omega)
  have h2 : 1 < l.length := by omega
  refine rn9 ?_
  refine zA Y Y Y ck ?_
  repeat (refine zF (zBE rfl rfl rfl rfl rfl rfl) ?_)
  generalize l.getD 1 [] = py at *
  refine zG 37 (.agg (ze ⟨0, 0, 0, [], [], py⟩)) Y (zC8 ⟨AEq.rfl', AEq.rfl', AEq.rfl', AEq.nil, AEq.nil, AEq.rfl', trivial⟩) ?_
  refine sa1 (c' := .box (ze ⟨0, 0, 0, [], [], py⟩)) Y Y Y Y Y Y Y ?_
  refine rn6 ?_
  exact zE hR Y Y
 have hb : ¬ (l.getD 0 [] = zEp ∧ l.length = 2) := fun q => by
  rw [decide_eq_true q.1, decide_eq_true q.2] at hb
  cases hb
 obtain ⟨r5, r6⟩ := r4 hb
 obtain ⟨m, hm⟩ : ∃ m, m = l.length - 1 := ⟨_, rfl⟩
 have hdl : (l.drop 1).length = m := by rw [List.length_drop, hm]
 have hgd := zLy l
 refine rn9 ?_
 refine zB Y (fun h2 => ?_) (fun h2 => ?_)
 ·rw [r5 h2] at hR
  refine rn8 ?_
  refine sa1 (c' := .box [.int .i64 1, .int .i64 0, .int .i64 0, .nil, .nil, .str []]) Y Y Y Y Y Y Y ?_
  refine zHD ?_
  refine zDg 1 ⟨3, .ints .i64 []⟩ (.box [.int .i64 1, .int .i64 0, .int .i64 0, .sl 2 0 0, .nil, .str []]) Y Y Y Y (fun i' j' _ hj' => ?_) ?_
  ·have hj' : j' < 6 := hj'
   match j', hj' with
   | 0, _ => exact .inl rfl
   | 1, _ => exact .inl rfl
   | 2, _ => exact .inl rfl
   | 3, _ => exact .inr ⟨rfl, rfl⟩
   | 4, _ => exact .inl rfl
   | 5, _ => exact .inl rfl
  refine zDg 1 ⟨26, .strs []⟩ (.box [.int .i64 1, .int .i64 0, .int .i64 0, .sl 2 0 0, .sl 3 0 0, .str []]) Y Y Y Y (fun i' j' _ hj' => ?_) ?_
  ·have hj' : j' < 6 := hj'
   match j', hj' with
   | 0, _ => exact .inl rfl
   | 1, _ => exact .inl rfl
   | 2, _ => exact .inl rfl
   | 3, _ => exact .inl rfl
   | 4, _ => exact .inr ⟨rfl, rfl⟩
   | 5, _ => exact .inl rfl
  refine zAS 45 (.ro (.strs l) 1 m) Y (AEq.of_eq (by congr 1; omega)) ?_
  refine zAS 46 (.int .i64 (m : Nat)) Y (AEq.of_eq (by congr 1; omega)) ?_
  refine zBx [some ⟨79, .box [.int .i64 0, .int .i64 0, .int .i64 0, .nil, .nil, .str []]⟩, some ⟨79, .box [.int .i64 1, .int .i64 0, .int .i64 0, .sl 2 0 0, .sl 3 0 0, .str []]⟩, some ⟨3, .ints .i64 (([] : List (Int × zc)).map Prod.fst)⟩, some ⟨26, .strs (([] : List (Int × zc)).map Prod.snd)⟩] Y ?_
  repeat (refine zt ?_)
  refine zY (ι := Nat × List (Int × zc)) (fun x => [(2, .ptr 0 0 0), (5, .ptr 1 0 0), (45, .ro (.strs l) 1 m), (46, .int .i64 (m : Nat)), (47, .int .i64 (x.1 : Nat))]) (fun x => [some ⟨79, .box [.int .i64 0, .int .i64 0, .int .i64 0, .nil, .nil, .str []]⟩, some ⟨79, .box [.int .i64 1, .int .i64 0, .int .i64 0, .sl 2 0 x.1, .sl 3 0 x.1, .str []]⟩, some ⟨3, .ints .i64 (x.2.map Prod.fst)⟩, some ⟨26, .strs (x.2.map Prod.snd)⟩])
   (fun x => x.1 ≤ m ∧ zAZ zCW ((l.drop 1).take x.1) = some x.2) (fun x => m - x.1) (0, []) ⟨⟨rfl, rfl, rfl, rfl, rfl, trivial⟩, rfl, Nat.zero_le _, rfl⟩ ?_
  rintro ⟨k, xs⟩ ⟨hk, hxs⟩
  simp only at *
  have hxl := zCh hxs
  rw [List.length_take, hdl, Nat.min_eq_left hk] at hxl
  have hKl : (xs.map Prod.fst).length = k := by rw [List.length_map]; exact hxl
  have hOl : (xs.map Prod.snd).length = k := by rw [List.length_map]; exact hxl
  refine rn4 ?_
  refine zB Y (fun h3 => ?_) (fun h3 => ?_)
  ·have hk' : k < m := by omega
   have hkl : 1 + k < l.length := by omega
   have hw := hwl _ (hmem (1 + k) hkl)
   have hst := zDf (l.drop 1) [] (i := k) (by omega)
   have hfl : zCW (l.getD (1 + k) []) = none → zAZ zCW (l.drop 1) = none := fun q => zEa (d := []) (i := k) (by omega) (by rw [hgd]; exact q)
   rw [hgd] at hst
   refine rn9 ?_
   refine zG 52 (.str (l.getD (1 + k) [])) Y (AEq.of_eq Y) ?_
   generalize l.getD (1 + k) [] = w at *
   have c1 := cutS w 58 (by omega)
   have hcl := zJx 58 w
   have hpo : zCW w = match zB1 (zAR 58 w).1 with | some k => if (zAR 58 w).2.1 = [] then none else some (k, (zAR 58 w).2.1) | none => none := rfl
   have c2 := zH4 (zAR 58 w).1 (by omega)
   have c3 := sclone (zAR 58 w).2.1 (by omega)
   generalize (zAR 58 w).2.2 = fd at *
   generalize (zAR 58 w).2.1 = po at *
   generalize (zAR 58 w).1 = cs1 at *
   skip
   refine zA Y Y Y c1 ?_
   refine rn2 ?_
   refine zA Y Y Y c2 ?_
   cases hno : zB1 cs1 with
   | none =>
    rw [hno] at hpo
    rw [hfl hpo] at hR
    refine rn18 ?_
    refine zG 68 (.agg (ze zQ)) Y (zC8 ⟨AEq.rfl', AEq.rfl', AEq.rfl', AEq.nil, AEq.nil, AEq.rfl', trivial⟩) ?_
    refine sa1 (c' := .box (ze zQ)) Y Y Y Y Y Y Y ?_
    refine rn6 ?_
    exact zE hR Y Y
   | some nv =>
    rw [hno] at hpo
    have hnv := numO_V hno
    have hnb := zLS hno
    refine rn6 ?_
    refine zB Y (fun h5 => ?_) (fun h5 => ?_)
    ·have hpo : zCW w = if po = [] then none else some (nv, po) := hpo
     rw [if_pos h5] at hpo
     rw [hfl hpo] at hR
     refine rn8 ?_
     refine zG 68 (.agg (ze zQ)) Y (zC8 ⟨AEq.rfl', AEq.rfl', AEq.rfl', AEq.nil, AEq.nil, AEq.rfl', trivial⟩) ?_
     refine sa1 (c' := .box (ze zQ)) Y Y Y Y Y Y Y ?_
     refine rn6 ?_
     exact zE hR Y Y
    have hpo : zCW w = if po = [] then none else some (nv, po) := hpo
    rw [if_neg h5] at hpo
    have hsn := zEc hxs hpo
    rw [← hst] at hsn
    refine rn1 ?_
    refine zAS 11 (.int .i64 nv) Y (AEq.of_eq (by rw [hnv])) ?_
    generalize hK : xs.map Prod.fst = K at *
    generalize hO : xs.map Prod.snd = O at *
    refine zz (by kernel_rfl) ?_
    refine zI 0 Y (by kernel_rfl) (by kernel_rfl) (by kernel_rfl) Y (zJ Y Y Y Y Y Y) Y ?_
    refine zI 2 Y (by kernel_rfl) (by kernel_rfl) (by kernel_rfl) Y (zU Y) Y ?_
    refine zI 5 Y (by kernel_rfl) (by kernel_rfl) (by kernel_rfl) Y (zJ Y Y Y Y Y Y) Y ?_
    refine zI 7 Y (by kernel_rfl) (by kernel_rfl) (by kernel_rfl) Y (zU Y) Y ?_
    apply zBf (H := [some ⟨79, .box [.int .i64 0, .int .i64 0, .int .i64 0, .nil, .nil, .str []]⟩, some ⟨79, .box [.int .i64 1, .int .i64 0, .int .i64 0, .any, .sl 3 0 k, .str []]⟩, some ⟨3, .ints .i64 (K ++ [nv])⟩, some ⟨26, .strs O⟩]) [(2, .ptr 0 0 0), (5, .ptr 1 0 0), (45, .ro (.strs l) 1 m), (46, .int .i64 (m : Nat)), (47, .int .i64 (k : Nat)), (73, .sl 2 0 (k + 1)), (75, .sl 3 0 k), (78, .ro (.strs [po]) 0 1), (80, .ptr 1 0 3)]
    ·intro fin
     refine zD (is := [1, 3, 6]) (by kernel_rfl) (by simp) Y ⟨fun o ho => ?_, fun o ho => ?_, fun o ho => ?_, trivial⟩
     all_goals (cases ho)
     ·refine rn4 ?_
      refine zD (is := [3, 6]) (by kernel_rfl) (by simp) Y ⟨fun o ho => ?_, fun o ho => ?_, trivial⟩
      all_goals (cases ho)
      ·refine rn3 ?_
       refine zD (is := [4, 6]) (by kernel_rfl) (by simp) Y ⟨fun o ho => ?_, fun o ho => ?_, trivial⟩
       all_goals (cases ho)
       ·refine zS Y Y Y Y Y Y Y Y Y hKl Y Y (by show 0 + 1 ≤ 1; omega) Y (by show (k + 1) * 8 ≤ _ ∧ _; omega) (fun i j _ _ => rfl) (by rw [hfix]; exact fun h => h) ?_
        refine zAI [some ⟨79, .box [.int .i64 0, .int .i64 0, .int .i64 0, .nil, .nil, .str []]⟩, some ⟨79, .box [.int .i64 1, .int .i64 0, .int .i64 0, .any, .sl 3 0 k, .str []]⟩, some ⟨3, .ints .i64 (K ++ [nv])⟩, some ⟨26, .strs O⟩] (zq.eqv (CEq.refl _) (zq.eqv (CEq.refl _) (zq.eqv (CEq.refl _) (zq.eqv (CEq.refl _) zq.nil)))) ?_
        refine rn1 ?_
        refine zD (is := [6, 8]) (by kernel_rfl) (by simp) Y ⟨fun o ho => ?_, fun o ho => ?_, trivial⟩
        all_goals (cases ho)
        ·refine rn4 ?_
         refine zI 11 Y (by kernel_rfl) (by kernel_rfl) (by kernel_rfl) Y (zJ Y Y Y Y Y Y) Y ?_
         refine zD (is := [8]) (by kernel_rfl) (by simp) Y ⟨fun o ho => ?_, trivial⟩
         all_goals (cases ho)
         refine zA Y Y Y c3 ?_
         refine rn1 ?_
         refine zD (is := [9]) (by kernel_rfl) (by simp) Y ⟨fun o ho => ?_, trivial⟩
         all_goals (cases ho)
         refine rn3 ?_
         exact fin _ ⟨Y, Y, Y, Y, Y, Y, Y, Y, Y, trivial⟩
        ·refine zA Y Y Y c3 ?_
         refine rn1 ?_
         refine zD (is := [6, 9]) (by kernel_rfl) (by simp) Y ⟨fun o ho => ?_, fun o ho => ?_, trivial⟩
         all_goals (cases ho)
         ·refine rn4 ?_
          refine zI 11 Y (by kernel_rfl) (by kernel_rfl) (by kernel_rfl) Y (zJ Y Y Y Y Y Y) Y ?_
          refine zD (is := [9]) (by kernel_rfl) (by simp) Y ⟨fun o ho => ?_, trivial⟩
          all_goals (cases ho)
          refine rn3 ?_
          exact fin _ ⟨Y, Y, Y, Y, Y, Y, Y, Y, Y, trivial⟩
         ·refine rn3 ?_
          refine zD (is := [6]) (by kernel_rfl) (by simp) Y ⟨fun o ho => ?_, trivial⟩
          all_goals (cases ho)
          refine rn4 ?_
          refine zI 11 Y (by kernel_rfl) (by kernel_rfl) (by kernel_rfl) Y (zJ Y Y Y Y Y Y) Y ?_
          exact fin _ ⟨Y, Y, Y, Y, Y, Y, Y, Y, Y, trivial⟩
       ·refine rn4 ?_
        refine zD (is := [4]) (by kernel_rfl) (by simp) Y ⟨fun o ho => ?_, trivial⟩
        all_goals (cases ho)
        refine zS Y Y Y Y Y Y Y Y Y hKl Y Y (by show 0 + 1 ≤ 1; omega) Y (by show (k + 1) * 8 ≤ _ ∧ _; omega) (fun i j _ _ => rfl) (by rw [hfix]; exact fun h => h) ?_
        refine zAI [some ⟨79, .box [.int .i64 0, .int .i64 0, .int .i64 0, .nil, .nil, .str []]⟩, some ⟨79, .box [.int .i64 1, .int .i64 0, .int .i64 0, .any, .sl 3 0 k, .str []]⟩, some ⟨3, .ints .i64 (K ++ [nv])⟩, some ⟨26, .strs O⟩] (zq.eqv (CEq.refl _) (zq.eqv (CEq.refl _) (zq.eqv (CEq.refl _) (zq.eqv (CEq.refl _) zq.nil)))) ?_
        refine rn1 ?_
        refine zI 11 Y (by kernel_rfl) (by kernel_rfl) (by kernel_rfl) Y (zJ Y Y Y Y Y Y) Y ?_
        refine zD (is := [8]) (by kernel_rfl) (by simp) Y ⟨fun o ho => ?_, trivial⟩
        all_goals (cases ho)
        refine zA Y Y Y c3 ?_
        refine rn1 ?_
        refine zD (is := [9]) (by kernel_rfl) (by simp) Y ⟨fun o ho => ?_, trivial⟩
        all_goals (cases ho)
        refine rn3 ?_
        exact fin _ ⟨Y, Y, Y, Y, Y, Y, Y, Y, Y, trivial⟩
      ·refine rn4 ?_
       refine zD (is := [3]) (by kernel_rfl) (by simp) Y ⟨fun o ho => ?_, trivial⟩
       all_goals (cases ho)
       refine rn3 ?_
       refine zD (is := [4]) (by kernel_rfl) (by simp) Y ⟨fun o ho => ?_, trivial⟩
       all_goals (cases ho)
       refine zS Y Y Y Y Y Y Y Y Y hKl Y Y (by show 0 + 1 ≤ 1; omega) Y (by show (k + 1) * 8 ≤ _ ∧ _; omega) (fun i j _ _ => rfl) (by rw [hfix]; exact fun h => h) ?_
       refine zAI [some ⟨79, .box [.int .i64 0, .int .i64 0, .int .i64 0, .nil, .nil, .str []]⟩, some ⟨79, .box [.int .i64 1, .int .i64 0, .int .i64 0, .any, .sl 3 0 k, .str []]⟩, some ⟨3, .ints .i64 (K ++ [nv])⟩, some ⟨26, .strs O⟩] (zq.eqv (CEq.refl _) (zq.eqv (CEq.refl _) (zq.eqv (CEq.refl _) (zq.eqv (CEq.refl _) zq.nil)))) ?_
       refine rn1 ?_
       refine zI 11 Y (by kernel_rfl) (by kernel_rfl) (by kernel_rfl) Y (zJ Y Y Y Y Y Y) Y ?_
       refine zD (is := [8]) (by kernel_rfl) (by simp) Y ⟨fun o ho => ?_, trivial⟩
       all_goals (cases ho)
       refine zA Y Y Y c3 ?_
       refine rn1 ?_
       refine zD (is := [9]) (by kernel_rfl) (by simp) Y ⟨fun o ho => ?_, trivial⟩
       all_goals (cases ho)
       refine rn3 ?_
       exact fin _ ⟨Y, Y, Y, Y, Y, Y, Y, Y, Y, trivial⟩
     ·refine rn3 ?_
      refine zD (is := [1, 6]) (by kernel_rfl) (by simp) Y ⟨fun o ho => ?_, fun o ho => ?_, trivial⟩
      all_goals (cases ho)
      ·refine rn4 ?_
       refine zD (is := [4, 6]) (by kernel_rfl) (by simp) Y ⟨fun o ho => ?_, fun o ho => ?_, trivial⟩
       all_goals (cases ho)
       ·refine zS Y Y Y Y Y Y Y Y Y hKl Y Y (by show 0 + 1 ≤ 1; omega) Y (by show (k + 1) * 8 ≤ _ ∧ _; omega) (fun i j _ _ => rfl) (by rw [hfix]; exact fun h => h) ?_
        refine zAI [some ⟨79, .box [.int .i64 0, .int .i64 0, .int .i64 0, .nil, .nil, .str []]⟩, some ⟨79, .box [.int .i64 1, .int .i64 0, .int .i64 0, .any, .sl 3 0 k, .str []]⟩, some ⟨3, .ints .i64 (K ++ [nv])⟩, some ⟨26, .strs O⟩] (zq.eqv (CEq.refl _) (zq.eqv (CEq.refl _) (zq.eqv (CEq.refl _) (zq.eqv (CEq.refl _) zq.nil)))) ?_
        refine rn1 ?_
        refine zD (is := [6, 8]) (by kernel_rfl) (by simp) Y ⟨fun o ho => ?_, fun o ho => ?_, trivial⟩
        all_goals (cases ho)
        ·refine rn4 ?_
         refine zI 11 Y (by kernel_rfl) (by kernel_rfl) (by kernel_rfl) Y (zJ Y Y Y Y Y Y) Y ?_
         refine zD (is := [8]) (by kernel_rfl) (by simp) Y ⟨fun o ho => ?_, trivial⟩
         all_goals (cases ho)
         refine zA Y Y Y c3 ?_
         refine rn1 ?_
         refine zD (is := [9]) (by kernel_rfl) (by simp) Y ⟨fun o ho => ?_, trivial⟩
         all_goals (cases ho)
         refine rn3 ?_
         exact fin _ ⟨Y, Y, Y, Y, Y, Y, Y, Y, Y, trivial⟩
        ·refine zA Y Y Y c3 ?_
         refine rn1 ?_
         refine zD (is := [6, 9]) (by kernel_rfl) (by simp) Y ⟨fun o ho => ?_, fun o ho => ?_, trivial⟩
         all_goals (cases ho)
         ·refine rn4 ?_
          refine zI 11 Y (by kernel_rfl) (by kernel_rfl) (by kernel_rfl) Y (zJ Y Y Y Y Y Y) Y ?_
          refine zD (is := [9]) (by kernel_rfl) (by simp) Y ⟨fun o ho => ?_, trivial⟩
          all_goals (cases ho)
          refine rn3 ?_
          exact fin _ ⟨Y, Y, Y, Y, Y, Y, Y, Y, Y, trivial⟩
         ·refine rn3 ?_
          refine zD (is := [6]) (by kernel_rfl) (by simp) Y ⟨fun o ho => ?_, trivial⟩
          all_goals (cases ho)
          refine rn4 ?_
          refine zI 11 Y (by kernel_rfl) (by kernel_rfl) (by kernel_rfl) Y (zJ Y Y Y Y Y Y) Y ?_
          exact fin _ ⟨Y, Y, Y, Y, Y, Y, Y, Y, Y, trivial⟩
       ·refine rn4 ?_
        refine zD (is := [4]) (by kernel_rfl) (by simp) Y ⟨fun o ho => ?_, trivial⟩
        all_goals (cases ho)
        refine zS Y Y Y Y Y Y Y Y Y hKl Y Y (by show 0 + 1 ≤ 1; omega) Y (by show (k + 1) * 8 ≤ _ ∧ _; omega) (fun i j _ _ => rfl) (by rw [hfix]; exact fun h => h) ?_
        refine zAI [some ⟨79, .box [.int .i64 0, .int .i64 0, .int .i64 0, .nil, .nil, .str []]⟩, some ⟨79, .box [.int .i64 1, .int .i64 0, .int .i64 0, .any, .sl 3 0 k, .str []]⟩, some ⟨3, .ints .i64 (K ++ [nv])⟩, some ⟨26, .strs O⟩] (zq.eqv (CEq.refl _) (zq.eqv (CEq.refl _) (zq.eqv (CEq.refl _) (zq.eqv (CEq.refl _) zq.nil)))) ?_
        refine rn1 ?_
        refine zI 11 Y (by kernel_rfl) (by kernel_rfl) (by kernel_rfl) Y (zJ Y Y Y Y Y Y) Y ?_
        refine zD (is := [8]) (by kernel_rfl) (by simp) Y ⟨fun o ho => ?_, trivial⟩
        all_goals (cases ho)
        refine zA Y Y Y c3 ?_
        refine rn1 ?_
        refine zD (is := [9]) (by kernel_rfl) (by simp) Y ⟨fun o ho => ?_, trivial⟩
        all_goals (cases ho)
        refine rn3 ?_
        exact fin _ ⟨Y, Y, Y, Y, Y, Y, Y, Y, Y, trivial⟩
      ·refine rn4 ?_
       refine zD (is := [1]) (by kernel_rfl) (by simp) Y ⟨fun o ho => ?_, trivial⟩
       all_goals (cases ho)
       refine rn4 ?_
       refine zD (is := [4]) (by kernel_rfl) (by simp) Y ⟨fun o ho => ?_, trivial⟩
       all_goals (cases ho)
       refine zS Y Y Y Y Y Y Y Y Y hKl Y Y (by show 0 + 1 ≤ 1; omega) Y (by show (k + 1) * 8 ≤ _ ∧ _; omega) (fun i j _ _ => rfl) (by rw [hfix]; exact fun h => h) ?_
       refine zAI [some ⟨79, .box [.int .i64 0, .int .i64 0, .int .i64 0, .nil, .nil, .str []]⟩, some ⟨79, .box [.int .i64 1, .int .i64 0, .int .i64 0, .any, .sl 3 0 k, .str []]⟩, some ⟨3, .ints .i64 (K ++ [nv])⟩, some ⟨26, .strs O⟩] (zq.eqv (CEq.refl _) (zq.eqv (CEq.refl _) (zq.eqv (CEq.refl _) (zq.eqv (CEq.refl _) zq.nil)))) ?_
       refine rn1 ?_
       refine zI 11 Y (by kernel_rfl) (by kernel_rfl) (by kernel_rfl) Y (zJ Y Y Y Y Y Y) Y ?_
       refine zD (is := [8]) (by kernel_rfl) (by simp) Y ⟨fun o ho => ?_, trivial⟩
       all_goals (cases ho)
       refine zA Y Y Y c3 ?_
       refine rn1 ?_
       refine zD (is := [9]) (by kernel_rfl) (by simp) Y ⟨fun o ho => ?_, trivial⟩
       all_goals (cases ho)
       refine rn3 ?_
       exact fin _ ⟨Y, Y, Y, Y, Y, Y, Y, Y, Y, trivial⟩
     ·refine rn4 ?_
      refine zD (is := [1, 3]) (by kernel_rfl) (by simp) Y ⟨fun o ho => ?_, fun o ho => ?_, trivial⟩
      all_goals (cases ho)
      ·refine rn4 ?_
       refine zD (is := [3]) (by kernel_rfl) (by simp) Y ⟨fun o ho => ?_, trivial⟩
       all_goals (cases ho)
       refine rn3 ?_
       refine zD (is := [4]) (by kernel_rfl) (by simp) Y ⟨fun o ho => ?_, trivial⟩
       all_goals (cases ho)
       refine zS Y Y Y Y Y Y Y Y Y hKl Y Y (by show 0 + 1 ≤ 1; omega) Y (by show (k + 1) * 8 ≤ _ ∧ _; omega) (fun i j _ _ => rfl) (by rw [hfix]; exact fun h => h) ?_
       refine zAI [some ⟨79, .box [.int .i64 0, .int .i64 0, .int .i64 0, .nil, .nil, .str []]⟩, some ⟨79, .box [.int .i64 1, .int .i64 0, .int .i64 0, .any, .sl 3 0 k, .str []]⟩, some ⟨3, .ints .i64 (K ++ [nv])⟩, some ⟨26, .strs O⟩] (zq.eqv (CEq.refl _) (zq.eqv (CEq.refl _) (zq.eqv (CEq.refl _) (zq.eqv (CEq.refl _) zq.nil)))) ?_
       refine rn1 ?_
       refine zI 11 Y (by kernel_rfl) (by kernel_rfl) (by kernel_rfl) Y (zJ Y Y Y Y Y Y) Y ?_
       refine zD (is := [8]) (by kernel_rfl) (by simp) Y ⟨fun o ho => ?_, trivial⟩
       all_goals (cases ho)
       refine zA Y Y Y c3 ?_
       refine rn1 ?_
       refine zD (is := [9]) (by kernel_rfl) (by simp) Y ⟨fun o ho => ?_, trivial⟩
       all_goals (cases ho)
       refine rn3 ?_
       exact fin _ ⟨Y, Y, Y, Y, Y, Y, Y, Y, Y, trivial⟩
      ·refine rn3 ?_
       refine zD (is := [1]) (by kernel_rfl) (by simp) Y ⟨fun o ho => ?_, trivial⟩
       all_goals (cases ho)
       refine rn4 ?_
       refine zD (is := [4]) (by kernel_rfl) (by simp) Y ⟨fun o ho => ?_, trivial⟩
       all_goals (cases ho)
       refine zS Y Y Y Y Y Y Y Y Y hKl Y Y (by show 0 + 1 ≤ 1; omega) Y (by show (k + 1) * 8 ≤ _ ∧ _; omega) (fun i j _ _ => rfl) (by rw [hfix]; exact fun h => h) ?_
       refine zAI [some ⟨79, .box [.int .i64 0, .int .i64 0, .int .i64 0, .nil, .nil, .str []]⟩, some ⟨79, .box [.int .i64 1, .int .i64 0, .int .i64 0, .any, .sl 3 0 k, .str []]⟩, some ⟨3, .ints .i64 (K ++ [nv])⟩, some ⟨26, .strs O⟩] (zq.eqv (CEq.refl _) (zq.eqv (CEq.refl _) (zq.eqv (CEq.refl _) (zq.eqv (CEq.refl _) zq.nil)))) ?_
       refine rn1 ?_
       refine zI 11 Y (by kernel_rfl) (by kernel_rfl) (by kernel_rfl) Y (zJ Y Y Y Y Y Y) Y ?_
       refine zD (is := [8]) (by kernel_rfl) (by simp) Y ⟨fun o ho => ?_, trivial⟩
       all_goals (cases ho)
       refine zA Y Y Y c3 ?_
       refine rn1 ?_
       refine zD (is := [9]) (by kernel_rfl) (by simp) Y ⟨fun o ho => ?_, trivial⟩
       all_goals (cases ho)
       refine rn3 ?_
       exact fin _ ⟨Y, Y, Y, Y, Y, Y, Y, Y, Y, trivial⟩
    refine zD (is := [10]) (by kernel_rfl) (by simp) Y ⟨fun o ho => ?_, trivial⟩
    all_goals (cases ho)
    refine zS Y Y Y Y Y Y Y Y Y hOl Y Y (by show 0 + 1 ≤ 1; omega) Y (by show (k + 1) * 16 ≤ _ ∧ _; omega) (fun i j _ _ => rfl) (by rw [hfix]; exact fun h => h) ?_
    refine zAI [some ⟨79, .box [.int .i64 0, .int .i64 0, .int .i64 0, .nil, .nil, .str []]⟩, some ⟨79, .box [.int .i64 1, .int .i64 0, .int .i64 0, .any, .any, .str []]⟩, some ⟨3, .ints .i64 (K ++ [nv])⟩, some ⟨26, .strs (O ++ [po])⟩] (zq.eqv (CEq.refl _) (zq.eqv (CEq.refl _) (zq.eqv (CEq.refl _) (zq.eqv (CEq.refl _) zq.nil)))) ?_
    refine rn1 ?_
    refine zD (is := [12]) (by kernel_rfl) (by simp) Y ⟨fun o ho => ?_, trivial⟩
    all_goals (cases ho)
    refine rn9 ?_
    refine zI 13 Y (by kernel_rfl) (by kernel_rfl) (by kernel_rfl) Y (zJ Y Y Y Y Y Y) Y ?_
    refine zD (is := [14]) (by kernel_rfl) (by simp) Y ⟨fun o ho => ?_, trivial⟩
    all_goals (cases ho)
    refine rn9 ?_
    refine zr (by kernel_rfl) ?_
    refine rn5 ?_
    exact zM ⟨(k + 1, xs ++ [(nv, po)]), ⟨by omega, hsn⟩, by simp only; omega, ⟨Y, Y, Y, Y, Y, trivial⟩, by simp only [List.map_append, hK, hO]; rfl⟩
  ·have hke : k = m := by omega
   subst hke
   rw [← hdl, List.take_length] at hxs
   rw [hxs] at hR
   generalize hK : xs.map Prod.fst = K at *
   generalize hO : xs.map Prod.snd = O at *
   refine zDc ?_
   refine zHg [none, none, some ⟨3, .ints .i64 K⟩, some ⟨26, .strs O⟩] [some ⟨79, .box [.int .i64 0, .int .i64 0, .int .i64 0, .nil, .nil, .str []]⟩, some ⟨79, .box [.int .i64 1, .int .i64 0, .int .i64 0, .ro (.ints .i64 K) 0 k, .ro (.strs O) 0 k, .str []]⟩, none, none] [(2, .ptr 0 0 0), (5, .ptr 1 0 0)] ?_ ?_ Y ?_ ⟨⟨_, Y, .inl Y⟩, ⟨_, Y, .inl Y⟩, trivial⟩ ?_
   ·intro h o ho
    match h, ho with
    | 0, ho => simp at ho
    | 1, ho => simp at ho
    | 2, ho => exact ho
    | 3, ho => exact ho
    | _ + 4, ho => simp at ho
   ·intro h o ho
    match h, ho with
    | 0, ho => simp at ho
    | 1, ho => simp at ho
    | 2, ho => cases ho; exact zl
    | 3, ho => cases ho; exact zDu
    | _ + 4, ho => simp at ho
   ·intro h o ho
    match h, ho with
    | 0, ho => cases ho; exact ⟨fun o h => by simp at h, _, rfl, rfl, rfl, rfl, fun i j _ _ => .inl rfl⟩
    | 1, ho =>
     cases ho
     refine ⟨fun o h => by simp at h, _, Y, Y, Y, Y, fun i j _ hj => ?_⟩
     have hj : j < 6 := hj
     match j, hj with
     | 0, _ => exact .inl rfl
     | 1, _ => exact .inl rfl
     | 2, _ => exact .inl rfl
     | 3, _ => exact .inr (.inr ⟨rfl, fun o ho => by cases ho; show 0 + k ≤ K.length; omega⟩)
     | 4, _ => exact .inr (.inr ⟨rfl, fun o ho => by cases ho; show 0 + k ≤ O.length; omega⟩)
     | 5, _ => exact .inl rfl
    | 2, ho => simp at ho
    | 3, ho => simp at ho
    | _ + 4, ho => simp at ho
   refine rn6 ?_
   refine zG 83 (.agg (ze ⟨1, 0, 0, K, O, []⟩)) Y (AEq.of_eq (by rw [show ze ⟨1, 0, 0, K, O, []⟩ = [.int .i64 1, .int .i64 0, .int .i64 0, .ro (.ints .i64 K) 0 k, .ro (.strs O) 0 k, .str []] by show [AV.int .i64 1, AV.int .i64 0, AV.int .i64 0, AV.ro (.ints .i64 K) 0 K.length, AV.ro (.strs O) 0 O.length, AV.str []] = _; rw [hKl, hOl]]; rfl)) ?_
   refine sa1 (c' := .box (ze ⟨1, 0, 0, K, O, []⟩)) Y Y Y Y Y Y Y ?_
   refine rn6 ?_
   refine zE hR Y ?_
   subst hK hO
   rfl
 obtain ⟨r7, r8⟩ := r6 h2
 refine rn9 ?_
 refine zW Y Y (fun g1 => ?yes) (fun g1 => ?no)
 case no =>
  have g1 : ¬ l.getD 0 [] = mvW := g1
  rw [r8 (fun q => g1 q.1)] at hR
  refine zHD ?_
  refine zG 128 (.agg (ze zQ)) Y (zC8 ⟨AEq.rfl', AEq.rfl', AEq.rfl', AEq.nil, AEq.nil, AEq.rfl', trivial⟩) ?_
  refine sa1 (c' := .box (ze zQ)) Y Y Y Y Y Y Y ?_
  refine rn0 ?_
  exact zE hR Y Y
 have g1 : l.getD 0 [] = mvW := g1
 refine rn8 ?_
 refine zB Y (fun g2 => ?yes2) (fun g2 => ?no2)
 case no2 =>
  rw [r8 (fun q => by omega)] at hR
  refine rn9 ?_
  refine zG 128 (.agg (ze zQ)) Y (zC8 ⟨AEq.rfl', AEq.rfl', AEq.rfl', AEq.nil, AEq.nil, AEq.rfl', trivial⟩) ?_
  refine sa1 (c' := .box (ze zQ)) Y Y Y Y Y Y Y ?_
  refine rn0 ?_
  exact zE hR Y Y
 rw [r7 ⟨g1, by omega⟩] at hR
 refine rn8 ?_
 refine sa1 (c' := .box [.int .i64 2, .int .i64 0, .int .i64 0, .nil, .nil, .str []]) Y Y Y Y Y Y Y ?_
 refine zHD ?_
 refine zDg 1 ⟨3, .ints .i64 []⟩ (.box [.int .i64 2, .int .i64 0, .int .i64 0, .sl 2 0 0, .nil, .str []]) Y Y Y Y (fun i' j' _ hj' => ?_) ?_
 ·have hj' : j' < 6 := hj'
  match j', hj' with
  | 0, _ => exact .inl rfl
  | 1, _ => exact .inl rfl
  | 2, _ => exact .inl rfl
  | 3, _ => exact .inr ⟨rfl, rfl⟩
  | 4, _ => exact .inl rfl
  | 5, _ => exact .inl rfl
 refine zAS 96 (.ro (.strs l) 1 m) Y (AEq.of_eq (by congr 1; omega)) ?_
 refine zAS 97 (.int .i64 (m : Nat)) Y (AEq.of_eq (by congr 1; omega)) ?_
 refine zBx [some ⟨79, .box [.int .i64 0, .int .i64 0, .int .i64 0, .nil, .nil, .str []]⟩, some ⟨79, .box [.int .i64 2, .int .i64 (([] : List Int).getD 0 0), .int .i64 (([] : List Int).getD 1 0), .sl 2 0 (0 - 2), .nil, .str []]⟩, some ⟨3, .ints .i64 (([] : List Int).drop 2)⟩] Y ?_
 repeat (refine zt ?_)
 refine zY (ι := Nat × List Int) (fun x => [(2, .ptr 0 0 0), (13, .ptr 1 0 0), (96, .ro (.strs l) 1 m), (97, .int .i64 (m : Nat)), (98, .int .i64 (x.1 : Nat))]) (fun x => [some ⟨79, .box [.int .i64 0, .int .i64 0, .int .i64 0, .nil, .nil, .str []]⟩, some ⟨79, .box [.int .i64 2, .int .i64 (x.2.getD 0 0), .int .i64 (x.2.getD 1 0), .sl 2 0 (x.1 - 2), .nil, .str []]⟩, some ⟨3, .ints .i64 (x.2.drop 2)⟩])
  (fun x => x.1 ≤ m ∧ zAZ zB1 ((l.drop 1).take x.1) = some x.2) (fun x => m - x.1) (0, []) ⟨⟨rfl, rfl, rfl, rfl, rfl, trivial⟩, rfl, Nat.zero_le _, rfl⟩ ?_
 rintro ⟨k, xs⟩ ⟨hk, hxs⟩
 simp only at *
 have hxl := zCh hxs
 rw [List.length_take, hdl, Nat.min_eq_left hk] at hxl
 refine rn4 ?_
 refine zB Y (fun h3 => ?_) (fun h3 => ?_)
 ·have hk' : k < m := by omega
  have hkl : 1 + k < l.length := by omega
  have hw := hwl _ (hmem (1 + k) hkl)
  have hst := zDf (l.drop 1) [] (i := k) (by omega)
  have hfl : zB1 (l.getD (1 + k) []) = none → zAZ zB1 (l.drop 1) = none := fun q => zEa (d := []) (i := k) (by omega) (by rw [hgd]; exact q)
  rw [hgd] at hst
  refine rn9 ?_
  refine zG 104 (.str (l.getD (1 + k) [])) Y (AEq.of_eq Y) ?_
  generalize l.getD (1 + k) [] = w at *
  have c2 := zH4 w (by omega)
  refine zA Y Y Y c2 ?_
  cases hno : zB1 w with
  | none =>
   rw [hfl hno] at hR
   refine rn9 ?_
   refine zG 110 (.agg (ze zQ)) Y (zC8 ⟨AEq.rfl', AEq.rfl', AEq.rfl', AEq.nil, AEq.nil, AEq.rfl', trivial⟩) ?_
   refine sa1 (c' := .box (ze zQ)) Y Y Y Y Y Y Y ?_
   refine rn6 ?_
   exact zE hR Y Y
  | some nv =>
   have hnv := numO_V hno
   have hnb := zLS hno
   have hsn := zEc hxs hno
   rw [← hst] at hsn
   rw [hnv]
   obtain rfl | rfl | ⟨j, rfl⟩ : k = 0 ∨ k = 1 ∨ ∃ j, k = j + 2 := by
    rcases k with _ | _ | j
    ·exact .inl Y
    ·exact .inr (.inl Y)
    ·exact .inr (.inr ⟨j, Y⟩)
   ·match xs, hxl with
    | [], _ =>
     refine rn9 ?_
     exact zM ⟨(0 + 1, [] ++ [nv]), ⟨by omega, hsn⟩, by simp only; omega, ⟨Y, Y, Y, Y, Y, trivial⟩, Y⟩
   ·match xs, hxl with
    | [a], _ =>
     refine rn9 ?_
     exact zM ⟨(1 + 1, [a] ++ [nv]), ⟨by omega, hsn⟩, by simp only; omega, ⟨Y, Y, Y, Y, Y, trivial⟩, Y⟩
   ·match xs, hxl with
    | a :: b :: r, hxl =>
     have hrl : r.length = j := by simpa using hxl
     refine rn5 ?_
     refine zS Y Y Y Y Y Y Y Y Y hrl Y Y (by show 0 + 1 ≤ 1; omega) Y (by show (j + 1) * 8 ≤ _ ∧ _; omega) (fun i j _ _ => rfl) (by rw [hfix]; exact fun h => h) ?_
     refine rn9 ?_
     exact zM ⟨(j + 2 + 1, a :: b :: r ++ [nv]), ⟨by omega, hsn⟩, by simp only; omega, ⟨Y, Y, Y, Y, Y, trivial⟩, Y⟩
 ·have hke : k = m := by omega
  subst hke
  rw [← hdl, List.take_length] at hxs
  rw [hxs] at hR
  have hdl2 : (xs.drop 2).length = k - 2 := by rw [List.length_drop, hxl]
  have hR : c.R = fun r' _ => r' = readA (some ⟨2, xs.getD 0 0, xs.getD 1 0, xs.drop 2, [], []⟩) := hR
  generalize xs.getD 0 0 = p0 at *
  generalize xs.getD 1 0 = p1 at *
  generalize xs.drop 2 = K at *
  generalize k - 2 = k2 at *
  refine zDc ?_
  refine zHg [none, none, some ⟨3, .ints .i64 K⟩] [some ⟨79, .box [.int .i64 0, .int .i64 0, .int .i64 0, .nil, .nil, .str []]⟩, some ⟨79, .box [.int .i64 2, .int .i64 (p0), .int .i64 (p1), .ro (.ints .i64 K) 0 k2, .nil, .str []]⟩, none] [(2, .ptr 0 0 0), (13, .ptr 1 0 0)] ?_ ?_ Y ?_ ⟨⟨_, Y, .inl Y⟩, ⟨_, Y, .inl Y⟩, trivial⟩ ?_
  ·intro h o ho
   match h, ho with
   | 0, ho => simp at ho
   | 1, ho => simp at ho
   | 2, ho => exact ho
   | _ + 3, ho => simp at ho
  ·intro h o ho
   match h, ho with
   | 0, ho => simp at ho
   | 1, ho => simp at ho
   | 2, ho => cases ho; exact zl
   | _ + 3, ho => simp at ho
  ·intro h o ho
   match h, ho with
   | 0, ho => cases ho; exact ⟨fun o h => by simp at h, _, rfl, rfl, rfl, rfl, fun i j _ _ => .inl rfl⟩
   | 1, ho =>
    cases ho
    refine ⟨fun o h => by simp at h, _, Y, Y, Y, Y, fun i j _ hj => ?_⟩
    have hj : j < 6 := hj
    match j, hj with
    | 0, _ => exact .inl rfl
    | 1, _ => exact .inl rfl
    | 2, _ => exact .inl rfl
    | 3, _ => exact .inr (.inr ⟨rfl, fun o ho => by cases ho; show 0 + k2 ≤ K.length; omega⟩)
    | 4, _ => exact .inl rfl
    | 5, _ => exact .inl rfl
   | 2, ho => simp at ho
   | _ + 3, ho => simp at ho
  refine rn6 ?_
  refine zG 127 (.agg (ze ⟨2, p0, p1, K, [], []⟩)) Y (zC8 ⟨AEq.rfl', AEq.rfl', AEq.rfl', AEq.of_eq (by show AV.ro _ _ k2 = AV.ro _ _ K.length; rw [hdl2]), AEq.nil, AEq.rfl', trivial⟩) ?_
  refine sa1 (c' := .box (ze ⟨2, p0, p1, K, [], []⟩)) Y Y Y Y Y Y Y ?_
  refine rn6 ?_
  exact zE hR Y Y
theorem zHp (b : UInt8) (s : zc) : zFS b s = true ↔ s.getLast? = some b := by
 unfold zFS
 rw [decide_eq_true_eq]
 cases s with
 | nil => exact ⟨fun h => (by cases h), fun h => (by cases h)⟩
 | cons a r =>
  have e := List.dropLast_concat_getLast (show a :: r ≠ [] by simp)
  generalize (a :: r).dropLast = p at e
  generalize (a :: r).getLast (by simp) = x at e
  rw [← e]
  simp
theorem zEb {α : Type} {f : zc → Option α} {P : zc → α → Prop} (h0 : ∀ w x, f w = some x → P w x) : ∀ {l : List zc} {xs : List α}, zAZ f l = some xs → ∀ x ∈ xs, ∃ w ∈ l, P w x
 | [], xs, h, x, hx => by
  obtain rfl : [] = xs := by simpa [zAZ] using h
  cases hx
 | a :: r, xs, h, x, hx => by
  rw [zAZ] at h
  split at h
  ·rename_i y hy
   cases hr : zAZ f r with
   | none => rw [hr] at h; cases h
   | some l =>
    rw [hr] at h
    obtain rfl : y :: l = xs := by simpa using h
    rcases List.mem_cons.1 hx with rfl | hx
    ·exact ⟨a, List.mem_cons_self .., h0 _ _ hy⟩
    ·obtain ⟨w, hw, hp⟩ := zEb h0 hr x hx
     exact ⟨w, List.mem_cons_of_mem _ hw, hp⟩
  ·cases h
theorem zHB {s : zc} (hs : s.length ≤ 1000000) {n : TNode} (h : zBj s = some n) : ShortN n := by
 have hsl := zBB 32 s
 have hcn := List.count_le_length (a := 32) (l := s)
 have hwl := zC4 32 s
 have h : zCX (zh 32 s) = some n := h
 generalize zh 32 s = l at *
 unfold zCX at h
 split at h
 ·cases h
 split at h
 ·obtain rfl := Option.some.inj h
  rename_i h2
  have h1 := hwl (l.getD 1 []) (zCQ [] (by omega))
  exact ⟨(Nat.zero_le _), (Nat.zero_le _), fun s hs => (by cases hs), by show (l.getD 1 []).length ≤ _; omega⟩
 split at h
 ·cases hr : zAZ zCW (l.drop 1) with
  | none => rw [hr] at h; cases h
  | some xs =>
   rw [hr] at h
   obtain rfl := Option.some.inj h
   have h1 := zCh hr
   rw [List.length_drop] at h1
   refine ⟨by show (xs.map _).length ≤ _; rw [List.length_map]; omega, by show (xs.map _).length ≤ _; rw [List.length_map]; omega, fun o ho => ?_, by show ([] : zc).length ≤ _; exact Nat.zero_le _⟩
   obtain ⟨x, hx, rfl⟩ := List.mem_map.1 ho
   obtain ⟨w, hw, hp⟩ := zEb (P := fun w x => x.2.length ≤ w.length) (fun w x hwx => by
    unfold zCW at hwx
    split at hwx
    ·split at hwx
     ·cases hwx
     ·obtain rfl := Option.some.inj hwx
      exact (zJx 58 w).2
    ·cases hwx) hr x hx
   have := hwl w (List.mem_of_mem_drop hw)
   omega
 split at h
 ·cases hr : zAZ zB1 (l.drop 1) with
  | none => rw [hr] at h; cases h
  | some xs =>
   rw [hr] at h
   obtain rfl := Option.some.inj h
   have h1 := zCh hr
   rw [List.length_drop] at h1
   exact ⟨by show (xs.drop 2).length ≤ _; rw [List.length_drop]; omega, (Nat.zero_le _), fun s hs => (by cases hs), by show ([] : zc).length ≤ _; exact Nat.zero_le _⟩
 ·cases h
theorem zIO (n : TNode) (j h : Nat) (hj : j < 6) : ((ze n).getD j .any).forget h = (ze n).getD j .any := by
 match j, hj with
 | 0, _ => rfl
 | 1, _ => rfl
 | 2, _ => rfl
 | 3, _ => rfl
 | 4, _ => rfl
 | 5, _ => rfl
theorem rowN6 (n : TNode) (j : Nat) (hj : j < 6) : (zFf 1 6 (ze n)).at 0 j = (ze n).getD j .any := by
 match j, hj with
 | 0, _ => rfl
 | 1, _ => rfl
 | 2, _ => rfl
 | 3, _ => rfl
 | 4, _ => rfl
 | 5, _ => rfl
theorem zHa (t : zm) : zj (zf t) := by
 intro i j _ hj
 exact zIP _ j
abbrev zF1 (p : zm × Int × Int) : AV := .tup [if p.2.2 = 0 then .ro (zf p.1) 0 p.1.length else .nil, .int .i64 p.2.1, .int .i64 p.2.2]
theorem zH6 (s : zc) (hs : s.length ≤ 9223372036854775807) : zN Tryz.prog 34 [.str s] (zF1 (zBD s)) := by
 refine zK.value0 (zC (P := Tryz.prog) (fn := Tryz.f34) Y Y (by kernel_rfl) Y (fun c hR hfix => ?_)) (fix := fun _ => False) (fun _ h => h) Y (by unfold zF1; split <;> rfl)
 unfold zBD at hR
 refine rn6 ?_
 refine zB Y (fun h1 => ?_) (fun h1 => ?_)
 ·rw [if_pos (by omega)] at hR
  refine rn2 ?_
  exact zE hR Y Y
 rw [if_neg (by omega)] at hR
 have hl : s.length ≤ 8192 := by omega
 have cc := cutsuf s 10 (by omega)
 have ccn := zK3 s 10
 have hcn := List.count_le_length (a := 10) (l := s)
 by_cases he : zFS 10 s = true
 ·rw [if_neg (fun q => q ((zHp 10 s).1 he))] at hR
  have e1 : cutE 10 s = (s.dropLast, true) := by unfold cutE; rw [if_pos he, List.dropLast_eq_take]
  rw [e1] at cc
  have hbl : s.dropLast.length ≤ 8192 := by rw [List.length_dropLast]; omega
  have csp := split1 s.dropLast 10 (by omega)
  have hsl := zBB 10 s.dropLast
  have hcn2 := List.count_le_length (a := 10) (l := s.dropLast)
  have hwl := zC4 10 s.dropLast
  generalize zh 10 s.dropLast = L at *
  have hLl : L.length ≤ 8193 := by omega
  refine rn1 ?_
  refine zA Y Y Y cc ?_
  refine rn5 ?_
  refine zHU 7 ⟨79, zf []⟩ Y Y ?_
  refine zA Y Y Y csp ?_
  refine rn3 ?_
  refine zY (ι := Nat × zm) (fun x => [(7, .sl 0 0 x.1), (27, .ro (.strs L) 0 L.length), (28, .int .i64 (L.length : Nat)), (29, .int .i64 (x.1 : Nat))]) (fun x => [some ⟨79, zf x.2⟩])
   (fun x => x.1 ≤ L.length ∧ zAZ zBj (L.take x.1) = some x.2) (fun x => L.length - x.1) (0, []) ⟨⟨rfl, rfl, rfl, rfl, trivial⟩, rfl, Nat.zero_le _, rfl⟩ ?_
  rintro ⟨k, ts⟩ ⟨hk, hts⟩
  simp only at *
  have htl := zCh hts
  rw [List.length_take, Nat.min_eq_left hk] at htl
  refine rn4 ?_
  refine zB Y (fun h3 => ?_) (fun h3 => ?_)
  ·have hk' : k < L.length := by omega
   have hw := hwl _ (zCQ [] hk')
   have hst := zDf L [] hk'
   have cr := tread_ok (L.getD k []) (by omega)
   have hfl : zBj (L.getD k []) = none → zAZ zBj L = none := fun q => zEa (d := []) hk' q
   have hff : zBj (L.getD k []) = none → L.findIdx (fun w => (zBj w).isNone) = k := fun q => zHs hts hk' q
   refine rn9 ?_
   refine zG 35 (.str (L.getD k [])) Y (AEq.of_eq Y) ?_
   generalize L.getD k [] = w at *
   refine zA Y Y Y cr ?_
   cases hr : zBj w with
   | none =>
    rw [hfl hr] at hR
    have hf2 := hff hr
    have hR : c.R = fun r' _ => r' = .tup [.nil, .int .i64 ((k : Int) + 1), .int .i64 5] := by
     rw [hR]
     show (fun r' _ => r' = zF1 ([], ((L.findIdx (fun w => (zBj w).isNone) : Nat) : Int) + 1, 5)) = _
     rw [hf2]; rfl
    refine rn4 ?_
    refine sa1 (c' := .box (ze zQ)) Y Y Y Y Y Y Y ?_
    refine rn6 ?_
    exact zE hR Y Y
   | some n =>
    have hsn := zEc hts hr
    rw [← hst] at hsn
    refine rn4 ?_
    refine sa1 (c' := .box (ze n)) Y Y Y Y Y Y Y ?_
    refine rn9 ?_
    refine zG 44 (.agg (ze n)) Y (AEq.of_eq Y) ?_
    repeat (refine zd rfl rfl rfl rfl rfl rfl rfl rfl rfl rfl rfl ?_)
    refine zS Y Y Y Y Y Y Y Y Y htl Y Y (by show 0 + 1 ≤ 1; omega) Y (by show (k + 1) * 88 ≤ _ ∧ _; omega) ?_ (by rw [hfix]; exact fun h => h) ?_
    ·intro i' j' hi' hj'
     exact zE6 zQ 6 ze zIO ts n _ (rowN6 n) 0 i' j' hi' hj'
    refine zAI [some ⟨79, zf (ts ++ [n])⟩, some ⟨79, .box (ze n)⟩] (zq.eqv (zF5 zQ 6 ze ts n _ (rowN6 n)) (zq.eqv (CEq.refl _) zq.nil)) ?_
    refine zCM ?_
    refine zO ?_
    refine zBa [some ⟨79, zf (ts ++ [n])⟩] [some ⟨79, .box (ze n)⟩] [(7, .sl 0 0 (k + 1)), (27, .ro (.strs L) 0 L.length), (28, .int .i64 (L.length : Nat)), (29, .int .i64 (k : Nat))] Y ⟨Y, Y, Y, Y, trivial⟩ (fun h hh => by rw [hfix] at hh; exact absurd hh id) (by
     intro h o ho
     match h, ho with
     | 0, ho =>
      cases ho
      intro i j _ hj
      have hj : j < 6 := hj
      match j, hj with
      | 0, _ => rfl
      | 1, _ => rfl
      | 2, _ => rfl
      | 3, _ => rfl
      | 4, _ => rfl
      | 5, _ => rfl
     | _ + 1, ho => simp at ho) rfl ?_
    refine rn3 ?_
    exact zM ⟨(k + 1, ts ++ [n]), ⟨by omega, hsn⟩, by simp only; omega, ⟨Y, Y, Y, Y, trivial⟩, Y⟩
  ·have hke : k = L.length := by omega
   subst hke
   rw [List.take_length] at hts
   rw [hts] at hR
   have hTs : ShortT ts := ⟨by omega, fun n hn => by
    obtain ⟨w, hw, hp⟩ := zEb (P := fun w x => zBj w = some x) (fun w x h => h) hts n hn
    exact zHB (by have := hwl w hw; omega) hp⟩
   have ct := zCg ts hTs
   refine zDc ?_
   refine zAb 0 7 L.length [] Y (zHa _) Y (by show L.length ≤ ts.length; omega) trivial ?_
   refine zAS 7 (.ro (zf ts) 0 ts.length) Y (AEq.of_eq (by rw [htl])) ?_
   refine rn0 ?_
   refine zA Y Y Y ct ?_
   refine rn3 ?_
   refine zB Y (fun h4 => ?_) (fun h4 => ?_)
   ·have hR : c.R = fun r' _ => r' = .tup [.nil, .int .i64 0, .int .i64 (zA1 ts)] := by
     rw [hR]
     show (fun r' _ => r' = zF1 (if zA1 ts ≠ 0 then ([], 0, zA1 ts) else (ts, 0, 0))) = _
     rw [if_pos h4]
     show (fun r' _ => r' = AV.tup [if zA1 ts = 0 then _ else AV.nil, _, _]) = _
     rw [if_neg h4]
    refine rn2 ?_
    exact zE hR Y Y
   ·have hR : c.R = fun r' _ => r' = .tup [.ro (zf ts) 0 ts.length, .int .i64 0, .int .i64 0] := by
     rw [hR]
     show (fun r' _ => r' = zF1 (if zA1 ts ≠ 0 then ([], 0, zA1 ts) else (ts, 0, 0))) = _
     rw [if_neg h4]; rfl
    refine rn1 ?_
    exact zE hR Y Y
 ·rw [if_pos (fun q => he ((zHp 10 s).2 q))] at hR
  have e1 : cutE 10 s = (s, false) := by unfold cutE; rw [if_neg he]
  rw [e1] at cc
  refine rn1 ?_
  refine zA Y Y Y cc ?_
  refine rn5 ?_
  refine zA Y Y Y ccn ?_
  refine rn3 ?_
  exact zE hR Y Y
/-- what the line of a node asks -/
structure LineOK (n : TNode) : Prop where
 kd : n.kind = 0 ∨ n.kind = 1 ∨ n.kind = 2
 pl : -9223372036854775808 ≤ n.player ∧ n.player ≤ 9223372036854775807
 nf : -9223372036854775808 ≤ n.info ∧ n.info ≤ 9223372036854775807
 nx : ∀ k ∈ n.next, -9223372036854775808 ≤ k ∧ k ≤ 9223372036854775807
 od : n.kind = 1 → n.odds.length = n.next.length
 len : ∀ i, i ≤ (zu n).length → (Lib.join ((zu n).take i) [32]).length ≤ 1000000
 wl : ∀ w ∈ zu n, w.length ≤ 1000000
 pay : n.pay.length ≤ 1000000
 sml : n.next.length ≤ 1000000
def zBU (n : TNode) (i : Nat) : zc := Lib.join ((zu n).take i) [32]
theorem zKq {n : TNode} {i : Nat} (h0 : 0 < i) (h : i < (zu n).length) : zBU n (i + 1) = zBU n i ++ ([32] ++ (zu n).getD i []) := by
 unfold zBU
 rw [zDf _ [] h, zDY]
 intro e
 have := congrArg List.length e
 rw [List.length_take] at this
 have h2 : ([] : List zc).length = 0 := rfl
 omega
theorem zMW (n : TNode) : zBU n (zu n).length = zBL n := by unfold zBU; rw [List.take_length]; rfl
theorem words1 {kd pl nf : Int} {nx : List Int} {od : List zc} {py : zc} (h : kd = 1) (ho : od.length = nx.length) : (zu ⟨kd, pl, nf, nx, od, py⟩).length = nx.length + 1 ∧ zBU ⟨kd, pl, nf, nx, od, py⟩ 1 = chW ∧ ∀ k, k < nx.length → (zu ⟨kd, pl, nf, nx, od, py⟩).getD (k + 1) [] = Lib.itoa (nx.getD k 0) ++ ([58] ++ od.getD k []) := by
 subst h
 have e : zu ⟨1, pl, nf, nx, od, py⟩ = chW :: (nx.zip od).map zDZ := by unfold zu; rw [if_neg (show ¬ (1 : Int) = 0 by decide), if_pos rfl]
 have hz : (nx.zip od).length = nx.length := by rw [List.length_zip]; omega
 refine ⟨by rw [e, List.length_cons, List.length_map, hz], by unfold zBU; rw [e, List.take_succ_cons, List.take_zero, Lib.join_one], fun k hk => ?_⟩
 rw [e]
 show ((nx.zip od).map zDZ).getD k [] = _
 simp only [List.getD, List.getElem?_map]
 rw [List.getElem?_eq_getElem (by omega), List.getElem_zip, List.getElem?_eq_getElem hk, List.getElem?_eq_getElem (by omega)]
 rfl
theorem words2 {kd pl nf : Int} {nx : List Int} {od : List zc} {py : zc} (h : kd = 2) : (zu ⟨kd, pl, nf, nx, od, py⟩).length = nx.length + 3 ∧ zBU ⟨kd, pl, nf, nx, od, py⟩ 3 = mvW ++ ([32] ++ (Lib.itoa pl ++ ([32] ++ Lib.itoa nf))) ∧ ∀ k, k < nx.length → (zu ⟨kd, pl, nf, nx, od, py⟩).getD (k + 3) [] = Lib.itoa (nx.getD k 0) := by
 subst h
 have e : zu ⟨2, pl, nf, nx, od, py⟩ = mvW :: (pl :: nf :: nx).map Lib.itoa := by unfold zu; rw [if_neg (show ¬ (2 : Int) = 0 by decide), if_neg (show ¬ (2 : Int) = 1 by decide)]
 refine ⟨by rw [e, List.length_cons, List.length_map, List.length_cons, List.length_cons], ?_, fun k hk => ?_⟩
 ·unfold zBU
  rw [e]
  show Lib.join [mvW, Lib.itoa pl, Lib.itoa nf] [32] = _
  rw [show ([mvW, Lib.itoa pl, Lib.itoa nf] : List zc) = [mvW, Lib.itoa pl] ++ [Lib.itoa nf] from rfl, zDY (by simp), show ([mvW, Lib.itoa pl] : List zc) = [mvW] ++ [Lib.itoa pl] from rfl, zDY (by simp), Lib.join_one]
  simp
 ·rw [e]
  show (nx.map Lib.itoa).getD k [] = _
  simp only [List.getD, List.getElem?_map]
  rw [List.getElem?_eq_getElem hk]
  rfl
theorem words0 {kd pl nf : Int} {nx : List Int} {od : List zc} {py : zc} (h : kd = 0) : zBL ⟨kd, pl, nf, nx, od, py⟩ = [101, 110, 100, 32] ++ py := by
 subst h
 have e : zu ⟨0, pl, nf, nx, od, py⟩ = [zEp, py] := by unfold zu; rw [if_pos rfl]
 unfold zBL
 rw [e, show ([zEp, py] : List zc) = [zEp] ++ [py] from rfl, zDY (by simp), Lib.join_one]
 rfl
theorem line_ok (n : TNode) (h : LineOK n) : zN Tryz.prog 105 [.agg (ze n)] (.str (zBL n)) := by
 obtain ⟨kd, pl, nf, nx, od, py⟩ := n
 obtain ⟨hk, hp, hn, hx, ho, hl, hw, hy, hs⟩ := h
 simp only at hk hp hn hx ho hy hs
 have i1 := itoa pl hp
 have i2 := itoa nf hn
 have i3 : ∀ k, k < nx.length → zN Tryz.prog 183 [.int .i64 (nx.getD k 0)] (.str (Lib.itoa (nx.getD k 0))) := fun k hk => itoa _ (hx _ (zCQ 0 hk))
 have hl' : ∀ i, i ≤ (zu ⟨kd, pl, nf, nx, od, py⟩).length → (zBU ⟨kd, pl, nf, nx, od, py⟩ i).length ≤ 1000000 := hl
 have w0 := words0 (kd := kd) (pl := pl) (nf := nf) (nx := nx) (od := od) (py := py)
 have w1 := words1 (kd := kd) (pl := pl) (nf := nf) (nx := nx) (od := od) (py := py)
 have w2 := words2 (kd := kd) (pl := pl) (nf := nf) (nx := nx) (od := od) (py := py)
 have wst := fun i h0 h1 => zKq (n := ⟨kd, pl, nf, nx, od, py⟩) (i := i) h0 h1
 have wal := zMW ⟨kd, pl, nf, nx, od, py⟩
 have wle : ∀ i, i < (zu ⟨kd, pl, nf, nx, od, py⟩).length → ((zu ⟨kd, pl, nf, nx, od, py⟩).getD i []).length ≤ 1000000 := fun i hi => hw _ (zCQ [] hi)
 refine zK.value0 (zC (P := Tryz.prog) (fn := Tryz.f105) Y Y (by kernel_rfl) Y (fun c hR hfix => ?_)) (fix := fun _ => False) (fun _ h => h) Y Y
 clear hl hw
 refine rn6 ?_
 refine zB Y (fun h1 => ?_) (fun h1 => ?_)
 ·rw [w0 h1] at hR
  refine rn5 ?_
  refine zF (zAP Y Y (by show 4 + py.length ≤ _; omega)) ?_
  refine rn6 ?_
  exact zE hR Y Y
 refine rn4 ?_
 refine zB Y (fun h2 => ?_) (fun h2 => ?_)
 ·have hol := ho h2
  obtain ⟨g1, g2, g3⟩ := w1 h2 hol
  rw [← wal, g1] at hR
  refine rn5 ?_
  refine zBx [some ⟨79, .box [.int .i64 kd, .int .i64 pl, .int .i64 nf, .ro (.ints .i64 nx) 0 nx.length, .ro (.strs od) 0 od.length, .str py]⟩] Y ?_
  refine zY (ι := Nat) (fun k => [(1, .ptr 0 0 0), (3, .str (zBU ⟨kd, pl, nf, nx, od, py⟩ (k + 1))), (19, .ro (.ints .i64 nx) 0 nx.length), (20, .int .i64 (nx.length : Nat)), (21, .int .i64 (k : Nat))]) (fun _ => [some ⟨79, .box [.int .i64 kd, .int .i64 pl, .int .i64 nf, .ro (.ints .i64 nx) 0 nx.length, .ro (.strs od) 0 od.length, .str py]⟩])
   (fun k => k ≤ nx.length) (fun k => nx.length - k) 0 ⟨⟨rfl, by rw [g2]; rfl, rfl, rfl, rfl, trivial⟩, rfl, Nat.zero_le _⟩ ?_
  intro k hk
  refine rn4 ?_
  refine zB Y (fun h => ?_) (fun h => ?_)
  ·have hk' : k < nx.length := by omega
   have hst := wst (k + 1) (by omega) (by omega)
   have l2 := hl' (k + 1) (by omega)
   have l3 := wle (k + 1) (by omega)
   rw [g3 k hk'] at hst l3
   have ii := i3 k hk'
   rw [List.length_append, List.length_append] at l3
   generalize hW2 : zBU ⟨kd, pl, nf, nx, od, py⟩ (k + 1 + 1) = W2 at *
   generalize zBU ⟨kd, pl, nf, nx, od, py⟩ (k + 1) = W at *
   have hkd : k < od.length := by omega
   generalize hs1 : Lib.itoa (nx.getD k 0) = s1 at *
   have l4 : ([58] : List UInt8).length = 1 := rfl
   refine rn6 ?_
   refine zz (by kernel_rfl) ?_
   refine zGD (fuel := 1) [0, 1, 2, 3, 4, 5, 6, 7, 8, 9, 10, 11] [(1, .ptr 0 0 0), (3, .str W), (4, .int .i64 (k : Nat)), (5, .int .i64 (nx.getD k 0)), (19, .ro (.ints .i64 nx) 0 nx.length), (20, .int .i64 (nx.length : Nat)), (21, .int .i64 (k : Nat))] ⟨Y, Y, Y, Y, Y, Y, Y, trivial⟩ (by kernel_rfl) (by decide) Y Y ?_
   refine zn Y Y (zU Y) ?_
   refine zn Y Y (zU Y) ?_
   refine zBs Y Y Y Y Y ii ?_
   refine zn Y Y (zAP Y Y (by show 1 + s1.length ≤ _; omega)) ?_
   refine zn Y Y (zAP Y Y (by show ([32] ++ s1).length + 1 ≤ _; rw [List.length_append]; show 1 + s1.length + 1 ≤ _; omega)) ?_
   refine zn Y Y (zJ Y Y Y Y Y Y) ?_
   refine zn Y Y (zR Y Y Y Y Y) ?_
   refine zn Y Y (zU Y) ?_
   refine zn Y Y (zx Y Y Y Y (by first | (simp only [Nat.zero_add, Int.toNat_natCast, Int.toNat_zero]; exact Y) | exact Y) (by omega)) ?_
   refine zn Y Y (zE3 Y Y Y) ?_
   generalize od.getD k [] = o at *
   refine zn Y Y (zAP Y Y (by show (([32] ++ s1) ++ [58]).length + o.length ≤ _; rw [List.length_append, List.length_append]; show 1 + s1.length + 1 + o.length ≤ _; omega)) ?_
   refine zn Y Y (zAP Y Y (by show W.length + ((([32] ++ s1) ++ [58]) ++ o).length ≤ _; rw [List.length_append, List.length_append, List.length_append]; show W.length + (1 + s1.length + 1 + o.length) ≤ _; omega)) ?_
   refine zBR ?_
   refine zI 12 Y (by kernel_rfl) (by kernel_rfl) (by kernel_rfl) Y (zT Y) Y ?_
   refine zr (by kernel_rfl) ?_
   refine rn5 ?_
   exact zM ⟨k + 1, by omega, by omega, ⟨Y, by rw [hW2, hst]; show some (AV.str (W ++ ((([32] ++ s1) ++ [58]) ++ o))) = _; simp, Y, Y, Y, trivial⟩, Y⟩
  ·have hke : k = nx.length := by omega
   subst hke
   refine rn6 ?_
   exact zE hR Y Y
 ·have h1 : ¬ kd = 0 := h1
  have h2 : ¬ kd = 1 := h2
  have h3 : kd = 2 := by omega
  obtain ⟨g1, g2, g3⟩ := w2 h3
  rw [← wal, g1] at hR
  have l0 := hl' 3 (by omega)
  rw [g2] at l0
  have m1 : mvW.length = 4 := rfl
  have m2 : ([32] : List UInt8).length = 1 := rfl
  rw [List.length_append, List.length_append, List.length_append, List.length_append] at l0
  refine rn5 ?_
  refine zBx [some ⟨79, .box [.int .i64 kd, .int .i64 pl, .int .i64 nf, .ro (.ints .i64 nx) 0 nx.length, .ro (.strs od) 0 od.length, .str py]⟩] Y ?_
  generalize Lib.itoa pl = sp at *
  generalize Lib.itoa nf = sf at *
  refine zz (by kernel_rfl) ?_
  refine zGD (fuel := 1) [0, 1, 2, 3, 4, 5, 6, 7, 8] [(1, .ptr 0 0 0)] ⟨Y, trivial⟩ (by kernel_rfl) (by decide) Y Y ?_
  refine zn Y Y (zJ Y Y Y Y Y Y) ?_
  refine zn Y Y (zR Y Y Y Y Y) ?_
  refine zBs Y Y Y Y Y i1 ?_
  refine zn Y Y (zAP Y Y (by show 5 + sp.length ≤ _; omega)) ?_
  refine zn Y Y (zAP Y Y (by show ([109, 111, 118, 101, 32] ++ sp).length + 1 ≤ _; rw [List.length_append]; show 5 + sp.length + 1 ≤ _; omega)) ?_
  refine zn Y Y (zJ Y Y Y Y Y Y) ?_
  refine zn Y Y (zR Y Y Y Y Y) ?_
  refine zBs Y Y Y Y Y i2 ?_
  refine zn Y Y (zAP Y Y (by show (([109, 111, 118, 101, 32] ++ sp) ++ [32]).length + sf.length ≤ _; rw [List.length_append, List.length_append]; show 5 + sp.length + 1 + sf.length ≤ _; omega)) ?_
  refine zBR ?_
  refine zI 9 Y (by kernel_rfl) (by kernel_rfl) (by kernel_rfl) Y (zT Y) Y ?_
  refine zr (by kernel_rfl) ?_
  refine rn5 ?_
  refine zY (ι := Nat) (fun k => [(1, .ptr 0 0 0), (6, .str (zBU ⟨kd, pl, nf, nx, od, py⟩ (k + 3))), (50, .ro (.ints .i64 nx) 0 nx.length), (51, .int .i64 (nx.length : Nat)), (52, .int .i64 (k : Nat))]) (fun _ => [some ⟨79, .box [.int .i64 kd, .int .i64 pl, .int .i64 nf, .ro (.ints .i64 nx) 0 nx.length, .ro (.strs od) 0 od.length, .str py]⟩])
   (fun k => k ≤ nx.length) (fun k => nx.length - k) 0 ⟨⟨rfl, by rw [g2]; show some (AV.str ((([109, 111, 118, 101, 32] ++ sp) ++ [32]) ++ sf)) = some (AV.str ([109, 111, 118, 101] ++ ([32] ++ (sp ++ ([32] ++ sf))))); simp, rfl, rfl, rfl, trivial⟩, rfl, Nat.zero_le _⟩ ?_
  intro k hk
  refine rn4 ?_
  refine zB Y (fun h => ?_) (fun h => ?_)
  ·have hk' : k < nx.length := by omega
   have hst := wst (k + 3) (by omega) (by omega)
   have l2 := hl' (k + 3) (by omega)
   have l3 := wle (k + 3) (by omega)
   rw [g3 k hk'] at hst l3
   have ii := i3 k hk'
   have e3 : k + 3 + 1 = k + 1 + 3 := by omega
   rw [e3] at hst
   generalize hW2 : zBU ⟨kd, pl, nf, nx, od, py⟩ (k + 1 + 3) = W2 at *
   generalize zBU ⟨kd, pl, nf, nx, od, py⟩ (k + 3) = W at *
   generalize hs1 : Lib.itoa (nx.getD k 0) = s1 at *
   refine rn6 ?_
   refine zA Y Y Y ii ?_
   refine zF (zAP Y Y (by show 1 + s1.length ≤ _; omega)) ?_
   refine zF (zAP Y Y (by show W.length + ([32] ++ s1).length ≤ _; rw [List.length_append]; show W.length + (1 + s1.length) ≤ _; omega)) ?_
   refine rn5 ?_
   exact zM ⟨k + 1, by omega, by omega, ⟨Y, by rw [hW2, hst]; rfl, Y, Y, Y, trivial⟩, Y⟩
  ·have hke : k = nx.length := by omega
   subst hke
   refine rn5 ?_
   exact zE hR Y Y
theorem line_of {N i : Nat} (hN : N ≤ 120) {n : TNode} (h : zBr N i n = 0) : LineOK n := by
 obtain ⟨w1, w2⟩ := zJo hN h
 obtain ⟨hk, hl6⟩ := zDo h
 have hl : ∀ j, j ≤ (zu n).length → (Lib.join ((zu n).take j) [32]).length ≤ 1000000 := fun j hj => by
  have h3 := zLI (K := 4040) (ws := (zu n).take j) (fun w hw => w1 w (List.mem_of_mem_take hw))
  have h4 : 4041 * ((zu n).take j).length ≤ 4041 * 9 := Nat.mul_le_mul_left _ (by rw [List.length_take]; omega)
  omega
 have hwl : ∀ w ∈ zu n, w.length ≤ 1000000 := fun w hw => Nat.le_trans (w1 w hw) (by decide)
 have hnx : ∀ k ∈ n.next, -9223372036854775808 ≤ k ∧ k ≤ 9223372036854775807 := fun k hk' => by
  obtain ⟨a, b⟩ := hk k hk'
  omega
 unfold zBr at h
 split at h
 ·rename_i k0
  split at h
  ·cases h
  rename_i hz
  simp only [not_or, Classical.not_not] at hz
  have hp := zIj h
  exact ⟨.inl k0, by rw [hz.1]; omega, by rw [hz.2.1]; omega, hnx, fun e => by omega, hl, hwl, by omega, by omega⟩
 rename_i k0
 split at h
 ·rename_i k1
  split at h
  ·cases h
  rename_i hz
  simp only [not_or, Classical.not_not] at hz
  split at h
  ·rename_i h2; exact absurd h h2
  split at h
  ·cases h
  rename_i h3
  exact ⟨.inr (.inl k1), by rw [hz.1]; omega, by rw [hz.2.1]; omega, hnx, fun _ => Classical.not_not.1 h3, hl, hwl, by rw [hz.2.2]; exact Nat.zero_le _, by omega⟩
 rename_i k1
 split at h
 ·rename_i k2
  split at h
  ·cases h
  rename_i hz
  simp only [not_or, Classical.not_not] at hz
  split at h
  ·cases h
  rename_i hr
  exact ⟨.inr (.inr k2), by omega, by omega, hnx, fun e => absurd e k1, hl, hwl, by rw [hz.2]; exact Nat.zero_le _, by omega⟩
 ·cases h
theorem zJR (t : zm) (hT : ShortT t) : zN Tryz.prog 35 [.ro (zf t) 0 t.length] (.tup [.str (zCS t).1, .int .i64 (zCS t).2]) := by
 have c0 := zCg t hT
 refine zK.value0 (zC (P := Tryz.prog) (fn := Tryz.f35) Y Y (by kernel_rfl) Y (fun c hR hfix => ?_)) (fix := fun _ => False) (fun _ h => h) Y Y
 unfold zCS at hR
 refine rn0 ?_
 refine zA Y Y Y c0 ?_
 refine rn3 ?_
 refine zB Y (fun h1 => ?_) (fun h1 => ?_)
 ·rw [if_pos h1] at hR
  refine rn2 ?_
  exact zE hR Y Y
 rw [if_neg h1] at hR
 have hv := zFn (Classical.not_not.1 h1)
 have hle := hv.le
 have hb := zKy hv
 have hne := hv.ne
 have hbt : zBW (t.take t.length) = zBW t := by rw [List.take_length]
 have hb0 : zBW (t.take 0) = [] := rfl
 refine rn8 ?_
 refine zDg 0 ⟨5, .ints .u8 []⟩ (.box [.nilp, .sl 1 0 0]) Y Y Y Y (fun i' j' _ hj' => ?_) ?_
 ·have hj' : j' < 2 := hj'
  match j', hj' with
  | 0, _ => exact .inl rfl
  | 1, _ => exact .inr ⟨rfl, rfl⟩
 repeat (refine zt ?_)
 refine zY (ι := Nat) (fun i => [(5, .ptr 0 0 0), (13, .ro (zf t) 0 t.length), (14, .int .i64 (t.length : Nat)), (15, .int .i64 (i : Nat))]) (fun i => bldH (Nat.blt 0 i) (zBW (t.take i)))
  (fun i => i ≤ t.length) (fun i => t.length - i) 0 ⟨⟨rfl, rfl, rfl, rfl, trivial⟩, rfl, Nat.zero_le _⟩ ?_
 intro i hi
 refine rn4 ?_
 refine zB Y (fun h => ?_) (fun h => ?_)
 ·have hi' : i < t.length := by omega
  have hsn := zFw t hi'
  have hbi := hb i hi
  have hnd := hv.nodes i hi'
  have ll := zLM hv.le hnd
  have cl := line_ok (t.getD i zQ) (line_of hv.le hnd)
  have hbm : 36370 * i ≤ 36370 * 120 := Nat.mul_le_mul_left _ (by omega)
  generalize hB2 : zBW (t.take (i + 1)) = B2 at *
  generalize zBW (t.take i) = B at *
  refine rn6 ?_
  refine zG 18 (.agg (ze (t.getD i zQ))) Y (AEq.of_eq Y) ?_
  generalize t.getD i zQ = n at *
  generalize hln : zBL n = ln at *
  obtain ⟨kd, pl, nf, nx, od, py⟩ := n
  refine sa1 (c' := .box [.int .i64 kd, .int .i64 pl, .int .i64 nf, .ro (.ints .i64 nx) 0 nx.length, .ro (.strs od) 0 od.length, .str py]) Y Y Y Y Y Y Y ?_
  refine rn6 ?_
  refine zA Y Y Y cl ?_
  have l10 : ([10] : List UInt8).length = 1 := rfl
  refine zF (zAP Y Y (by show ln.length + 1 ≤ _; omega)) ?_
  refine zIq (bldH (Nat.blt 0 i) B) [some ⟨79, .box [.int .i64 kd, .int .i64 pl, .int .i64 nf, .ro (.ints .i64 nx) 0 nx.length, .ro (.strs od) 0 od.length, .str py]⟩] [(5, .ptr 0 0 0), (13, .ro (zf t) 0 t.length), (14, .int .i64 (t.length : Nat)), (15, .int .i64 (i : Nat)), (21, .str (ln ++ [10]))] Y ⟨Y, Y, Y, Y, Y, trivial⟩ (fun h hh => by rw [hfix] at hh; exact absurd hh id) (by
   intro h o ho
   match h, ho with
   | 0, ho =>
    cases ho
    intro i' j' _ hj
    have hj : j' < 2 := hj
    match j', hj with
    | 0, _ => show zCi 2 (adrB _) = true; unfold adrB; split <;> rfl
    | 1, _ => rfl
   | 1, ho => cases ho; exact fun _ _ _ _ => rfl
   | _ + 2, ho => simp at ho) rfl ?_
  have hall : ∀ h, h < 2 → h ≠ 1 → h = 0 := fun h h1 h2 => by omega
  have hfl : ∀ h, h = 0 → h < 2 := fun h e => by omega
  refine ax_callm 1 Y Y Y (writeS (Nat.blt 0 i) B (ln ++ [10]) (by rw [List.length_append]; omega)) hall hfl (by rw [hfix]; exact fun h => h) ?_
  rintro r H ⟨rfl, rfl⟩
  refine ⟨Nat.le_refl 2, ?_⟩
  refine rn5 ?_
  exact zM ⟨i + 1, by omega, by omega, ⟨Y, Y, Y, Y, trivial⟩, by rw [hB2, hsn]; rfl⟩
 ·have hie : i = t.length := by omega
  subst hie
  have hbl : Nat.blt 0 t.length = true := Nat.ble_eq_true_of_le (by omega)
  rw [hbt, hbl]
  have hlast := hb t.length (Nat.le_refl _)
  rw [hbt] at hlast
  have hbm : 36370 * t.length ≤ 36370 * 120 := Nat.mul_le_mul_left _ (by omega)
  have hnn : zBW t ≠ [] := by
   have hsn := zFw t (i := t.length - 1) (by omega)
   rw [show t.length - 1 + 1 = t.length by omega, hbt] at hsn
   rw [hsn]
   intro e
   have := congrArg List.length e
   rw [List.length_append, List.length_append] at this
   have l0 : ([] : List UInt8).length = 0 := rfl
   have l10 : ([10] : List UInt8).length = 1 := rfl
   omega
  generalize zBW t = B at *
  refine rn5 ?_
  refine zD6 Y Y Y (lenB true B) (fun _ h => h) (fun _ h => h) ?_
  rintro r H ⟨rfl, rfl⟩
  refine rn6 ?_
  refine zB Y (fun h2 => ?_) (fun h2 => ?_)
  ·rw [if_pos (by omega)] at hR
   refine rn2 ?_
   exact zE hR Y Y
  rw [if_neg (by omega)] at hR
  refine rn1 ?_
  refine zD6 Y Y Y (stringB B (by omega) hnn) (fun _ h => h) (fun _ h => h) ?_
  rintro r H ⟨rfl, rfl⟩
  refine rn0 ?_
  exact zE hR Y Y
end Go.Proofs.YtkncmbklkhjmgaaGreatDoor
namespace Go.Proofs.YtkncmbklkhjmgaaGreatDoor
open Go.Ax Go.Ax.Bg Go.Ax.Rt Go.RowKit
attribute [local irreducible] Ax zAO QOp zK zAN
theorem in_ok' (l : List zc) (hlen : l.length ≤ 1000000) (hs : ∀ s ∈ l, s.length ≤ 9223372036854775807 ∧ zC7 s = 0) : zN Tryz.prog 67 [.ro (.strs l) 0 l.length] (.ro (qsC (l.map zAl)) 0 (l.map zAl).length) := by
 have := in_ok l hlen hs
 rwa [List.length_map]
theorem sz_D {m : Nat} {q : Rat} (h : D (9 * m) q) : Sz m q := by
 have key : ∀ n : Nat, n < 10 ^ (9 * m) → (zL n).length ≤ m := fun n hn => by
  refine z8 (Nat.lt_of_lt_of_le hn ?_)
  rw [Nat.pow_mul]
  exact Nat.pow_le_pow_left (by decide) m
 exact ⟨key _ h.1, key _ h.2⟩
theorem zJN (l : List Rat) (hlen : l.length ≤ 1000000) (hs : ∀ q ∈ l, Sz 100000 q) (hall : l.all zCJ = true) : zN Tryz.prog 63 [.ro (qsC l) 0 l.length] (.tup [.ro (.strs (l.map zAM)) 0 (l.map zAM).length, .int .i64 0]) := by
 have := zKR l hlen hs hall
 rwa [List.length_map]
theorem zMA (l : List Rat) (hlen : l.length ≤ 1000000) (hs : ∀ q ∈ l, Sz 100000 q) : ∃ r : AV, zN Tryz.prog 63 [.ro (qsC l) 0 l.length] (.tup [r, .int .i64 (zBb l).2]) ∧ AEq r (.ro (.strs (zBb l).1) 0 (zBb l).1.length) := by
 cases h : l.all zCJ
 ·refine ⟨.nil, ?_, ?_⟩
  ·have := zL9 l hlen hs h
   unfold zBb; rw [h]; exact this
  ·unfold zBb; rw [h]; exact AEq.nil
 ·refine ⟨_, ?_, AEq.rfl'⟩
  have := zJN l hlen hs h
  unfold zBb; rw [h]; exact this
end Go.Proofs.YtkncmbklkhjmgaaGreatDoor
namespace Go.Proofs.YtkncmbklkhjmgaaGreatDoor
open Go.Ax Go.Ax.Bg Go.Ax.Rt Go.RowKit Go.Ax.Idx Go.Ax.Cd
attribute [local irreducible] Ax zAO QOp zK zAN
/-- Numbers that may not be there yet. -/
def zBK : Option Rat → List AV
 | some q => zw q
 | none => [.bool false, .nil, .nil]
abbrev zsC (l : List (Option Rat)) : Cells := rowE none 3 zBK l
theorem zs_zero (n : Nat) : CEq (zAt n [.bool false, .nil, .nil]) (zsC (List.replicate n none)) := by
 refine ⟨by simp [rowE, Cells.len, zAt], Y, fun i j hi hj => ?_⟩
 have hi : i < n := by simpa [Cells.len, zAt] using hi
 show (zBK ((List.replicate n (none : Option Rat)).getD i none)).getD j .any = _
 rw [zBp none (by simpa using hi), List.getElem_replicate]
 rfl
theorem zFi {α : Type} (d : α) (n : Nat) (e : α → List AV) (zs : List α) (k : Nat) (a : α) (hk : k < zs.length) (i' j' : Nat) (hi' : i' < zs.length) (hj' : j' < n) : (rowE d n e (zs.set k a)).at i' j' = if i' = k then (e a).getD j' .any else (rowE d n e zs).at i' j' := by
 show (e ((zs.set k a).getD i' d)).getD j' .any = if i' = k then (e a).getD j' .any else (e (zs.getD i' d)).getD j' .any
 rw [Go.Ax.Dt.getD_set]
 by_cases h : i' = k
 ·rw [if_pos h, if_pos ⟨h, hk⟩]
 ·rw [if_neg h, if_neg (fun q => h q.1)]
end Go.Proofs.YtkncmbklkhjmgaaGreatDoor
namespace Go.Ax.Rt
open Go.Ax.Bg
def zA2 (o : Option (List Rat)) (q : Option Rat) (k : Nat) : Option Rat := some (zIQ o (q.getD 0) k)
def zBd (t : zm) (o : zDO) : Nat → List (Option Rat)
 | 0 => (List.replicate t.length none).set 0 (some 1)
 | i + 1 => zB8 (zA2 (o i) ((zBd t o i).getD i none)) (t.getD i zQ).next 0 (zBd t o i)
theorem zB6 (t : zm) (o : zDO) : ∀ i, (zBd t o i).length = t.length
 | 0 => by simp [zBd]
 | i + 1 => by rw [zBd, zFh, zB6 t o i]
theorem Valid.known {t : zm} (h : Valid t) {i : Nat} (hi : i < t.length) : i = 0 ∨ ∃ a, a < i ∧ kid t a i := by
 by_cases h0 : i = 0
 ·exact .inl h0
 ·obtain ⟨a, ha, hk⟩ := h.has hi h0
  exact .inr ⟨a, (h.kid_lt ha hk).1, hk⟩
theorem zF4 {t : zm} (h : Valid t) (o : zDO) : ∀ i, i ≤ t.length → ∀ j, j < t.length → (j = 0 ∨ ∃ a, a < i ∧ kid t a j) → (zBd t o i).getD j none = some ((zA6 t o).getD j 0)
 | 0, _, j, hj, hk => by
  rcases hk with rfl | ⟨a, ha, _⟩
  ·rw [zKg h, zBd, Go.Ax.Dt.getD_set, if_pos ⟨rfl, by simpa using hj⟩]
  ·omega
 | i + 1, hi, j, hj, hk => by
  have hi' : i < t.length := by omega
  have ih := zF4 h o i (by omega)
  rw [zBd]
  by_cases hki : kid t i j
  ·obtain ⟨m, hm, rfl⟩ := kid_at h hi' hki
   rw [zLe _ _ _ _ _ _ hm (h.kids_nodup hi') (fun c hc => by rw [zB6]; have := h.behind hi' c hc; omega), Nat.zero_add, zMF h o hi' hm]
   unfold zA2
   rw [ih i hi' (h.known hi')]
   rfl
  ·have hne : ∀ c ∈ (t.getD i zQ).next, c.toNat ≠ j := fun c hc e => by
    have := h.behind hi' c hc
    apply hki
    show (j : Int) ∈ _
    rw [← e, Int.toNat_of_nonneg (by omega)]
    exact hc
   rw [zC2 _ _ _ _ _ hne]
   refine ih j hj ?_
   rcases hk with rfl | ⟨a, ha, hka⟩
   ·exact .inl Y
   ·refine .inr ⟨a, ?_, hka⟩
    have : a ≠ i := fun e => hki (e ▸ hka)
    omega
theorem zKf {t : zm} (h : Valid t) (o : zDO) : zBd t o t.length = (zA6 t o).map some := by
 have hl : (zA6 t o).length = t.length := zDt t o _
 apply List.ext_getElem
 ·rw [zB6, List.length_map, hl]
 ·intro j h1 h2
  rw [zB6] at h1
  have := zF4 h o t.length (Nat.le_refl _) j h1 (by
   rcases h.known h1 with e | ⟨a, ha, hk⟩
   ·exact .inl e
   ·exact .inr ⟨a, by omega, hk⟩)
  rw [List.getElem_map]
  rw [List.getD_eq_getElem?_getD, List.getElem?_eq_getElem (by rw [zB6]; exact h1), List.getD_eq_getElem?_getD, List.getElem?_eq_getElem (by omega)] at this
  exact this
end Go.Ax.Rt
namespace Go.Ax
open Go
variable [Pins]
theorem zC1 {P : Program} (w : World) {t e : TypeId} (a : Option Addr) (n c : Nat) (h : P.underlying t = some (.slice e)) : (binOp .neq t (.slice a n c) (.slice none 0 0)).run P w = .ok (.bool (!a.isNone)) w := by
 have _p := ‹Pins›
 have h1 : ∀ d : Nat, (Op.equalIn (d + 1) t (.slice a n c) (.slice none 0 0)).run P w = .ok a.isNone w := fun d => by
  cases a with
  | none => simp [Op.equalIn, run_underlying h]
  | some a => simp [Op.equalIn, run_underlying h]
 simp only [binOp]
 simp [Op.equal, Op.maxDepth, h1 9999]
section
variable {P : Program} {fn : Func} {c : Ctx} {fr : Fr} {H : zH} {k : List It} {ind : Bool} {d : Option Nat} {ty : TypeId} {pos : String} {after : Array Edge} {g : Option (Nat × Bool)}
theorem zJY {x y : Operand} {t t' e : TypeId} (ht : P.underlying t = some (.slice e)) (hx : ev fr x = some .nil) (hy : ev fr y = some .nil) : QOp ind P fn c fr H ⟨d, .binOp .neq t x y t', ty, pos, after, g⟩ (.bool false) := by
 intro w a σ S hr
 have h1 := hr.evAt hx
 have h2 := hr.evAt hy
 generalize hz : a.eval x = z at h1
 generalize hzy : a.eval y = zy at h2
 cases h1
 cases h2
 refine ⟨_, .bool _ _, fun w' _ => ?_⟩
 have hb := zC1 (P := P) w' none 0 0 ht
 simp only [execOp, hz, hzy, Sem.run_bind, zBF, Result.andThen_ok, hb]
 rfl
theorem q_neqnil {x y : Operand} {t t' e : TypeId} {cl : Cells} {i n : Nat} (ht : P.underlying t = some (.slice e)) (hx : ev fr x = some (.ro cl i n)) (hy : ev fr y = some .nil) (hn : 0 < n) : QOp ind P fn c fr H ⟨d, .binOp .neq t x y t', ty, pos, after, g⟩ (.bool true) := by
 intro w a σ S hr
 have h1 := hr.evAt hx
 have h2 := hr.evAt hy
 generalize hz : a.eval x = z at h1
 generalize hzy : a.eval y = zy at h2
 cases h2
 cases h1 with
 | ro0 _ _ _ ad cap => exact absurd hn (Nat.lt_irrefl _)
 | ro _ _ _ _ b o cap val hS hlen hc hv h1' =>
  refine ⟨_, .bool _ _, fun w' _ => ?_⟩
  have hb := zC1 (P := P) w' (some ⟨b, o, none⟩) n cap ht
  simp only [execOp, hz, hzy, Sem.run_bind, zBF, Result.andThen_ok, hb]
  rfl
end
end Go.Ax
namespace Go.Proofs.YtkncmbklkhjmgaaGreatDoor
open Go.Ax Go.Ax.Bg Go.Ax.Rt Go.RowKit Go.Ax.Idx Go.Ax.Cd
attribute [local irreducible] Ax zAO QOp zK zAN
def lA (o : Option (List Rat)) : AV := match o with
 | none => .nil
 | some l => .ro (qsC l) 0 l.length
structure OddsG (t : zm) (o : zDO) : Prop where
 chance : ∀ i, i < t.length → (t.getD i zQ).kind = 1 → o i = some ((t.getD i zQ).odds.map zAl)
 ends : ∀ i, i < t.length → (t.getD i zQ).kind = 0 → o i = none
 some : ∀ i, i < t.length → ∀ l, o i = some l → (t.getD i zQ).next.length ≤ l.length ∧ 0 < l.length ∧ l.length ≤ 1000000 ∧ ∀ q ∈ l, Sz 100000 q
 reach : ∀ j, j < t.length → Sz 100000 ((zA6 t o).getD j 0)
theorem zIv {t : zm} (hv : Valid t) {i : Nat} (hi : i < t.length) (hk : (t.getD i zQ).kind = 1) : zGK (t.getD i zQ).odds = 0 := by
 have h := hv.nodes i hi
 unfold zBr at h
 rw [if_neg (by omega), if_pos hk] at h
 split at h
 ·cases h
 split at h
 ·rename_i h1; exact absurd h h1
 split at h
 ·cases h
 exact h
theorem zKI {t : zm} (hv : Valid t) {i : Nat} (hi : i < t.length) : (t.getD i zQ).kind = 0 ∨ (t.getD i zQ).kind = 1 ∨ (t.getD i zQ).kind = 2 := by
 rcases hv.child hi with h | h
 ·exact .inl h.1
 ·exact .inr h.1
theorem zs_map (l : List Rat) : CEq (zsC (l.map some)) (qsC l) := by
 refine ⟨by simp [rowE, Cells.len], Y, fun i j hi hj => ?_⟩
 have hi : i < l.length := by simpa [rowE, Cells.len] using hi
 show (zw (l.getD i 0)).getD j .any = (zBK ((l.map some).getD i none)).getD j .any
 rw [map_getD some l 0 none i hi]
 rfl
theorem zIs (l : List (Option Rat)) (n : Nat) : zBI n (zsC l) := by
 intro i j _ hj
 show zCi n ((zBK (l.getD i none)).getD j .any) = true
 have hj : j < 3 := hj
 cases l.getD i none with
 | none => match j, hj with
  | 0, _ => rfl
  | 1, _ => rfl
  | 2, _ => rfl
 | some q => match j, hj with
  | 0, _ => rfl
  | 1, _ => rfl
  | 2, _ => rfl
theorem reach_ok (t : zm) (o : zDO) (g : FuncId) (caps : List AV) (hcp : noRef.noRefs caps = true) (hcb : zBJ 1 caps = true) (hT : ShortT t) (hv : Valid t) (hG : OddsG t o)
 (hg : ∀ i, i < t.length → (t.getD i zQ).kind = 2 → zN Tryz.prog g ([.agg (ze (t.getD i zQ))] ++ caps) (lA (o i))) :
 zN Tryz.prog 171 [.ro (zf t) 0 t.length, .fn g caps] (.ro (qsC (zA6 t o)) 0 t.length) := by
 have hlen := hT.len
 have h120 := hv.le
 have hne := hv.ne
 have hrep : (List.replicate t.length (none : Option Rat)).length = t.length := List.length_replicate
 refine zK.value0 (zC (P := Tryz.prog) (fn := Tryz.f171) Y Y (by kernel_rfl) Y (fun c hR hfix => ?_)) (fix := fun _ => False) (fun _ h => h) (by simp [noRef.noRefs, noRef, hcp]) Y
 refine rn3 ?_
 refine zBl Y Y Y Y Y Y Y Y (by show (0 : Int) ≤ _ ∧ _ ≤ _ ∧ (56 : Int) * _ ≤ _ ∧ _; omega) ?_
 refine rn0 ?_
 refine zA Y Y Y zKO ?_
 unfold qA
 refine zAI [some ⟨104, zsC (List.replicate t.length none)⟩] (zq.eqv (zs_zero _) zq.nil) ?_
 have hz0 : 0 < (zsC (List.replicate t.length none)).len := by show 0 < (List.replicate t.length (none : Option Rat)).length; omega
 repeat (refine zF (zAB rfl rfl rfl rfl rfl (by first | (simp only [Nat.zero_add, Int.toNat_natCast, Int.toNat_zero]; exact rfl) | exact rfl) (by omega)) ?_)
 refine zA0 (c' := zsC ((List.replicate t.length none).set 0 (some 1))) Y Y Y Y Y hz0 (by show (List.set _ 0 _).length = (List.replicate _ _).length; simp) Y (fun i' j' hi' hj' => zFi none 3 zBK _ 0 (some 1) hz0 i' j' hi' hj') ?_
 refine rn3 ?_
 refine zY (ι := Nat) (fun i => [(0, .ro (zf t) 0 t.length), (1, .fn g caps), (5, .sl 0 0 t.length), (17, .ro (zf t) 0 t.length), (18, .int .i64 (t.length : Nat)), (19, .int .i64 (i : Nat))]) (fun i => [some ⟨104, zsC (zBd t o i)⟩])
  (fun i => i ≤ t.length) (fun i => t.length - i) 0 ⟨⟨rfl, rfl, rfl, rfl, rfl, rfl, trivial⟩, rfl, Nat.zero_le _⟩ ?_
 intro i hi
 refine rn4 ?_
 refine zB Y (fun h => ?_) (fun h => ?_)
 ·have hi' : i < t.length := by omega
  have hsn := hT.node _ (zAx zQ hi')
  have hbh := hv.behind hi'
  have hWl := zB6 t o i
  have hat := zF4 hv o i hi i hi' (hv.known hi')
  have hri := hG.reach i hi'
  have hk3 := zKI hv hi'
  have hch := fun hk => zIv hv hi' hk
  have hgc := hG.chance i hi'
  have hge := hG.ends i hi'
  have hgs := hG.some i hi'
  have hgg := hg i hi'
  have hnx : zBd t o (i + 1) = zB8 (zA2 (o i) ((zBd t o i).getD i none)) (t.getD i zQ).next 0 (zBd t o i) := rfl
  generalize hW2 : zBd t o (i + 1) = W2 at *
  generalize zBd t o i = W at *
  generalize hoi : o i = oi at *
  generalize (zA6 t o).getD i 0 = ri at *
  rw [hat] at hnx
  obtain ⟨s1, s2, s3, s4⟩ := hsn
  refine rn6 ?_
  refine zG 23 (.agg (ze (t.getD i zQ))) Y (AEq.of_eq Y) ?_
  generalize hn : t.getD i zQ = n at *
  obtain ⟨kd, pl, nf, nx, od, py⟩ := n
  simp only at *
  refine sa1 (c' := .box [.int .i64 kd, .int .i64 pl, .int .i64 nf, .ro (.ints .i64 nx) 0 nx.length, .ro (.strs od) 0 od.length, .str py]) Y Y Y Y Y Y Y ?_
  refine zAu [some ⟨104, zsC (W)⟩, some ⟨79, .box [.int .i64 kd, .int .i64 pl, .int .i64 nf, .ro (.ints .i64 nx) 0 nx.length, .ro (.strs od) 0 od.length, .str py]⟩] Y ?_
  refine zG 7 (.ptr 1 0 0) Y (AEq.of_eq Y) ?_
  apply zAD (H := [some ⟨104, zsC (W)⟩, some ⟨79, .box [.int .i64 kd, .int .i64 pl, .int .i64 nf, .ro (.ints .i64 nx) 0 nx.length, .ro (.strs od) 0 od.length, .str py]⟩]) [(0, .ro (zf t) 0 t.length), (1, .fn g caps), (5, .sl 0 0 t.length), (6, .int .i64 (i : Nat)), (7, .ptr 1 0 0), (8, lA oi), (17, .ro (zf t) 0 t.length), (18, .int .i64 (t.length : Nat)), (19, .int .i64 (i : Nat)), (37, .ro (.ints .i64 nx) 0 nx.length), (38, .int .i64 (nx.length : Nat)), (39, .int .i64 0)]
  ·intro fin
   refine rn5 ?_
   rcases hk3 with hk | hk | hk
   ·have := hge hk
    subst this
    subst hk
    refine rn5 ?_
    exact fin _ ⟨Y, Y, Y, Y, Y, Y, Y, Y, Y, Y, Y, Y, trivial⟩
   ·have h1 := hgc hk
    have h2 := hch hk
    subst hk
    subst h1
    obtain ⟨v1, v2, _, _⟩ := zH5 h2
    have cin := in_ok' od (by omega) (fun r hr => ⟨s3 r hr, v2 r hr⟩)
    refine rn5 ?_
    refine zA Y Y Y cin ?_
    refine rn5 ?_
    exact fin _ ⟨Y, Y, Y, Y, Y, Y, Y, Y, Y, Y, Y, Y, trivial⟩
   ·have h1 := hgg hk
    subst hk
    refine rn6 ?_
    refine zG 34 (.agg (ze ⟨2, pl, nf, nx, od, py⟩)) Y (AEq.of_eq Y) ?_
    refine zA Y Y Y h1 ?_
    refine rn5 ?_
    exact fin _ ⟨Y, Y, Y, Y, Y, Y, Y, Y, Y, Y, Y, Y, trivial⟩
  cases oi with
  | none =>
   refine zY (ι := Nat) (fun j => [(0, .ro (zf t) 0 t.length), (1, .fn g caps), (5, .sl 0 0 t.length), (6, .int .i64 (i : Nat)), (7, .ptr 1 0 0), (8, .nil), (17, .ro (zf t) 0 t.length), (18, .int .i64 (t.length : Nat)), (19, .int .i64 (i : Nat)), (37, .ro (.ints .i64 nx) 0 nx.length), (38, .int .i64 (nx.length : Nat)), (39, .int .i64 (j : Nat))]) (fun j => [some ⟨104, zsC (zB8 (zA2 none (some ri)) (nx.take j) 0 W)⟩, some ⟨79, .box [.int .i64 kd, .int .i64 pl, .int .i64 nf, .ro (.ints .i64 nx) 0 nx.length, .ro (.strs od) 0 od.length, .str py]⟩])
    (fun j => j ≤ nx.length) (fun j => nx.length - j) 0 ⟨⟨rfl, rfl, rfl, rfl, rfl, rfl, rfl, rfl, rfl, rfl, rfl, rfl, trivial⟩, rfl, Nat.zero_le _⟩ ?_
   intro j hj
   refine rn4 ?_
   refine zB Y (fun h5 => ?_) (fun h5 => ?_)
   ·have hj' : j < nx.length := by omega
    obtain ⟨b1, b2⟩ := hbh _ (zCQ 0 hj')
    have hAl : (zB8 (zA2 none (some ri)) (nx.take j) 0 W).length = t.length := by rw [zFh]; exact hWl
    have hAi : (zB8 (zA2 none (some ri)) (nx.take j) 0 W).getD i none = some ri := (zC2 _ none _ _ _ (fun c hc => by have := hbh c (List.mem_of_mem_take hc); omega)).trans hat
    have hst : zB8 (zA2 none (some ri)) (nx.take (j + 1)) 0 W = (zB8 (zA2 none (some ri)) (nx.take j) 0 W).set (nx.getD j 0).toNat (zA2 none (some ri) j) := by
     rw [zFD hj', zF6, List.length_take, Nat.min_eq_left hj, Nat.zero_add]
    generalize hA2 : zB8 (zA2 none (some ri)) (nx.take (j + 1)) 0 W = A2 at *
    generalize zB8 (zA2 none (some ri)) (nx.take j) 0 W = A at *
    obtain ⟨x, hx⟩ := Int.eq_ofNat_of_zero_le (show 0 ≤ nx.getD j 0 by omega)
    have hxn : (nx.getD j 0).toNat = x := by rw [hx, Int.toNat_natCast]
    rw [hx] at b1 b2
    rw [hxn] at hst
    have hxl : x < A.length := by omega
    have gi : i < (zsC A).len := by show i < A.length; omega
    have gx : x < (zsC A).len := hxl
    have hA1i : (A.set x (some ri)).getD i none = some ri := by rw [Go.Ax.Dt.getD_set, if_neg (by omega)]; exact hAi
    have gi1 : i < (zsC (A.set x (some ri))).len := by show i < (A.set x (some ri)).length; rw [List.length_set]; omega
    have gx1 : x < (zsC (A.set x (some ri))).len := by show x < (A.set x (some ri)).length; rw [List.length_set]; omega
    refine rn20 ?_
    refine zZ Y ?_
    refine zDc ?_
    refine zAS 10 (.int .i64 (x : Nat)) Y (AEq.of_eq (by rw [hx])) ?_
    refine rn6 ?_
    refine zG 49 (.agg (zw ri)) Y (AEq.of_eq (show AV.agg [(zBK (A.getD i none)).getD 0 .any, (zBK (A.getD i none)).getD 1 .any, (zBK (A.getD i none)).getD 2 .any] = _ by rw [hAi]; rfl)) ?_
    refine zA0 (c' := zsC (A.set x (some ri))) Y Y Y Y Y hxl (by show (A.set x (some ri)).length = A.length; simp) Y (fun i' j' hi' hj' => zFi none 3 zBK A x (some ri) hxl i' j' hi' hj') ?_
    refine rn0 ?_
    refine zF (zJY Y Y Y) ?_
    refine rn5 ?_
    exact zM ⟨j + 1, by omega, by omega, ⟨Y, Y, Y, Y, Y, Y, Y, Y, Y, Y, Y, Y, trivial⟩, by rw [hA2, hst]; rfl⟩
   ·have hje : j = nx.length := by omega
    subst hje
    rw [List.take_length, ← hnx]
    refine zCM ?_
    refine zO ?_
    refine zBa [some ⟨104, zsC (W2)⟩] [some ⟨79, .box [.int .i64 kd, .int .i64 pl, .int .i64 nf, .ro (.ints .i64 nx) 0 nx.length, .ro (.strs od) 0 od.length, .str py]⟩] [(0, .ro (zf t) 0 t.length), (1, .fn g caps), (5, .sl 0 0 t.length), (17, .ro (zf t) 0 t.length), (18, .int .i64 (t.length : Nat)), (19, .int .i64 (i : Nat))] Y ⟨Y, Y, Y, Y, Y, Y, trivial⟩ (fun h hh => by rw [hfix] at hh; exact absurd hh id) (zEw (zIs _ _)) (by show (true && (zBJ 1 caps && _)) = true; rw [hcb]; rfl) ?_
    refine rn3 ?_
    exact zM ⟨i + 1, by omega, by omega, ⟨Y, Y, Y, Y, Y, Y, trivial⟩, by rw [hW2]⟩
  | some l =>
   obtain ⟨l1, l2, l3, l4⟩ := hgs l rfl
   refine zY (ι := Nat) (fun j => [(0, .ro (zf t) 0 t.length), (1, .fn g caps), (5, .sl 0 0 t.length), (6, .int .i64 (i : Nat)), (7, .ptr 1 0 0), (8, .ro (qsC l) 0 l.length), (17, .ro (zf t) 0 t.length), (18, .int .i64 (t.length : Nat)), (19, .int .i64 (i : Nat)), (37, .ro (.ints .i64 nx) 0 nx.length), (38, .int .i64 (nx.length : Nat)), (39, .int .i64 (j : Nat))]) (fun j => [some ⟨104, zsC (zB8 (zA2 (some l) (some ri)) (nx.take j) 0 W)⟩, some ⟨79, .box [.int .i64 kd, .int .i64 pl, .int .i64 nf, .ro (.ints .i64 nx) 0 nx.length, .ro (.strs od) 0 od.length, .str py]⟩])
    (fun j => j ≤ nx.length) (fun j => nx.length - j) 0 ⟨⟨rfl, rfl, rfl, rfl, rfl, rfl, rfl, rfl, rfl, rfl, rfl, rfl, trivial⟩, rfl, Nat.zero_le _⟩ ?_
   intro j hj
   refine rn4 ?_
   refine zB Y (fun h5 => ?_) (fun h5 => ?_)
   ·have hj' : j < nx.length := by omega
    obtain ⟨b1, b2⟩ := hbh _ (zCQ 0 hj')
    have hAl : (zB8 (zA2 (some l) (some ri)) (nx.take j) 0 W).length = t.length := by rw [zFh]; exact hWl
    have hAi : (zB8 (zA2 (some l) (some ri)) (nx.take j) 0 W).getD i none = some ri := (zC2 _ none _ _ _ (fun c hc => by have := hbh c (List.mem_of_mem_take hc); omega)).trans hat
    have hst : zB8 (zA2 (some l) (some ri)) (nx.take (j + 1)) 0 W = (zB8 (zA2 (some l) (some ri)) (nx.take j) 0 W).set (nx.getD j 0).toNat (zA2 (some l) (some ri) j) := by
     rw [zFD hj', zF6, List.length_take, Nat.min_eq_left hj, Nat.zero_add]
    generalize hA2 : zB8 (zA2 (some l) (some ri)) (nx.take (j + 1)) 0 W = A2 at *
    generalize zB8 (zA2 (some l) (some ri)) (nx.take j) 0 W = A at *
    obtain ⟨x, hx⟩ := Int.eq_ofNat_of_zero_le (show 0 ≤ nx.getD j 0 by omega)
    have hxn : (nx.getD j 0).toNat = x := by rw [hx, Int.toNat_natCast]
    rw [hx] at b1 b2
    rw [hxn] at hst
    have hxl : x < A.length := by omega
    have gi : i < (zsC A).len := by show i < A.length; omega
    have gx : x < (zsC A).len := hxl
    have hA1i : (A.set x (some ri)).getD i none = some ri := by rw [Go.Ax.Dt.getD_set, if_neg (by omega)]; exact hAi
    have gi1 : i < (zsC (A.set x (some ri))).len := by show i < (A.set x (some ri)).length; rw [List.length_set]; omega
    have gx1 : x < (zsC (A.set x (some ri))).len := by show x < (A.set x (some ri)).length; rw [List.length_set]; omega
    refine rn20 ?_
    refine zZ Y ?_
    refine zDc ?_
    refine zAS 10 (.int .i64 (x : Nat)) Y (AEq.of_eq (by rw [hx])) ?_
    refine rn6 ?_
    refine zG 49 (.agg (zw ri)) Y (AEq.of_eq (show AV.agg [(zBK (A.getD i none)).getD 0 .any, (zBK (A.getD i none)).getD 1 .any, (zBK (A.getD i none)).getD 2 .any] = _ by rw [hAi]; rfl)) ?_
    refine zA0 (c' := zsC (A.set x (some ri))) Y Y Y Y Y hxl (by show (A.set x (some ri)).length = A.length; simp) Y (fun i' j' hi' hj' => zFi none 3 zBK A x (some ri) hxl i' j' hi' hj') ?_
    refine rn0 ?_
    refine zF (q_neqnil Y Y Y l2) ?_
    refine rn5 ?_
    have hjl : j < l.length := by omega
    have cmul : zN Tryz.prog 127 [.agg [(zBK ((A.set x (some ri)).getD i none)).getD 0 .any, (zBK ((A.set x (some ri)).getD i none)).getD 1 .any, (zBK ((A.set x (some ri)).getD i none)).getD 2 .any], qA (l.getD j 0)] (qA (ri * l.getD j 0)) := by
     rw [hA1i]
     exact qmul_ok ri (l.getD j 0) hri (l4 _ (zCQ 0 hjl))
    refine zz (by kernel_rfl) ?_
    refine zAY (fuel := 1) [0, 1, 2, 3, 4, 5, 6, 7, 8, 9, 10, 11] [(0, .ro (zf t) 0 t.length), (1, .fn g caps), (5, .sl 0 0 t.length), (6, .int .i64 (i : Nat)), (7, .ptr 1 0 0), (8, .ro (qsC l) 0 l.length), (17, .ro (zf t) 0 t.length), (18, .int .i64 (t.length : Nat)), (19, .int .i64 (i : Nat)), (37, .ro (.ints .i64 nx) 0 nx.length), (38, .int .i64 (nx.length : Nat)), (39, .int .i64 (j : Nat)), (9, .int .i64 (j : Nat)), (10, .int .i64 (x : Nat))] ⟨Y, Y, Y, Y, Y, Y, Y, Y, Y, Y, Y, Y, Y, Y, trivial⟩ (by kernel_rfl) (by decide) Y Y ?_
    refine zn Y Y (zU Y) ?_
    refine zn Y Y (zU Y) ?_
    refine zn Y Y (zU Y) ?_
    refine zn Y Y (zU Y) ?_
    refine zn Y Y (zAB Y Y Y Y Y (by first | (simp only [Nat.zero_add, Int.toNat_natCast, Int.toNat_zero]; exact Y) | exact Y) (by omega)) ?_
    refine zn Y Y (qpp Y Y Y Y Y Y Y) ?_
    refine zn Y Y (zU Y) ?_
    refine zn Y Y (zU Y) ?_
    refine zn Y Y (zx Y Y Y Y (by first | (simp only [Nat.zero_add, Int.toNat_natCast, Int.toNat_zero]; exact Y) | exact Y) (by omega)) ?_
    refine zn Y Y (zCb Y Y Y Y Y Y) ?_
    refine zBs Y Y Y Y Y cmul ?_
    refine zn Y Y (zAB Y Y Y Y Y (by first | (simp only [Nat.zero_add, Int.toNat_natCast, Int.toNat_zero]; exact Y) | exact Y) (by omega)) ?_
    refine zBR ?_
    refine zD (is := [12]) (by kernel_rfl) (by simp) Y ⟨fun o ho => ?_, trivial⟩
    all_goals (cases ho)
    skip
    unfold qA
    refine zA0 (c' := zsC ((A.set x (some ri)).set x (some (ri * l.getD j 0)))) Y Y Y Y Y gx1 (by show (List.set _ x _).length = (A.set x (some ri)).length; simp) Y (fun i' j' hi' hj' => zFi none 3 zBK (A.set x (some ri)) x (some (ri * l.getD j 0)) gx1 i' j' hi' hj') ?_
    refine rn1 ?_
    refine zr (by kernel_rfl) ?_
    refine rn5 ?_
    exact zM ⟨j + 1, by omega, by omega, ⟨Y, Y, Y, Y, Y, Y, Y, Y, Y, Y, Y, Y, trivial⟩, by rw [hA2, hst]; exact congrArg (fun z => [some (AObj.mk 104 (zsC z)), some (AObj.mk 79 (.box [.int .i64 kd, .int .i64 pl, .int .i64 nf, .ro (.ints .i64 nx) 0 nx.length, .ro (.strs od) 0 od.length, .str py]))]) (List.set_set ..)⟩
   ·have hje : j = nx.length := by omega
    subst hje
    rw [List.take_length, ← hnx]
    refine zCM ?_
    refine zO ?_
    refine zBa [some ⟨104, zsC (W2)⟩] [some ⟨79, .box [.int .i64 kd, .int .i64 pl, .int .i64 nf, .ro (.ints .i64 nx) 0 nx.length, .ro (.strs od) 0 od.length, .str py]⟩] [(0, .ro (zf t) 0 t.length), (1, .fn g caps), (5, .sl 0 0 t.length), (17, .ro (zf t) 0 t.length), (18, .int .i64 (t.length : Nat)), (19, .int .i64 (i : Nat))] Y ⟨Y, Y, Y, Y, Y, Y, trivial⟩ (fun h hh => by rw [hfix] at hh; exact absurd hh id) (zEw (zIs _ _)) (by show (true && (zBJ 1 caps && _)) = true; rw [hcb]; rfl) ?_
    refine rn3 ?_
    exact zM ⟨i + 1, by omega, by omega, ⟨Y, Y, Y, Y, Y, Y, trivial⟩, by rw [hW2]⟩
 ·have hie : i = t.length := by omega
  subst hie
  rw [zKf hv]
  refine zDc ?_
  refine zFJ [some ⟨104, qsC (zA6 t o)⟩] (zq.eqv (zs_map _) zq.nil) ?_
  refine zAb 0 5 t.length [] Y (zE5 _) Y (by show t.length ≤ (zA6 t o).length; rw [show (zA6 t o).length = t.length from zDt t o _]; exact Nat.le_refl _) trivial ?_
  refine rn0 ?_
  exact zE hR Y Y
end Go.Proofs.YtkncmbklkhjmgaaGreatDoor
namespace Go.Ax.Rt
open Go.Ax.Bg
/-- the ends before a node -/
def zCp (t : zm) (i : Nat) : List Int := ((List.range i).filter (fun j => decide ((t.getD j zQ).kind = 0))).map (fun j : Nat => (j : Int))
theorem zGq (t : zm) (i : Nat) : zCp t (i + 1) = if (t.getD i zQ).kind = 0 then zCp t i ++ [(i : Int)] else zCp t i := by
 unfold zCp
 rw [List.range_succ, List.filter_append, List.map_append]
 by_cases h : (t.getD i zQ).kind = 0
 ·rw [if_pos h, List.filter_cons_of_pos (by simpa using h)]; rfl
 ·rw [if_neg h, List.filter_cons_of_neg (by simpa using h)]; simp
theorem zHo (t : zm) : ∀ i, (zCp t i).length ≤ i
 | 0 => Nat.le_refl _
 | i + 1 => by
  have := zHo t i
  rw [zGq]
  split
  ·rw [List.length_append]; show _ + 1 ≤ _; omega
  ·omega
end Go.Ax.Rt
namespace Go.Proofs.YtkncmbklkhjmgaaGreatDoor
open Go.Ax Go.Ax.Bg Go.Ax.Rt Go.RowKit Go.Ax.Idx Go.Ax.Cd
attribute [local irreducible] Ax zAO QOp zK zAN
theorem list_ok (t : zm) (hlen : t.length ≤ 1000000) : zN Tryz.prog 173 [.ro (zf t) 0 t.length] (.ro (.ints .i64 (zCp t t.length)) 0 (zCp t t.length).length) := by
 refine zK.value0 (zC (P := Tryz.prog) (fn := Tryz.f173) Y Y (by kernel_rfl) Y (fun c hR hfix => ?_)) (fix := fun _ => False) (fun _ h => h) Y Y
 refine rn8 ?_
 refine zBN 3 ⟨3, .ints .i64 []⟩ Y Y ?_
 repeat (refine zt ?_)
 refine zY (ι := Nat) (fun i => [(3, .sl 0 0 (zCp t i).length), (6, .ro (zf t) 0 t.length), (7, .int .i64 (t.length : Nat)), (8, .int .i64 (i : Nat))]) (fun i => [some ⟨3, .ints .i64 (zCp t i)⟩])
  (fun i => i ≤ t.length) (fun i => t.length - i) 0 ⟨⟨rfl, rfl, rfl, rfl, trivial⟩, rfl, Nat.zero_le _⟩ ?_
 intro i hi
 refine rn4 ?_
 refine zB Y (fun h => ?_) (fun h => ?_)
 ·have hi' : i < t.length := by omega
  have hsn := zGq t i
  have hel := zHo t i
  generalize hI2 : zCp t (i + 1) = I2 at *
  generalize zCp t i = I at *
  refine rn6 ?_
  refine zG 12 (.agg (ze (t.getD i zQ))) Y (AEq.of_eq Y) ?_
  generalize t.getD i zQ = n at *
  obtain ⟨kd, pl, nf, nx, od, py⟩ := n
  simp only at *
  refine sa1 (c' := .box [.int .i64 kd, .int .i64 pl, .int .i64 nf, .ro (.ints .i64 nx) 0 nx.length, .ro (.strs od) 0 od.length, .str py]) Y Y Y Y Y Y Y ?_
  refine zAu [some ⟨3, .ints .i64 I⟩, some ⟨79, .box [.int .i64 kd, .int .i64 pl, .int .i64 nf, .ro (.ints .i64 nx) 0 nx.length, .ro (.strs od) 0 od.length, .str py]⟩] Y ?_
  refine zG 5 (.ptr 1 0 0) Y (AEq.of_eq Y) ?_
  refine rn5 ?_
  refine zB Y (fun h1 => ?_) (fun h1 => ?_)
  ·rw [if_pos h1] at hsn
   refine rn3 ?_
   refine zS Y Y Y Y Y Y Y Y Y Y Y Y (by show 0 + 1 ≤ 1; omega) Y (by show (I.length + 1) * 8 ≤ _ ∧ _; omega) (fun i j _ _ => rfl) (by rw [hfix]; exact fun h => h) ?_
   refine zCM ?_
   refine zO ?_
   refine zBa [some ⟨3, .ints .i64 (I ++ [(i : Int)])⟩] [some ⟨79, .box [.int .i64 kd, .int .i64 pl, .int .i64 nf, .ro (.ints .i64 nx) 0 nx.length, .ro (.strs od) 0 od.length, .str py]⟩] [(3, .sl 0 0 (I.length + 1)), (6, .ro (zf t) 0 t.length), (7, .int .i64 (t.length : Nat)), (8, .int .i64 (i : Nat))] Y ⟨Y, Y, Y, Y, trivial⟩ (fun h hh => by rw [hfix] at hh; exact absurd hh id) (zEw (zBz _ _ _)) Y ?_
   refine rn3 ?_
   exact zM ⟨i + 1, by omega, by omega, ⟨by rw [hI2, hsn, List.length_append]; rfl, Y, Y, Y, trivial⟩, by rw [hI2, hsn]⟩
  ·rw [if_neg h1] at hsn
   refine zCM ?_
   refine zO ?_
   refine zBa [some ⟨3, .ints .i64 I⟩] [some ⟨79, .box [.int .i64 kd, .int .i64 pl, .int .i64 nf, .ro (.ints .i64 nx) 0 nx.length, .ro (.strs od) 0 od.length, .str py]⟩] [(3, .sl 0 0 I.length), (6, .ro (zf t) 0 t.length), (7, .int .i64 (t.length : Nat)), (8, .int .i64 (i : Nat))] Y ⟨Y, Y, Y, Y, trivial⟩ (fun h hh => by rw [hfix] at hh; exact absurd hh id) (zEw (zBz _ _ _)) Y ?_
   refine rn3 ?_
   exact zM ⟨i + 1, by omega, by omega, ⟨by rw [hI2, hsn]; rfl, Y, Y, Y, trivial⟩, by rw [hI2, hsn]⟩
 ·have hie : i = t.length := by omega
  subst hie
  refine zDc ?_
  refine zAb 0 3 (zCp t t.length).length [] Y zl Y (by show (zCp t t.length).length ≤ (zCp t t.length).length; exact Nat.le_refl _) trivial ?_
  refine rn0 ?_
  exact zE hR Y Y
end Go.Proofs.YtkncmbklkhjmgaaGreatDoor
namespace Go.Ax
variable [Pins]
open Go.RowKit
section
variable {P : Program} {fn : Func} {c : Ctx} {fr : Fr} {H : zH} {k : List It} {ind : Bool} {d : Option Nat} {ty : TypeId} {pos : String} {after : Array Edge} {g : Option (Nat × Bool)}
end
end Go.Ax
namespace Go.Proofs.YtkncmbklkhjmgaaGreatDoor
open Go.Ax Go.Ax.Bg Go.Ax.Rt Go.RowKit Go.Ax.Idx Go.Ax.Cd
attribute [local irreducible] Ax zAO QOp zK zAN
end Go.Proofs.YtkncmbklkhjmgaaGreatDoor
