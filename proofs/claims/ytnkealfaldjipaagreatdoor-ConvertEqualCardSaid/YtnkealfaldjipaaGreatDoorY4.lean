import Derived.Test.YtnkealfaldjipaaGreatDoorY3
set_option linter.unusedVariables false
set_option linter.unusedSimpArgs false
namespace Go.Ax.Rt
open Go.Ax.Bg Go.Ax.Dt
theorem z8 {α : Type} {l : List α} {j : Nat} (d : α) (h : j < l.length) : l.getD j d = l[j] := by simp [List.getD, h]
theorem zAQ {α : Type} {l : List α} {j : Nat} (d : α) (h : j < l.length) : l.getD j d ∈ l := by rw [z8 d h]; exact List.getElem_mem h
theorem zG6 {α : Type} {l r : List α} {j : Nat} (d : α) (h : j < l.length) : (l ++ r).getD j d = l.getD j d := by simp [List.getD, List.getElem?_append_left h]
theorem zPT {α : Type} {l : List α} {x d : α} : (l ++ [x]).getD l.length d = x := by simp [List.getD]
theorem num_den (q : Rat) : q * (q.den : Rat) = (q.num : Rat) := by
 have h : ((q.den : Int) : Rat) ≠ 0 := fun e => q.den_nz (by
   have := congrArg Rat.num e
   simpa using this)
 have h2 := Rat.num_divInt_den q
 rw [Rat.divInt_eq_div] at h2
 conv => lhs; lhs; rw [← h2]
 rw [← Rat.intCast_natCast, Rat.div_mul_cancel h]
theorem zOu {a x y : Rat} (ha : a ≠ 0) (h : a * x = a * y) : x = y := by
 have h1 : a⁻¹ * (a * x) = a⁻¹ * (a * y) := by rw [h]
 rwa [← Rat.mul_assoc, ← Rat.mul_assoc, Rat.inv_mul_cancel a ha, Rat.one_mul, Rat.one_mul] at h1
theorem intc_ne {x : Int} (h : x ≠ 0) : (x : Rat) ≠ 0 := fun e => h (by
 have := congrArg Rat.num e
 simpa using this)
theorem dig_D {k : Nat} {q : Rat} (h1 : (Lib.decDigits q.num.natAbs).length ≤ k) (h2 : (Lib.decDigits q.den).length ≤ k) : D k q :=
 ⟨Nat.lt_of_lt_of_le (zES _) (Nat.pow_le_pow_right (by decide) h1), Nat.lt_of_lt_of_le (zES _) (Nat.pow_le_pow_right (by decide) h2)⟩
end Go.Ax.Rt
namespace Go.Ax.Rt
open Go.Ax.Bg
structure TNode where
 kind : Int
 player : Int
 info : Int
 next : List Int
 odds : List zBJ
 pay : zBJ
 deriving DecidableEq
def node0 : TNode := ⟨0, 0, 0, [], [], []⟩
abbrev zQ := List TNode
def zEi (N i : Nat) (k : Int) : Bool := decide (k ≤ (i : Int)) || decide ((N : Int) ≤ k)
/-- the error of the children of a node -/
def zGg (N i : Nat) (l : List Int) : Int := if l.length = 0 then 3 else if 6 < l.length then 2 else if l.any (zEi N i) = true then 3 else 0
def zEI (N i : Nat) (n : TNode) : Int :=
 if n.kind = 0 then (if n.player ≠ 0 ∨ n.info ≠ 0 ∨ n.next ≠ [] ∨ n.odds ≠ [] then 3 else zDa n.pay)
 else if n.kind = 1 then (if n.player ≠ 0 ∨ n.info ≠ 0 ∨ n.pay ≠ [] then 3 else if zGg N i n.next ≠ 0 then zGg N i n.next else if n.odds.length ≠ n.next.length then 3 else zCz n.odds)
 else if n.kind = 2 then (if n.odds ≠ [] ∨ n.pay ≠ [] then 3 else if (n.player ≠ 0 ∧ n.player ≠ 1) ∨ n.info < 0 ∨ 10 ≤ n.info then 4 else zGg N i n.next)
 else 1
def zEV (N : Nat) : Nat → zQ → Int
 | _, [] => 0
 | i, n :: r => if zEI N i n = 0 then zEV N (i + 1) r else zEI N i n
/-- how often a node is named -/
def named (t : zQ) (k : Nat) : Nat := ((t.flatMap TNode.next).filter (fun x => decide (x = (k : Int)))).length
def zHS (a b : TNode) : Bool := decide (a.kind = 2) && (decide (b.kind = 2) && (decide (a.player = b.player) && (decide (a.info = b.info) && decide (a.next.length ≠ b.next.length))))
def zEz (t : zQ) : Int :=
 if 120 < t.length then 2 else if t.length = 0 then 8 else if zEV t.length 0 t ≠ 0 then zEV t.length 0 t
 else if (List.range t.length).any (fun k => decide (k ≠ 0) && decide (named t k ≠ 1)) = true then 3
 else if t.any (fun a => t.any (zHS a)) = true then 3 else 0
def zAv (t : zQ) (p : Int) : Int := if zEz t ≠ 0 then zEz t else if p ≠ 0 ∧ p ≠ 1 then 4 else 0
/-- Is it the player's move, in an information set? -/
def own (p : Int) (n : TNode) : Bool := decide (n.kind = 2) && decide (n.player = p)
def zBB (p i : Int) (n : TNode) : Bool := own p n && decide (n.info = i)
/-- the first node of an information set -/
def zJg (t : zQ) (p i : Int) : Nat := t.findIdx (zBB p i)
def zJ (t : zQ) (p : Int) : List Int := ((List.range 10).map (fun i : Nat => (i : Int))).filter (fun i => t.any (zBB p i))
def zR (t : zQ) (p i : Int) : Nat := (t.getD (zJg t p i) node0).next.length
def zz (t : zQ) (p : Int) : List Int := (zJ t p).map (fun i => ((zR t p i : Nat) : Int))
/-- What a valid game is. -/
structure Valid (t : zQ) : Prop where
 le : t.length ≤ 120
 ne : t.length ≠ 0
 nodes : ∀ i, i < t.length → zEI t.length i (t.getD i node0) = 0
 once : ∀ k, k < t.length → k ≠ 0 → named t k = 1
 same : ∀ a ∈ t, ∀ b ∈ t, zHS a b = false
theorem zLQ (N : Nat) : ∀ (t : zQ) (i : Nat), zEV N i t = 0 → ∀ j, j < t.length → zEI N (i + j) (t.getD j node0) = 0
 | [], i, _, j, hj => absurd hj (Nat.not_lt_zero _)
 | n :: r, i, h, j, hj => by
   rw [zEV] at h
   split at h
   · rename_i h0
     cases j with
     | zero => exact h0
     | succ j =>
       have := zLQ N r (i + 1) h j (by simpa using hj)
       rw [show i + (j + 1) = i + 1 + j by omega]
       exact this
   · rename_i h0; exact absurd h h0
theorem zKY {t : zQ} (h : zEz t = 0) : Valid t := by
 unfold zEz at h
 split at h
 · cases h
 split at h
 · cases h
 split at h
 · rename_i h3; exact absurd h h3
 split at h
 · cases h
 split at h
 · cases h
 rename_i h1 h2 h3 h4 h5
 refine ⟨by omega, h2, fun i hi => ?_, fun k hk h0 => ?_, fun a ha b hb => ?_⟩
 · have := zLQ t.length t 0 (Classical.not_not.1 h3) i hi
   rwa [Nat.zero_add] at this
 · rw [Bool.not_eq_true, List.any_eq_false] at h4
   have := h4 k (by simpa using hk)
   simp only [Bool.and_eq_true, decide_eq_true_eq, not_and] at this
   exact Classical.not_not.1 (this h0)
 · rw [Bool.not_eq_true, List.any_eq_false] at h5
   have := h5 a ha
   rw [List.any_eq_true] at this
   cases hc : zHS a b
   · rfl
   · exact absurd ⟨b, hb, hc⟩ this
/-- The children stand behind their parent. -/
theorem zBp {N i : Nat} {l : List Int} (h : zGg N i l = 0) : 1 ≤ l.length ∧ l.length ≤ 6 ∧ ∀ k ∈ l, (i : Int) < k ∧ k < N := by
 unfold zGg at h
 split at h
 · cases h
 split at h
 · cases h
 split at h
 · cases h
 rename_i h1 h2 h3
 refine ⟨by omega, by omega, fun k hk => ?_⟩
 rw [Bool.not_eq_true, List.any_eq_false] at h3
 have := h3 k hk
 unfold zEi at this
 simp only [Bool.or_eq_true, decide_eq_true_eq, not_or] at this
 omega
theorem Valid.child {t : zQ} (h : Valid t) {i : Nat} (hi : i < t.length) : ((t.getD i node0).kind = 0 ∧ (t.getD i node0).next = []) ∨ (((t.getD i node0).kind = 1 ∨ (t.getD i node0).kind = 2) ∧ zGg t.length i (t.getD i node0).next = 0) := by
 have hn := h.nodes i hi
 unfold zEI at hn
 split at hn
 · rename_i h0
   split at hn
   · cases hn
   · rename_i h1
     simp only [not_or] at h1
     exact .inl ⟨h0, Classical.not_not.1 h1.2.2.1⟩
 · split at hn
   · rename_i h1
     split at hn
     · cases hn
     split at hn
     · rename_i h2; exact absurd hn h2
     rename_i h2 h3
     exact .inr ⟨.inl h1, Classical.not_not.1 h3⟩
   · split at hn
     · rename_i h2
       split at hn
       · cases hn
       split at hn
       · cases hn
       exact .inr ⟨.inr h2, hn⟩
     · cases hn
theorem Valid.behind {t : zQ} (h : Valid t) {i : Nat} (hi : i < t.length) : ∀ k ∈ (t.getD i node0).next, (i : Int) < k ∧ k < t.length := by
 rcases h.child hi with ⟨_, h2⟩ | ⟨_, h2⟩
 · rw [h2]; intro k hk; simp at hk
 · exact (zBp h2).2.2
theorem Valid.few {t : zQ} (h : Valid t) {i : Nat} (hi : i < t.length) : (t.getD i node0).next.length ≤ 6 := by
 rcases h.child hi with ⟨_, h2⟩ | ⟨_, h2⟩
 · rw [h2]; exact Nat.zero_le _
 · exact (zBp h2).2.1
theorem Valid.mine {t : zQ} (h : Valid t) {i : Nat} (hi : i < t.length) {p : Int} (ho : own p (t.getD i node0) = true) : 0 ≤ (t.getD i node0).info ∧ (t.getD i node0).info < 10 ∧ 1 ≤ (t.getD i node0).next.length := by
 unfold own at ho
 rw [Bool.and_eq_true, decide_eq_true_eq, decide_eq_true_eq] at ho
 have hn := h.nodes i hi
 unfold zEI at hn
 rw [if_neg (by rw [ho.1]; decide), if_neg (by rw [ho.1]; decide), if_pos ho.1] at hn
 split at hn
 · cases hn
 split at hn
 · cases hn
 rename_i h1 h2
 simp only [not_or] at h2
 have := zBp hn
 exact ⟨by omega, by omega, this.1⟩
/-- Nodes of one set have equally many choices. -/
theorem Valid.width {t : zQ} (h : Valid t) {i j : Nat} (hi : i < t.length) (hj : j < t.length) {p : Int} (hio : own p (t.getD i node0) = true) (hjo : own p (t.getD j node0) = true) (he : (t.getD i node0).info = (t.getD j node0).info) : (t.getD i node0).next.length = (t.getD j node0).next.length := by
 have hc := h.same _ (zAQ node0 hi) _ (zAQ node0 hj)
 unfold own at hio hjo
 rw [Bool.and_eq_true, decide_eq_true_eq, decide_eq_true_eq] at hio hjo
 unfold zHS at hc
 rw [decide_eq_true hio.1, decide_eq_true hjo.1, decide_eq_true (by rw [hio.2, hjo.2]), decide_eq_true he, Bool.true_and, Bool.true_and, Bool.true_and, Bool.true_and, decide_eq_false_iff_not] at hc
 exact Classical.not_not.1 hc
/-- how often 0, 1, .. N-1 occur -/
def zD1 (N : Nat) (l : List Int) : List Int := (List.range N).map (fun k : Nat => (((l.filter (fun x => decide (x = (k : Int)))).length : Nat) : Int))
theorem zEe (N : Nat) (l : List Int) : (zD1 N l).length = N := by simp [zD1]
theorem zKx {N : Nat} {l : List Int} {k : Nat} (hk : k < N) : (zD1 N l).getD k 0 = (((l.filter (fun x => decide (x = (k : Int)))).length : Nat) : Int) := by simp [zD1, List.getD, hk]
theorem cntT_nil (N : Nat) : zD1 N [] = List.replicate N 0 := by
 apply List.ext_getElem (by simp [zD1])
 intro i h1 h2
 simp [zD1]
theorem zQb {N : Nat} (l : List Int) {x : Int} (h0 : 0 ≤ x) (h1 : x < N) : zD1 N (l ++ [x]) = (zD1 N l).set x.toNat ((zD1 N l).getD x.toNat 0 + 1) := by
 rw [zKx (by omega)]
 apply List.ext_getElem (by simp [zD1])
 intro i i1 i2
 rw [List.getElem_set]
 have hi : i < N := by simpa [zD1] using i1
 simp only [zD1, List.getElem_map, List.getElem_range, List.filter_append, List.length_append]
 by_cases h : x.toNat = i
 · rw [if_pos h, h]
   have : x = (i : Int) := by omega
   simp [this]
 · rw [if_neg h]
   have : ¬ x = (i : Int) := by omega
   simp [this]
theorem cntT_le (N : Nat) (l : List Int) (k : Nat) : 0 ≤ (zD1 N l).getD k 0 ∧ (zD1 N l).getD k 0 ≤ l.length := by
 by_cases hk : k < N
 · rw [zKx hk]
   have := List.length_filter_le (fun x => decide (x = (k : Int))) l
   omega
 · have : (zD1 N l).getD k 0 = 0 := by simp [zD1, List.getD, hk]
   rw [this]; omega
theorem zJx (t : zQ) {k : Nat} (hk : k < t.length) : (zD1 t.length (t.flatMap TNode.next)).getD k 0 = ((named t k : Nat) : Int) := zKx hk
/-- All but the first are named once. -/
theorem zQa {t : zQ} (h0 : t.length ≠ 0) : ((zD1 t.length (t.flatMap TNode.next)).drop 1).any (fun n => decide (n ≠ 1)) = (List.range t.length).any (fun k => decide (k ≠ 0) && decide (named t k ≠ 1)) := by
 rw [Bool.eq_iff_iff, List.any_eq_true, List.any_eq_true]
 constructor
 · rintro ⟨x, hx, h⟩
   obtain ⟨i, hi, rfl⟩ := List.mem_iff_getElem.1 hx
   rw [List.length_drop, zEe] at hi
   refine ⟨1 + i, by simp; omega, ?_⟩
   rw [List.getElem_drop] at h
   have e := zJx t (k := 1 + i) (by omega)
   rw [z8 0 (by rw [zEe]; omega)] at e
   rw [e] at h
   simp only [Bool.and_eq_true, decide_eq_true_eq] at h ⊢
   exact ⟨by omega, by omega⟩
 · rintro ⟨k, hk, h⟩
   have hk : k < t.length := by simpa using hk
   simp only [Bool.and_eq_true, decide_eq_true_eq] at h
   have e := zJx t hk
   refine ⟨_, List.mem_iff_getElem.2 ⟨k - 1, by rw [List.length_drop, zEe]; omega, Y⟩, ?_⟩
   rw [List.getElem_drop]
   rw [z8 0 (by rw [zEe]; omega)] at e
   have e2 : (zD1 t.length (t.flatMap TNode.next))[1 + (k - 1)]'(by rw [zEe]; omega) = ((named t k : Nat) : Int) := by
     rw [← e]; congr 1; omega
   rw [e2, decide_eq_true_eq]
   omega
/-- the sizes of the information sets, as the loop finds them -/
abbrev KSz := List (Int × Int × Nat)
def zJd (t : zQ) : Prop := ∀ a ∈ t, ∀ b ∈ t, zHS a b = false
structure KInv (t : zQ) (S : KSz) : Prop where
 free : zJd t
 from_ : ∀ e ∈ S, ∃ b ∈ t, b.kind = 2 ∧ b.player = e.1 ∧ b.info = e.2.1 ∧ b.next.length = e.2.2
 all : ∀ a ∈ t, a.kind = 2 → ∃ e ∈ S, e.1 = a.player ∧ e.2.1 = a.info
theorem zMq {a b : TNode} : zHS a b = true ↔ a.kind = 2 ∧ b.kind = 2 ∧ a.player = b.player ∧ a.info = b.info ∧ a.next.length ≠ b.next.length := by
 unfold zHS
 simp only [Bool.and_eq_true, decide_eq_true_eq]
theorem zKN {a b : TNode} : zHS a b = false ↔ (a.kind = 2 → b.kind = 2 → a.player = b.player → a.info = b.info → a.next.length = b.next.length) := by
 rw [← Bool.not_eq_true, zMq]
 constructor
 · intro h h1 h2 h3 h4
   exact Classical.not_not.1 (fun h5 => h ⟨h1, h2, h3, h4, h5⟩)
 · rintro h ⟨h1, h2, h3, h4, h5⟩
   exact h5 (h h1 h2 h3 h4)
theorem KInv.nil : KInv [] [] := ⟨fun a ha => by simp at ha, fun e he => by simp at he, fun a ha => by simp at ha⟩
theorem zGB {t : zQ} {n : TNode} (h : zJd t) (hn : ∀ a ∈ t, n.kind = 2 → a.kind = 2 → a.player = n.player → a.info = n.info → a.next.length = n.next.length) : zJd (t ++ [n]) := by
 intro a ha0 b hb0
 rw [zKN]
 intro k1 k2 k3 k4
 rcases List.mem_append.1 ha0 with ha | ha <;> rcases List.mem_append.1 hb0 with hb | hb
 · exact zKN.1 (h a ha b hb) k1 k2 k3 k4
 · have e := List.mem_singleton.1 hb
   rw [e] at k2 k3 k4 ⊢
   exact hn a ha k2 k1 k3 k4
 · have e := List.mem_singleton.1 ha
   rw [e] at k1 k3 k4 ⊢
   exact (hn b hb k1 k2 k3.symm k4.symm).symm
 · rw [List.mem_singleton.1 ha, List.mem_singleton.1 hb]
theorem KInv.skip {t : zQ} {S : KSz} {n : TNode} (h : KInv t S) (hk : n.kind ≠ 2) : KInv (t ++ [n]) S :=
 ⟨zGB h.free (fun a _ h1 => absurd h1 hk), fun e he => by
   obtain ⟨b, hb, q⟩ := h.from_ e he
   exact ⟨b, List.mem_append_left _ hb, q⟩, fun a ha h1 => by
   rcases List.mem_append.1 ha with ha | ha
   · exact h.all a ha h1
   · rw [List.mem_singleton.1 ha] at h1; exact absurd h1 hk⟩
theorem KInv.hit {t : zQ} {S : KSz} {n : TNode} {e : Int × Int × Nat} (h : KInv t S) (he : e ∈ S) (h1 : e.1 = n.player) (h2 : e.2.1 = n.info) (h3 : e.2.2 = n.next.length) : KInv (t ++ [n]) S :=
 ⟨zGB h.free (fun a ha q1 q2 q3 q4 => by
   obtain ⟨b, hb, p1, p2, p3, p4⟩ := h.from_ e he
   have := zKN.1 (h.free a ha b hb) q2 p1 (by rw [q3, p2, h1]) (by rw [q4, p3, h2])
   rw [this, p4, h3]), fun e he => by
   obtain ⟨b, hb, q⟩ := h.from_ e he
   exact ⟨b, List.mem_append_left _ hb, q⟩, fun a ha q1 => by
   rcases List.mem_append.1 ha with ha | ha
   · exact h.all a ha q1
   · rw [List.mem_singleton.1 ha]; exact ⟨e, he, h1, h2⟩⟩
theorem KInv.miss {t : zQ} {S : KSz} {n : TNode} (h : KInv t S) (hk : n.kind = 2) (hm : ∀ e ∈ S, ¬ (e.1 = n.player ∧ e.2.1 = n.info)) : KInv (t ++ [n]) (S ++ [(n.player, n.info, n.next.length)]) :=
 ⟨zGB h.free (fun a ha q1 q2 q3 q4 => by
   obtain ⟨e, he, p1, p2⟩ := h.all a ha q2
   exact absurd ⟨by rw [p1, q3], by rw [p2, q4]⟩ (hm e he)), fun e he => by
   rcases List.mem_append.1 he with he | he
   · obtain ⟨b, hb, q⟩ := h.from_ e he
     exact ⟨b, List.mem_append_left _ hb, q⟩
   · rw [List.mem_singleton.1 he]
     exact ⟨n, by simp, hk, Y, Y, Y⟩, fun a ha q1 => by
   rcases List.mem_append.1 ha with ha | ha
   · obtain ⟨e, he, q⟩ := h.all a ha q1
     exact ⟨e, List.mem_append_left _ he, q⟩
   · rw [List.mem_singleton.1 ha]; exact ⟨_, List.mem_append_right _ (List.mem_singleton.2 rfl), rfl, rfl⟩⟩
theorem KInv.bad {t T : zQ} {S : KSz} {n : TNode} {e : Int × Int × Nat} (h : KInv t S) (hT : ∀ a ∈ t, a ∈ T) (hn : n ∈ T) (hk : n.kind = 2) (he : e ∈ S) (h1 : e.1 = n.player) (h2 : e.2.1 = n.info) (h3 : e.2.2 ≠ n.next.length) : T.any (fun a => T.any (zHS a)) = true := by
 obtain ⟨b, hb, p1, p2, p3, p4⟩ := h.from_ e he
 rw [List.any_eq_true]
 refine ⟨b, hT b hb, ?_⟩
 rw [List.any_eq_true]
 exact ⟨n, hn, zMq.2 ⟨p1, hk, by rw [p2, h1], by rw [p3, h2], by rw [p4]; exact h3⟩⟩
theorem zNw {t : zQ} (h : zJd t) : t.any (fun a => t.any (zHS a)) = false := by
 rw [List.any_eq_false]
 intro a ha h1
 obtain ⟨b, hb, h2⟩ := List.any_eq_true.1 h1
 rw [h a ha b hb] at h2
 cases h2
theorem zNQ {N i : Nat} {t : zQ} (hi : i < t.length) : zEV N i (t.drop i) = if zEI N i (t.getD i node0) = 0 then zEV N (i + 1) (t.drop (i + 1)) else zEI N i (t.getD i node0) := by
 rw [List.drop_eq_getElem_cons hi, ← z8 node0 hi, zEV]
theorem zKR {N i : Nat} {n : TNode} (h : zEI N i n = 0) : (∀ k ∈ n.next, (i : Int) < k ∧ k < N) ∧ n.next.length ≤ 6 := by
 unfold zEI at h
 split at h
 · split at h
   · cases h
   · rename_i h1
     simp only [not_or] at h1
     have := Classical.not_not.1 h1.2.2.1
     rw [this]
     exact ⟨fun k hk => by simp at hk, Nat.zero_le _⟩
 · split at h
   · split at h
     · cases h
     split at h
     · rename_i h2; exact absurd h h2
     rename_i h2 h3
     obtain ⟨q1, q2, q3⟩ := zBp (Classical.not_not.1 h3)
     exact ⟨q3, q2⟩
   · split at h
     · split at h
       · cases h
       split at h
       · cases h
       obtain ⟨q1, q2, q3⟩ := zBp h
       exact ⟨q3, q2⟩
     · cases h
/-- the nodes named by the first nodes -/
def zEv (t : zQ) (i : Nat) : List Int := (t.take i).flatMap TNode.next
theorem zO0 {t : zQ} {i : Nat} (hi : i < t.length) : zEv t (i + 1) = zEv t i ++ (t.getD i node0).next := by
 unfold zEv
 rw [List.take_succ_eq_append_getElem hi, List.flatMap_append, z8 node0 hi]
 simp
theorem zDD {l : List Int} {j : Nat} (hj : j < l.length) : l.take (j + 1) = l.take j ++ [l.getD j 0] := by
 rw [List.take_succ_eq_append_getElem hj, z8 0 hj]
theorem zO2 {l : zQ} {j : Nat} (hj : j < l.length) : l.take (j + 1) = l.take j ++ [l.getD j node0] := by
 rw [List.take_succ_eq_append_getElem hj, z8 node0 hj]
structure RSeq where
 info : Int
 choice : Int
 before : Int
 deriving DecidableEq
def seq0 : RSeq := ⟨-1, -1, -1⟩
structure RForm where
 seqs : List RSeq
 pos : List Int
 first : List (Int × Nat)
def zBb (m : List (Int × Nat)) (k : Int) : Option Nat := (m.find? (fun x => decide (x.1 = k))).map Prod.snd
def zB9 (n : TNode) (b : Int) : List RSeq := (List.range n.next.length).map (fun k : Nat => ⟨n.info, (k : Int), b⟩)
def zAY (p : Int) (n : TNode) (i : Nat) (f : RForm) : RForm :=
 if own p n = true ∧ zBb f.first n.info = none then ⟨f.seqs ++ zB9 n (f.pos.getD i 0), f.pos, f.first ++ [(n.info, f.seqs.length)]⟩ else f
def zDt (v : Nat → Int) : List Int → Nat → List Int → List Int
 | [], _, a => a
 | c :: r, k, a => zDt v r (k + 1) (a.set c.toNat (v k))
def zHR (p : Int) (n : TNode) (i : Nat) (f : RForm) (k : Nat) : Int := if own p n = true then (((zBb f.first n.info).getD 0 : Nat) : Int) + (k : Int) else f.pos.getD i 0
def zJW (p : Int) (n : TNode) (i : Nat) (f : RForm) : RForm := ⟨(zAY p n i f).seqs, zDt (zHR p n i (zAY p n i f)) n.next 0 (zAY p n i f).pos, (zAY p n i f).first⟩
def zAN (t : zQ) (p : Int) : Nat → RForm
 | 0 => ⟨[seq0], List.replicate t.length 0, []⟩
 | i + 1 => zJW p (t.getD i node0) i (zAN t p i)
theorem zF5 {m : List (Int × Nat)} {k : Int} (h : zBb m k = none) : k ∉ m.map Prod.fst := by
 unfold zBb at h
 rw [Option.map_eq_none_iff, List.find?_eq_none] at h
 intro hk
 obtain ⟨x, hx, rfl⟩ := List.mem_map.1 hk
 exact h x hx (by simp)
theorem zCP {m : List (Int × Nat)} {k : Int} {s : Nat} (h : zBb m k = some s) : (k, s) ∈ m := by
 unfold zBb at h
 obtain ⟨x, hx, rfl⟩ := Option.map_eq_some_iff.1 h
 have h1 := List.mem_of_find?_eq_some hx
 have h2 := List.find?_some hx
 have h3 : x.1 = k := by simpa using h2
 rw [← h3]; exact h1
theorem zJP (v : Nat → Int) : ∀ (l : List Int) (k : Nat) (a : List Int), (zDt v l k a).length = a.length
 | [], _, a => rfl
 | c :: r, k, a => by rw [zDt, zJP v r]; simp
theorem zJN {v : Nat → Int} {P : Int → Prop} : ∀ (l : List Int) (k : Nat) (a : List Int), (∀ x ∈ a, P x) → (∀ j, k ≤ j → j < k + l.length → P (v j)) → ∀ x ∈ zDt v l k a, P x
 | [], _, a, h, _ => h
 | c :: r, k, a, h, hv => by
   rw [zDt]
   refine zJN r (k + 1) _ (fun x hx => ?_) (fun j h1 h2 => hv j (by omega) (by simp; omega))
   rcases List.mem_or_eq_of_mem_set hx with q | q
   · exact h x q
   · rw [q]; exact hv k (Nat.le_refl _) (by simp)
theorem zC4 {t : zQ} (h : Valid t) {p x : Int} {i : Nat} (hi : i < t.length) (hs : zBB p x (t.getD i node0) = true) : zR t p x = (t.getD i node0).next.length := by
 have hex : ∃ y ∈ t, zBB p x y = true := ⟨_, zAQ node0 hi, hs⟩
 have hlt : zJg t p x < t.length := List.findIdx_lt_length_of_exists hex
 have hin : zBB p x (t.getD (zJg t p x) node0) = true := by
   rw [z8 node0 hlt]
   exact List.findIdx_getElem
 unfold zBB at hs hin
 rw [Bool.and_eq_true, decide_eq_true_eq] at hs hin
 exact h.width hlt hi hin.1 hs.1 (by rw [hin.2, hs.2])
structure RI (t : zQ) (p : Int) (i : Nat) (f : RForm) : Prop where
 s0 : f.seqs.getD 0 seq0 = seq0 ∧ 0 < f.seqs.length
 pl : f.pos.length = t.length
 pb : ∀ x ∈ f.pos, 0 ≤ x ∧ x < f.seqs.length
 keys : ∀ x, x ∈ f.first.map Prod.fst ↔ ∃ j, j < i ∧ zBB p x (t.getD j node0) = true
 nd : (f.first.map Prod.fst).Nodup
 sl : f.seqs.length = 1 + (f.first.map (fun x => zR t p x.1)).sum
 fst : ∀ x ∈ f.first, 1 ≤ x.2 ∧ x.2 + zR t p x.1 ≤ f.seqs.length ∧ ∃ b : Int, 0 ≤ b ∧ b < x.2 ∧ ∀ k, k < zR t p x.1 → f.seqs.getD (x.2 + k) seq0 = ⟨x.1, k, b⟩
 all : ∀ k, 1 ≤ k → k < f.seqs.length → ∃ x ∈ f.first, x.2 ≤ k ∧ k < x.2 + zR t p x.1
theorem RI.init (t : zQ) (p : Int) : RI t p 0 (zAN t p 0) where
 s0 := ⟨rfl, Nat.zero_lt_one⟩
 pl := List.length_replicate
 pb := fun x hx => by
   obtain ⟨_, rfl⟩ := List.mem_replicate.1 hx
   exact ⟨by decide, by show (0 : Int) < ((1 : Nat) : Int); decide⟩
 keys := fun x => ⟨fun h => by simp [zAN] at h, fun ⟨j, hj, _⟩ => absurd hj (Nat.not_lt_zero _)⟩
 nd := List.nodup_nil
 sl := rfl
 fst := fun x hx => by simp [zAN] at hx
 all := fun k h1 h2 => by
   have : (zAN t p 0).seqs.length = 1 := rfl
   omega
/-- A new information set. -/
theorem RI.add {t : zQ} (hv : Valid t) {p : Int} {i : Nat} {f : RForm} (h : RI t p i f) (hi : i < t.length) :
   RI t p i f → (f.seqs.getD 0 seq0 = seq0) → let n := t.getD i node0; let g := zAY p n i f
   g.seqs.getD 0 seq0 = seq0 ∧ 0 < g.seqs.length ∧ g.pos = f.pos ∧ f.seqs.length ≤ g.seqs.length ∧ (∀ x, x ∈ g.first.map Prod.fst ↔ ∃ j, j < i + 1 ∧ zBB p x (t.getD j node0) = true) ∧ (g.first.map Prod.fst).Nodup ∧
   g.seqs.length = 1 + (g.first.map (fun x => zR t p x.1)).sum ∧
   (∀ x ∈ g.first, 1 ≤ x.2 ∧ x.2 + zR t p x.1 ≤ g.seqs.length ∧ ∃ b : Int, 0 ≤ b ∧ b < x.2 ∧ ∀ k, k < zR t p x.1 → g.seqs.getD (x.2 + k) seq0 = ⟨x.1, k, b⟩) ∧
   (∀ k, 1 ≤ k → k < g.seqs.length → ∃ x ∈ g.first, x.2 ≤ k ∧ k < x.2 + zR t p x.1) ∧ (own p n = true → ∃ s, zBb g.first n.info = some s) := by
 intro _ _
 obtain ⟨h0, h0l⟩ := h.s0
 intro n g
 have hkey : ∀ x, (∃ j, j < i + 1 ∧ zBB p x (t.getD j node0) = true) ↔ ((∃ j, j < i ∧ zBB p x (t.getD j node0) = true) ∨ zBB p x n = true) := by
   intro x
   constructor
   · rintro ⟨j, h1, h2⟩
     by_cases e : j = i
     · subst e; exact .inr h2
     · exact .inl ⟨j, by omega, h2⟩
   · rintro (⟨j, h1, h2⟩ | h2)
     · exact ⟨j, by omega, h2⟩
     · exact ⟨i, by omega, h2⟩
 by_cases hc : own p n = true ∧ zBb f.first n.info = none
 · have eg : g = ⟨f.seqs ++ zB9 n (f.pos.getD i 0), f.pos, f.first ++ [(n.info, f.seqs.length)]⟩ := by
     show zAY p n i f = _
     unfold zAY; rw [if_pos hc]
   have hin : zBB p n.info n = true := by unfold zBB; rw [hc.1]; simp
   have hw : zR t p n.info = n.next.length := zC4 hv hi hin
   have hnl : (zB9 n (f.pos.getD i 0)).length = n.next.length := by simp [zB9]
   have hno := zF5 hc.2
   have hb := h.pb (f.pos.getD i 0) (zAQ 0 (by rw [h.pl]; exact hi))
   rw [eg]
   refine ⟨by rw [zG6 _ h0l]; exact h0, by rw [List.length_append]; omega, Y, by rw [List.length_append]; omega, fun x => ?_, ?_, ?_, fun x hx => ?_, fun k h1 h2 => ?_, fun _ => ?_⟩
   · rw [hkey, List.map_append, List.mem_append, h.keys x]
     constructor
     · rintro (q | q)
       · exact .inl q
       · right
         have : x = n.info := by simpa using q
         rw [this]; exact hin
     · rintro (q | q)
       · exact .inl q
       · right
         unfold zBB at q
         rw [Bool.and_eq_true, decide_eq_true_eq] at q
         simp [q.2]
   · rw [List.map_append, List.nodup_append]
     refine ⟨h.nd, by simp, fun a ha b hb e => ?_⟩
     have : b = n.info := by simpa using hb
     rw [← this, ← e] at hno
     exact hno ha
   · rw [List.length_append, hnl, List.map_append, List.sum_append, h.sl]
     simp [hw]
     omega
   · rcases List.mem_append.1 hx with q | q
     · obtain ⟨a1, a2, b, b1, b2, b3⟩ := h.fst x q
       refine ⟨a1, by rw [List.length_append]; omega, b, b1, b2, fun k hk => ?_⟩
       rw [zG6 _ (by omega)]
       exact b3 k hk
     · have hx' : x = (n.info, f.seqs.length) := by simpa using q
       subst hx'
       refine ⟨h0l, by rw [List.length_append, hnl]; show _ + zR t p n.info ≤ _; omega, f.pos.getD i 0, hb.1, hb.2, fun k hk => ?_⟩
       have hk : k < n.next.length := by
         have : k < zR t p n.info := hk
         omega
       show (f.seqs ++ zB9 n (f.pos.getD i 0)).getD (f.seqs.length + k) seq0 = _
       have e : (f.seqs ++ zB9 n (f.pos.getD i 0)).getD (f.seqs.length + k) seq0 = (zB9 n (f.pos.getD i 0)).getD k seq0 := by
         simp only [List.getD]
         rw [List.getElem?_append_right (by omega), Nat.add_sub_cancel_left]
       rw [e]
       unfold zB9
       rw [zBV _ _ 0 _ _ (by simpa using hk)]
       simp [List.getD, hk]
   · rw [List.length_append, hnl] at h2
     by_cases hk : k < f.seqs.length
     · obtain ⟨x, x1, x2, x3⟩ := h.all k h1 hk
       exact ⟨x, List.mem_append_left _ x1, x2, x3⟩
     · refine ⟨(n.info, f.seqs.length), by simp, by show f.seqs.length ≤ k; omega, by show k < f.seqs.length + zR t p n.info; omega⟩
   · refine ⟨f.seqs.length, ?_⟩
     unfold zBb at hc ⊢
     rw [Option.map_eq_none_iff] at hc
     rw [List.find?_append, hc.2]
     simp
 · have eg : g = f := by
     show zAY p n i f = _
     unfold zAY; rw [if_neg hc]
   rw [eg]
   have hold : own p n = true → ∃ s, zBb f.first n.info = some s := by
     intro ho
     cases e : zBb f.first n.info with
     | none => exact absurd ⟨ho, e⟩ hc
     | some s => exact ⟨s, rfl⟩
   refine ⟨h0, h0l, Y, Nat.le_refl _, fun x => ?_, h.nd, h.sl, h.fst, h.all, hold⟩
   rw [hkey, h.keys x]
   constructor
   · exact .inl
   · rintro (q | q)
     · exact q
     · unfold zBB at q
       rw [Bool.and_eq_true, decide_eq_true_eq] at q
       obtain ⟨s, hs⟩ := hold q.1
       refine (h.keys x).1 ?_
       rw [← q.2]
       exact List.mem_map.2 ⟨_, zCP hs, Y⟩
theorem RI.step {t : zQ} (hv : Valid t) {p : Int} {i : Nat} {f : RForm} (h : RI t p i f) (hi : i < t.length) : RI t p (i + 1) (zJW p (t.getD i node0) i f) := by
 obtain ⟨a1, a2, a3, a4, a5, a6, a7, a8, a9, a10⟩ := RI.add hv h hi h h.s0.1
 generalize hn : t.getD i node0 = n at *
 generalize hg : zAY p n i f = g at *
 have est : zJW p n i f = ⟨g.seqs, zDt (zHR p n i g) n.next 0 g.pos, g.first⟩ := by unfold zJW; rw [hg]
 rw [est]
 refine ⟨⟨a1, a2⟩, by rw [zJP, a3]; exact h.pl, zJN _ _ _ (fun x hx => ?_) (fun j h1 h2 => ?_), a5, a6, a7, a8, a9⟩
 · rw [a3] at hx
   have := h.pb x hx
   show 0 ≤ x ∧ x < ((g.seqs.length : Nat) : Int)
   omega
 · show 0 ≤ zHR p n i g j ∧ zHR p n i g j < ((g.seqs.length : Nat) : Int)
   unfold zHR
   split
   · rename_i ho
     obtain ⟨s, hs⟩ := a10 ho
     obtain ⟨b1, b2, _⟩ := a8 _ (zCP hs)
     have hw : zR t p n.info = n.next.length := by
       rw [← hn]
       refine zC4 hv hi ?_
       unfold zBB
       rw [hn, ho]; simp
     rw [hs]
     simp only [Option.getD_some] at *
     omega
   · rw [a3]
     have := h.pb (f.pos.getD i 0) (zAQ 0 (by rw [h.pl]; exact hi))
     omega
theorem RI.all_n {t : zQ} (hv : Valid t) (p : Int) : ∀ i, i ≤ t.length → RI t p i (zAN t p i)
 | 0, _ => RI.init t p
 | i + 1, hi => (RI.all_n hv p i (by omega)).step hv (by omega)
def zY (t : zQ) (p : Int) : List RSeq := (zAN t p t.length).seqs
theorem zBg {t : zQ} (hv : Valid t) {p x : Int} : x ∈ zJ t p ↔ ∃ j, j < t.length ∧ zBB p x (t.getD j node0) = true := by
 unfold zJ
 rw [List.mem_filter, List.any_eq_true]
 constructor
 · rintro ⟨_, y, hy, h2⟩
   obtain ⟨j, hj, rfl⟩ := List.getElem_of_mem hy
   exact ⟨j, hj, by rw [z8 node0 hj]; exact h2⟩
 · rintro ⟨j, hj, h2⟩
   refine ⟨?_, t.getD j node0, zAQ node0 hj, h2⟩
   unfold zBB at h2
   rw [Bool.and_eq_true, decide_eq_true_eq] at h2
   have hm := hv.mine hj h2.1
   rw [h2.2] at hm
   refine List.mem_map.2 ⟨x.toNat, List.mem_range.2 (by omega), by omega⟩
theorem zBn (t : zQ) (p : Int) : (zJ t p).Nodup := by
 unfold zJ
 refine List.Nodup.sublist List.filter_sublist ?_
 rw [List.nodup_iff_pairwise_ne, List.pairwise_map]
 exact (List.nodup_iff_pairwise_ne.1 List.nodup_range).imp (fun h => by omega)
/-- RecallNumbers: how the sequences are numbered. -/
theorem zAw {t : zQ} (hv : Valid t) (p : Int) :
   (zY t p).length = 1 + ((zJ t p).map (zR t p)).sum ∧ (zY t p).getD 0 seq0 = seq0 ∧ 0 < (zY t p).length ∧
   ∀ k, k + 1 < (zY t p).length → ((zY t p).getD (k + 1) seq0).info ∈ zJ t p ∧ 0 ≤ ((zY t p).getD (k + 1) seq0).before ∧ ((zY t p).getD (k + 1) seq0).before ≤ k ∧
     (0 < ((zY t p).getD (k + 1) seq0).choice → (zY t p).getD k seq0 = ⟨((zY t p).getD (k + 1) seq0).info, ((zY t p).getD (k + 1) seq0).choice - 1, ((zY t p).getD (k + 1) seq0).before⟩) := by
 have h := RI.all_n hv p t.length (Nat.le_refl _)
 have hperm : ((zAN t p t.length).first.map Prod.fst).Perm (zJ t p) :=
   (List.perm_ext_iff_of_nodup h.nd (zBn t p)).2 (fun x => by rw [h.keys x, zBg hv])
 refine ⟨?_, h.s0.1, h.s0.2, fun k hk => ?_⟩
 · show (zAN t p t.length).seqs.length = _
   rw [h.sl, ← (hperm.map (zR t p)).sum_nat, List.map_map]
   rfl
 · obtain ⟨x, x1, x2, x3⟩ := h.all (k + 1) (by omega) hk
   obtain ⟨y1, y2, b, b1, b2, b3⟩ := h.fst x x1
   have e1 := b3 (k + 1 - x.2) (by omega)
   rw [show x.2 + (k + 1 - x.2) = k + 1 by omega] at e1
   have e1' : (zY t p).getD (k + 1) seq0 = ⟨x.1, ((k + 1 - x.2 : Nat) : Int), b⟩ := e1
   rw [e1']
   refine ⟨hperm.mem_iff.1 (List.mem_map.2 ⟨x, x1, Y⟩), b1, by show b ≤ (k : Int); omega, fun hc => ?_⟩
   have hc : (0 : Int) < ((k + 1 - x.2 : Nat) : Int) := hc
   have e2 := b3 (k - x.2) (by omega)
   rw [show x.2 + (k - x.2) = k by omega] at e2
   have e2' : (zY t p).getD k seq0 = ⟨x.1, ((k - x.2 : Nat) : Int), b⟩ := e2
   rw [e2']
   show (⟨x.1, _, b⟩ : RSeq) = ⟨x.1, ((k + 1 - x.2 : Nat) : Int) - 1, b⟩
   congr 1
   omega
def zAH : Rat → List Rat → Rat
 | acc, [] => acc
 | acc, q :: r => zAH (acc + q) r
theorem zHu : ∀ (qs : List Rat) (acc : Rat), (∀ q ∈ qs, 0 ≤ q) → acc ≤ zAH acc qs
 | [], acc, _ => Rat.le_refl
 | q :: r, acc, h => by
   rw [zAH]
   refine Rat.le_trans ?_ (zHu r _ (fun x hx => h x (by simp [hx])))
   have := (Rat.add_le_add_left (c := acc)).2 (h q (by simp))
   rwa [Rat.add_zero] at this
abbrev zDL := List (Int × Int)
/-- matgame.Check -/
def gameE (m : List (List zBJ)) : Int := if 12 < m.length then 2 else if matE m ≠ 0 then matE m else if zIt m = 0 then 8 else if 12 < zIt m then 2 else 0
def outside (m : List (List zBJ)) (x : Int × Int) : Bool := decide (x.1 < 0) || (decide ((m.length : Int) ≤ x.1) || (decide (x.2 < 0) || decide ((zIt m : Int) ≤ x.2)))
/-- regret.Check -/
def histE (m : List (List zBJ)) (l : zDL) : Int := if gameE m ≠ 0 then gameE m else if 200 < l.length then 2 else if l.any (outside m) = true then 4 else 0
/-- How often a row, a column was played. -/
def cnt (f : Int × Int → Int) (l : zDL) (i : Nat) : Nat := (l.filter (fun x => decide (f x = (i : Int)))).length
def cntQ (f : Int × Int → Int) (l : zDL) (n : Nat) : List Rat := (List.range n).map (fun i => ((cnt f l i : Nat) : Rat))
def rowsS (m : List (List Rat)) (l : zDL) (w : Nat) : List Rat := m.map (fun r => dotQ r (cntQ Prod.snd l w))
def colsS (m : List (List Rat)) (l : zDL) (w : Nat) : List Rat := (colsQ m w).map (fun c => dotQ c (cntQ Prod.fst l m.length))
def elQ (m : List (List Rat)) (x : Int × Int) : Rat := (m.getD x.1.toNat []).getD x.2.toNat 0
def gotQ (m : List (List Rat)) (l : zDL) : Rat := zAH 0 (l.map (elQ m))
def regA (m : List (List Rat)) (l : zDL) (w : Nat) : List Rat := (rowsS m l w).map (fun q => q - gotQ m l)
def regB (m : List (List Rat)) (l : zDL) (w : Nat) : List Rat := (colsS m l w).map (fun q => gotQ m l - q)
def bothR (a b : List Rat) : (List zBJ × List zBJ) × Int := if (zCA a).2 ≠ 0 then (([], []), 2) else if (zCA b).2 ≠ 0 then (([], []), 2) else ((a.map zAJ, b.map zAJ), 0)
/-- regret.Regrets -/
def regretsR (m : List (List zBJ)) (l : zDL) : (List zBJ × List zBJ) × Int := if histE m l ≠ 0 then (([], []), histE m l) else bothR (regA (inM m) l (zIt m)) (regB (inM m) l (zIt m))
/-- The first greatest number, or the first least one. -/
def bestG (sg : Int) (x : List Rat) : Nat → Nat
 | 0 => 0
 | k + 1 => if 0 < cmpQ (x.getD k 0) (x.getD (bestG sg x k) 0) * sg then k else bestG sg x k
def lowQ (m : List (List Rat)) (l : zDL) (w : Nat) : Rat := (colsS m l w).getD (bestG (-1) (colsS m l w) w) 0
def highQ (m : List (List Rat)) (l : zDL) (w : Nat) : Rat := (rowsS m l w).getD (bestG 1 (rowsS m l w) m.length) 0
/-- regret.Bounds -/
def boundsR (m : List (List zBJ)) (l : zDL) : (zBJ × zBJ) × Int :=
 if histE m l ≠ 0 then (([], []), histE m l) else if l = [] then (([], []), 8)
 else if zBK (lowQ (inM m) l (zIt m) / (l.length : Nat)) && zBK (highQ (inM m) l (zIt m) / (l.length : Nat)) then ((zAJ (lowQ (inM m) l (zIt m) / (l.length : Nat)), zAJ (highQ (inM m) l (zIt m) / (l.length : Nat))), 0) else (([], []), 2)
/-- The law. -/
structure Zero (m : List (List zBJ)) (l : zDL) (a b : List zBJ) (lo hi : zBJ) : Prop where
 reg : regretsR m l = ((a, b), 0)
 bnd : boundsR m l = ((lo, hi), 0)
 ga : ∀ s ∈ a, zDa s = 0
 gb : ∀ s ∈ b, zDa s = 0
 la : a.length = m.length
 lb : b.length = zIt m
 best : ∃ i k s q, zKK a = (((i : Nat) : Int), 0) ∧ zKK b = (((k : Nat) : Int), 0) ∧ i < a.length ∧ k < b.length ∧ twoR (fun x y => x + y) (a.getD i []) (b.getD k []) = (s, 0) ∧ divR s (zAJ ((l.length : Nat) : Rat)) = (q, 0) ∧ twoR (fun x y => x - y) hi lo = (q, 0)
theorem zFn (q : Rat) : ∀ (l : List Rat) (acc : Rat), zAH acc (l ++ [q]) = zAH acc l + q
 | [], acc => rfl
 | a :: r, acc => by rw [List.cons_append, zAH, zAH, zFn q r]
theorem zHx {k : Nat} {l : List Rat} (h : ∀ q ∈ l, D k q) : ∀ {acc : Rat} {j : Nat}, D j acc → D (j + l.length * (k + 1)) (zAH acc l) := by
 induction l with
 | nil => intro acc j ha; rw [List.length_nil, Nat.zero_mul]; exact ha
 | cons a r ih =>
   intro acc j ha
   rw [zAH, List.length_cons, Nat.add_mul]
   exact (ih (fun q hq => h q (by simp [hq])) (ha.add (h a (by simp)))).mono (by omega)
theorem zHF : ∀ (m : Nat) (l : List Rat), m ≤ l.length → zBA (fun c => l.getD c 0) m = zAH 0 (l.take m)
 | 0, l, _ => rfl
 | m + 1, l, h => by
   rw [zBA, zHF m l (by omega), List.take_succ_eq_append_getElem (by omega), zFn, z8 0 (by omega)]
def zDR (o : Int → List Rat) (s : RSeq) (P : List Rat) : Rat := if s.before < 0 then 1 else P.getD s.before.toNat 0 * (o s.info).getD s.choice.toNat 0
def zEh (l : List RSeq) (o : Int → List Rat) : Nat → List Rat
 | 0 => []
 | k + 1 => zEh l o k ++ [zDR o (l.getD k seq0) (zEh l o k)]
theorem zIu (l : List RSeq) (o : Int → List Rat) : ∀ k, (zEh l o k).length = k
 | 0 => rfl
 | k + 1 => by rw [zEh, List.length_append, zIu l o k]; rfl
theorem zDG (l : List RSeq) (o : Int → List Rat) {j : Nat} : ∀ {k : Nat}, j < k → (zEh l o k).getD j 0 = zDR o (l.getD j seq0) (zEh l o j)
 | 0, h => absurd h (Nat.not_lt_zero _)
 | k + 1, h => by
   rw [zEh]
   by_cases e : j = k
   · subst e
     have : (zEh l o j ++ [zDR o (l.getD j seq0) (zEh l o j)]).getD j 0 = zDR o (l.getD j seq0) (zEh l o j) := by
       have h2 := zPT (l := zEh l o j) (x := zDR o (l.getD j seq0) (zEh l o j)) (d := 0)
       rwa [zIu] at h2
     exact this
   · rw [zG6 0 (by rw [zIu]; omega)]
     exact zDG l o (by omega)
theorem zF8 (l : List RSeq) (o : Int → List Rat) {j k n : Nat} (h1 : j < k) (h2 : j < n) : (zEh l o k).getD j 0 = (zEh l o n).getD j 0 := by
 rw [zDG l o h1, zDG l o h2]
theorem zMP {m : List (Int × Nat)} (h : (m.map Prod.fst).Nodup) {x y : Int × Nat} (hx : x ∈ m) (hy : y ∈ m) (e : x.1 = y.1) : x = y := by
 obtain ⟨i, hi, rfl⟩ := List.getElem_of_mem hx
 obtain ⟨j, hj, rfl⟩ := List.getElem_of_mem hy
 have hp := List.pairwise_iff_getElem.1 h
 rcases Nat.lt_trichotomy i j with q | q | q
 · exact absurd (by rw [List.getElem_map, List.getElem_map]; exact e) (hp i j (by simpa using hi) (by simpa using hj) q)
 · subst q; rfl
 · exact absurd (by rw [List.getElem_map, List.getElem_map]; exact e.symm) (hp j i (by simpa using hj) (by simpa using hi) q)
theorem zH5 {t : zQ} (hv : Valid t) (p : Int) : (zY t p).length ≤ 61 := by
 have h := (zAw hv p).1
 rw [h]
 have h1 : (zJ t p).length ≤ 10 := by
   unfold zJ
   refine Nat.le_trans (List.length_filter_le _ _) (by simp)
 have h2 : ∀ x ∈ zJ t p, zR t p x ≤ 6 := by
   intro x hx
   obtain ⟨j, hj, hs⟩ := (zBg hv).1 hx
   rw [zC4 hv hj hs]
   exact hv.few hj
 have key : ∀ l : List Int, (∀ x ∈ l, zR t p x ≤ 6) → (l.map (zR t p)).sum ≤ 6 * l.length := by
   intro l
   induction l with
   | nil => intro _; exact Nat.le_refl _
   | cons a r ih =>
     intro hl
     have h3 := hl a (by simp)
     have h4 := ih (fun x hx => hl x (by simp [hx]))
     simp only [List.map_cons, List.sum_cons, List.length_cons]
     omega
 have := key _ h2
 omega
/-- The probabilities that belong to a strategy. -/
structure Strat (t : zQ) (p : Int) (o : Int → List Rat) (k : Nat) : Prop where
 len : ∀ x ∈ zJ t p, (o x).length = zR t p x
 sum : ∀ x ∈ zJ t p, zAH 0 (o x) = 1
 nn : ∀ x ∈ zJ t p, ∀ q ∈ o x, 0 ≤ q
 dig : ∀ x ∈ zJ t p, ∀ q ∈ o x, D k q
def zAx (t : zQ) (p : Int) (o : Int → List Rat) : List Rat := zEh (zY t p) o (zY t p).length
/-- What stands at a sequence that is not the first one. -/
theorem zHk {t : zQ} (hv : Valid t) {p : Int} {k : Nat} (h1 : 1 ≤ k) (hk : k < (zY t p).length) : ∃ (x : Int × Nat) (b : Nat), x ∈ (zAN t p t.length).first ∧ x.1 ∈ zJ t p ∧ x.2 ≤ k ∧ k < x.2 + zR t p x.1 ∧ b < x.2 ∧ 1 ≤ x.2 ∧ x.2 + zR t p x.1 ≤ (zY t p).length ∧
   ∀ c, c < zR t p x.1 → (zY t p).getD (x.2 + c) seq0 = ⟨x.1, (c : Int), (b : Int)⟩ := by
 have h := RI.all_n hv p t.length (Nat.le_refl _)
 obtain ⟨x, x1, x2, x3⟩ := h.all k h1 hk
 obtain ⟨y1, y2, b, b1, b2, b3⟩ := h.fst x x1
 obtain ⟨n, rfl⟩ := Int.eq_ofNat_of_zero_le b1
 exact ⟨x, n, x1, (zBg hv).2 ((h.keys x.1).1 (List.mem_map.2 ⟨x, x1, Y⟩)), x2, x3, by omega, y1, y2, b3⟩
abbrev Way := List (Int × Int)
def zHK (v : Nat → Way) : List Int → Nat → List Way → List Way
 | [], _, a => a
 | c :: r, k, a => zHK v r (k + 1) (a.set c.toNat (v k))
theorem zJH (v : Nat → Way) : ∀ (l : List Int) (k : Nat) (a : List Way), (zHK v l k a).length = a.length
 | [], _, a => rfl
 | c :: r, k, a => by rw [zHK, zJH v r]; simp
def zIn (p : Int) (n : TNode) (w : Way) (k : Nat) : Way := if own p n = true then w ++ [(n.info, (k : Int))] else w
def zBZ (t : zQ) (p : Int) : Nat → List Way
 | 0 => List.replicate t.length []
 | i + 1 => zHK (zIn p (t.getD i node0) ((zBZ t p i).getD i [])) (t.getD i node0).next 0 (zBZ t p i)
theorem zFh (t : zQ) (p : Int) : ∀ i, (zBZ t p i).length = t.length
 | 0 => List.length_replicate
 | i + 1 => by rw [zBZ, zJH, zFh t p i]
def zA6 (t : zQ) (p : Int) : Nat → List (Int × Nat)
 | 0 => []
 | i + 1 => if own p (t.getD i node0) = true ∧ zBb (zA6 t p i) (t.getD i node0).info = none then zA6 t p i ++ [((t.getD i node0).info, i)] else zA6 t p i
def zFB (t : zQ) (p : Int) (W : List Way) : Nat → Bool
 | 0 => true
 | i + 1 => zFB t p W i && (if own p (t.getD i node0) = true then (match zBb (zA6 t p i) (t.getD i node0).info with | none => true | some k => decide (W.getD i [] = W.getD k [])) else true)
def zBd (t : zQ) (p : Int) : Bool := zFB t p (zBZ t p t.length) t.length
theorem zE3 {t : zQ} {p : Int} : ∀ {i : Nat} {x : Int × Nat}, x ∈ zA6 t p i → x.2 < i ∧ own p (t.getD x.2 node0) = true ∧ (t.getD x.2 node0).info = x.1
 | 0, x, h => by simp [zA6] at h
 | i + 1, x, h => by
   rw [zA6] at h
   split at h
   · rename_i hc
     rcases List.mem_append.1 h with q | q
     · obtain ⟨h1, h2⟩ := zE3 q
       exact ⟨by omega, h2⟩
     · have : x = ((t.getD i node0).info, i) := by simpa using q
       subst this
       exact ⟨Nat.lt_succ_self _, hc.1, Y⟩
   · obtain ⟨h1, h2⟩ := zE3 h
     exact ⟨by omega, h2⟩
/-- RecallAlone: with at most one node in each set. -/
theorem alone {t : zQ} {p : Int} (h : ∀ i j, i < j → j < t.length → own p (t.getD i node0) = true → own p (t.getD j node0) = true → (t.getD i node0).info ≠ (t.getD j node0).info) : zBd t p = true := by
 unfold zBd
 have key : ∀ (W : List Way) (i : Nat), i ≤ t.length → zFB t p W i = true := by
   intro W i
   induction i with
   | zero => intro _; rfl
   | succ i ih =>
     intro hi
     rw [zFB, ih (by omega), Bool.true_and]
     split
     · rename_i ho
       cases e : zBb (zA6 t p i) (t.getD i node0).info with
       | none => rfl
       | some k =>
         obtain ⟨h1, h2, h3⟩ := zE3 (zCP e)
         exact absurd h3 (h k i h1 (by omega) h2 ho)
     · rfl
 exact key _ _ (Nat.le_refl _)
/-- The probabilities of the children of a node: none where a node has no own ones. -/
abbrev zAI := Nat → Option (List Rat)
def setQ (v : Nat → Rat) : List Int → Nat → List Rat → List Rat
 | [], _, a => a
 | c :: r, k, a => setQ v r (k + 1) (a.set c.toNat (v k))
theorem zNC (v : Nat → Rat) : ∀ (l : List Int) (k : Nat) (a : List Rat), (setQ v l k a).length = a.length
 | [], _, a => rfl
 | c :: r, k, a => by rw [setQ, zNC v r]; simp
def zMd (o : Option (List Rat)) (q : Rat) (k : Nat) : Rat := match o with | none => q | some l => q * l.getD k 0
def zCF (t : zQ) (o : zAI) : Nat → List Rat
 | 0 => (List.replicate t.length 0).set 0 1
 | i + 1 => setQ (zMd (o i) ((zCF t o i).getD i 0)) (t.getD i node0).next 0 (zCF t o i)
def zb (t : zQ) (o : zAI) : List Rat := zCF t o t.length
theorem zCp (t : zQ) (o : zAI) : ∀ i, (zCF t o i).length = t.length
 | 0 => by simp [zCF]
 | i + 1 => by rw [zCF, zNC, zCp t o i]
theorem zF2 (v : Nat → Rat) {j : Nat} : ∀ (l : List Int) (k : Nat) (a : List Rat), (∀ c ∈ l, c.toNat ≠ j) → (setQ v l k a).getD j 0 = a.getD j 0
 | [], _, a, _ => rfl
 | c :: r, k, a, h => by
   rw [setQ, zF2 v r (k + 1) _ (fun c hc => h c (by simp [hc])), Go.Ax.Dt.getD_set, if_neg]
   exact fun q => h c (by simp) q.1.symm
theorem zQP (v : Nat → Rat) : ∀ (l : List Int) (k : Nat) (a : List Rat) (m : Nat), m < l.length → (l.map Int.toNat).Nodup → (∀ c ∈ l, c.toNat < a.length) → (setQ v l k a).getD (l.getD m 0).toNat 0 = v (k + m)
 | [], _, a, m, h, _, _ => absurd h (Nat.not_lt_zero _)
 | c :: r, k, a, m, h, hn, hl => by
   rw [List.map_cons, List.nodup_cons] at hn
   rw [setQ]
   cases m with
   | zero =>
     have : (c :: r).getD 0 0 = c := rfl
     rw [this, zF2, Go.Ax.Dt.getD_set, if_pos ⟨rfl, hl c (by simp)⟩, Nat.add_zero]
     intro x hx e
     exact hn.1 (List.mem_map.2 ⟨x, hx, e⟩)
   | succ m =>
     have : (c :: r).getD (m + 1) 0 = r.getD m 0 := rfl
     rw [this, zQP v r (k + 1) _ m (by simpa using h) hn.2 (fun x hx => by rw [List.length_set]; exact hl x (by simp [hx]))]
     congr 1; omega
/-- Who names whom. -/
def kid (t : zQ) (i : Nat) (c : Nat) : Prop := (c : Int) ∈ (t.getD i node0).next
theorem zJq (l : List Int) (k : Int) : (l.filter (fun x => decide (x = k))).length = l.count k := by
 rw [List.count_eq_length_filter]
 congr 1
theorem zLd (t : zQ) (k : Nat) : named t k = (t.map (fun n => n.next.count (k : Int))).sum := by
 unfold named
 rw [zJq]
 induction t with
 | nil => rfl
 | cons n r ih => rw [List.flatMap_cons, List.count_append, List.map_cons, List.sum_cons, ih]
theorem sum_one {l : List Nat} (h : l.sum = 1) {i j : Nat} (hi : i < l.length) (hj : j < l.length) (hij : i ≠ j) (h1 : 1 ≤ l[i]) (h2 : 1 ≤ l[j]) : False := by
 induction l generalizing i j with
 | nil => simp at hi
 | cons a r ih =>
   have mem_le : ∀ (r : List Nat) (k : Nat) (hk : k < r.length), r[k] ≤ r.sum := by
     intro r
     induction r with
     | nil => intro k hk; simp at hk
     | cons b q ihq =>
       intro k hk
       cases k with
       | zero => simp
       | succ k =>
         have := ihq k (by simpa using hk)
         simp only [List.getElem_cons_succ, List.sum_cons]
         omega
   rw [List.sum_cons] at h
   cases i with
   | zero =>
     cases j with
     | zero => exact hij rfl
     | succ j =>
       have := mem_le r j (by simpa using hj)
       simp only [List.getElem_cons_zero, List.getElem_cons_succ] at h1 h2
       omega
   | succ i =>
     cases j with
     | zero =>
       have := mem_le r i (by simpa using hi)
       simp only [List.getElem_cons_zero, List.getElem_cons_succ] at h1 h2
       omega
     | succ j =>
       simp only [List.getElem_cons_succ] at h1 h2
       have := mem_le r i (by simpa using hi)
       refine ih (by omega) (by simpa using hi) (by simpa using hj) (by omega) h1 h2
/-- Each node but the first has one parent, and is named once there. -/
theorem Valid.parent {t : zQ} (h : Valid t) {c i j : Nat} (hc : c < t.length) (h0 : c ≠ 0) (hi : i < t.length) (hj : j < t.length) (k1 : kid t i c) (k2 : kid t j c) : i = j := by
 have hn := h.once c hc h0
 rw [zLd] at hn
 apply Classical.byContradiction
 intro hij
 refine sum_one hn (i := i) (j := j) (by simpa using hi) (by simpa using hj) hij ?_ ?_
 · rw [List.getElem_map, ← z8 node0 hi]
   exact List.count_pos_iff.2 k1
 · rw [List.getElem_map, ← z8 node0 hj]
   exact List.count_pos_iff.2 k2
theorem Valid.has {t : zQ} (h : Valid t) {c : Nat} (hc : c < t.length) (h0 : c ≠ 0) : ∃ i, i < t.length ∧ kid t i c := by
 have hn := h.once c hc h0
 unfold named at hn
 have hne : (t.flatMap TNode.next).filter (fun x => decide (x = (c : Int))) ≠ [] := by intro e; rw [e] at hn; cases hn
 obtain ⟨x, hx⟩ := List.exists_mem_of_ne_nil _ hne
 obtain ⟨h1, h2⟩ := List.mem_filter.1 hx
 obtain ⟨n, hn1, hn2⟩ := List.mem_flatMap.1 h1
 obtain ⟨i, hi, rfl⟩ := List.getElem_of_mem hn1
 refine ⟨i, hi, ?_⟩
 unfold kid
 rw [z8 node0 hi]
 have : x = (c : Int) := by simpa using h2
 rw [← this]; exact hn2
theorem Valid.kid_lt {t : zQ} (h : Valid t) {c i : Nat} (hi : i < t.length) (k : kid t i c) : i < c ∧ c < t.length := by
 have := h.behind hi _ k
 omega
theorem Valid.kids_nodup {t : zQ} (h : Valid t) {i : Nat} (hi : i < t.length) : ((t.getD i node0).next.map Int.toNat).Nodup := by
 rw [List.nodup_iff_pairwise_ne, List.pairwise_map, List.pairwise_iff_getElem]
 intro a b ha hb hab e
 have ma := List.getElem_mem ha
 have mb := List.getElem_mem hb
 have b1 := h.behind hi _ ma
 have b2 := h.behind hi _ mb
 have e2 : (t.getD i node0).next[a] = (t.getD i node0).next[b] := by omega
 obtain ⟨c, hc⟩ := Int.eq_ofNat_of_zero_le (show 0 ≤ (t.getD i node0).next[a] by omega)
 have hn := h.once c (by omega) (by omega)
 rw [zLd] at hn
 have h2 : 2 ≤ (t.getD i node0).next.count (c : Int) := by
   have hs : [(c : Int), (c : Int)].Sublist (t.getD i node0).next := by
     have h3 : (t.getD i node0).next = (t.getD i node0).next.take b ++ (t.getD i node0).next.drop b := (List.take_append_drop b _).symm
     rw [h3]
     have h4 : (c : Int) ∈ (t.getD i node0).next.take b := by
       rw [List.mem_take_iff_getElem]
       exact ⟨a, by omega, hc⟩
     have h5 : (c : Int) ∈ (t.getD i node0).next.drop b := by
       rw [List.mem_drop_iff_getElem]
       exact ⟨0, by simpa using hb, by simp only [Nat.add_zero]; rw [← e2]; exact hc⟩
     have := List.Sublist.append (List.singleton_sublist.2 h4) (List.singleton_sublist.2 h5)
     simpa using this
   have := hs.count_le (c : Int)
   simpa using this
 have h6 : (t.map (fun n => n.next.count (c : Int)))[i]'(by simpa using hi) ≤ (t.map (fun n => n.next.count (c : Int))).sum := by
   have mem_le : ∀ (r : List Nat) (k : Nat) (hk : k < r.length), r[k] ≤ r.sum := by
     intro r
     induction r with
     | nil => intro k hk; simp at hk
     | cons b q ihq =>
       intro k hk
       cases k with
       | zero => simp
       | succ k =>
         have := ihq k (by simpa using hk)
         simp only [List.getElem_cons_succ, List.sum_cons]
         omega
   exact mem_le _ _ _
 rw [List.getElem_map, ← z8 node0 hi] at h6
 omega
/-- What does not change any more. -/
theorem zHn {t : zQ} (h : Valid t) (o : zAI) {j : Nat} (hj : j < t.length) : ∀ d i, j ≤ i → i + d ≤ t.length → (zCF t o (i + d)).getD j 0 = (zCF t o i).getD j 0
 | 0, i, _, _ => rfl
 | d + 1, i, h1, h2 => by
   rw [← Nat.add_assoc, zCF, zF2, zHn h o hj d i h1 (by omega)]
   intro c hc e
   have := h.behind (show i + d < t.length by omega) c hc
   omega
theorem zDo {t : zQ} (h : Valid t) (o : zAI) : (zb t o).getD 0 0 = 1 := by
 have hn := h.ne
 have := zHn h o (j := 0) (by omega) t.length 0 (Nat.le_refl _) (by omega)
 rw [Nat.zero_add] at this
 unfold zb
 rw [this, zCF, Go.Ax.Dt.getD_set, if_pos ⟨rfl, by simp; omega⟩]
/-- Each child's probability is that of its parent, times that of the choice. -/
theorem zEU {t : zQ} (h : Valid t) (o : zAI) {i m : Nat} (hi : i < t.length) (hm : m < (t.getD i node0).next.length) : (zb t o).getD ((t.getD i node0).next.getD m 0).toNat 0 = zMd (o i) ((zb t o).getD i 0) m := by
 have hb := h.behind hi _ (zAQ 0 hm)
 have hc : ((t.getD i node0).next.getD m 0).toNat < t.length := by omega
 have h1 : (zCF t o (i + 1)).getD ((t.getD i node0).next.getD m 0).toNat 0 = zMd (o i) ((zCF t o i).getD i 0) m := by
   rw [zCF, zQP _ _ _ _ m hm (h.kids_nodup hi) (fun c hc => by rw [zCp]; have := h.behind hi c hc; omega), Nat.zero_add]
 have h2 := zHn h o (j := i) hi (t.length - i) i (Nat.le_refl _) (by omega)
 rw [show i + (t.length - i) = t.length by omega] at h2
 -- the child is not touched again
 have key : ∀ d, i + 1 + d ≤ t.length → (zCF t o (i + 1 + d)).getD ((t.getD i node0).next.getD m 0).toNat 0 = (zCF t o (i + 1)).getD ((t.getD i node0).next.getD m 0).toNat 0 := by
   intro d
   induction d with
   | zero => intro _; rfl
   | succ d ih =>
     intro hd
     rw [← Nat.add_assoc, zCF, zF2, ih (by omega)]
     intro c hc2 e
     have hc3 := h.behind (show i + 1 + d < t.length by omega) c hc2
     have k1 : kid t i ((t.getD i node0).next.getD m 0).toNat := by
       unfold kid
       rw [show ((((t.getD i node0).next.getD m 0).toNat : Nat) : Int) = (t.getD i node0).next.getD m 0 by omega]
       exact zAQ 0 hm
     have k2 : kid t (i + 1 + d) ((t.getD i node0).next.getD m 0).toNat := by
       unfold kid
       rw [← e, show ((c.toNat : Nat) : Int) = c by omega]
       exact hc2
     have := h.parent hc (by omega) hi (by omega) k1 k2
     omega
 have h3 := key (t.length - (i + 1)) (by omega)
 rw [show i + 1 + (t.length - (i + 1)) = t.length by omega] at h3
 unfold zb
 rw [h3, h1, h2]
theorem zER {f : Nat → Rat} {a : Nat} : ∀ {n : Nat}, a < n → zBA (fun j => if j = a then f j else 0) n = f a
 | 0, h => absurd h (Nat.not_lt_zero _)
 | n + 1, h => by
   rw [zBA]
   by_cases e : n = a
   · subst e
     have : zBA (fun j => if j = n then f j else 0) n = 0 := by
       rw [zAz (g := fun _ => 0) (fun i hi => by rw [if_neg (by omega)]), zHH]
     rw [this, if_pos rfl, Rat.zero_add]
   · rw [zER (n := n) (by omega), if_neg e, Rat.add_zero]
theorem zBF : ∀ (l : List Rat) (a : Rat), zAH a l = a + zAH 0 l
 | [], a => by rw [zAH, zAH, Rat.add_zero]
 | q :: r, a => by rw [zAH, zAH, zBF r (a + q), zBF r (0 + q), Rat.zero_add, Rat.add_assoc]
/-- A sum over some of the indices. -/
theorem zKL {f : Nat → Rat} {n : Nat} : ∀ (ks : List Nat), ks.Nodup → (∀ k ∈ ks, k < n) → zBA (fun j => if j ∈ ks then f j else 0) n = zAH 0 (ks.map f)
 | [], _, _ => by
   rw [zAz (g := fun _ => 0) (fun i hi => by rw [if_neg (by simp)]), zHH]; rfl
 | a :: r, hn, hl => by
   rw [List.nodup_cons] at hn
   rw [List.map_cons, zAH, zBF, Rat.zero_add, ← zKL r hn.2 (fun k hk => hl k (by simp [hk])), ← zER (f := f) (hl a (by simp)), ← zGl]
   refine zAz (fun j hj => ?_)
   by_cases h1 : j = a
   · subst h1
     rw [if_pos (by simp), if_pos rfl, if_neg hn.1, Rat.add_zero]
   · by_cases h2 : j ∈ r
     · rw [if_pos (by simp [h2]), if_neg h1, if_pos h2, Rat.zero_add]
     · rw [if_neg (by simp [h1, h2]), if_neg h1, if_neg h2, Rat.zero_add]
/-- The probabilities at each node that is no end. -/
structure OddsOK (t : zQ) (o : zAI) (d : Nat) : Prop where
 at' : ∀ i, i < t.length → (t.getD i node0).kind ≠ 0 → ∃ l, o i = some l ∧ l.length = (t.getD i node0).next.length ∧ zAH 0 l = 1 ∧ ∀ q ∈ l, 0 ≤ q ∧ D d q
def zIZ (t : zQ) (i : Nat) : List Nat := (t.getD i node0).next.map Int.toNat
theorem zJ1 {t : zQ} (h : Valid t) {i j : Nat} (hi : i < t.length) : j ∈ zIZ t i ↔ kid t i j := by
 unfold zIZ kid
 rw [List.mem_map]
 constructor
 · rintro ⟨x, hx, rfl⟩
   have := h.behind hi x hx
   rw [show ((x.toNat : Nat) : Int) = x by omega]; exact hx
 · intro hx; exact ⟨_, hx, Int.toNat_natCast j⟩
theorem zNi {t : zQ} (h : Valid t) {i : Nat} (hi : i < t.length) (hk : (t.getD i node0).kind = 0) : zIZ t i = [] := by
 rcases h.child hi with ⟨_, h2⟩ | ⟨h1, _⟩
 · unfold zIZ; rw [h2]; rfl
 · rcases h1 with h1 | h1 <;> rw [hk] at h1 <;> exact absurd h1 (by decide)
/-- The children together are as probable as their parent. -/
theorem kids_sum {t : zQ} (h : Valid t) {o : zAI} {d : Nat} (ho : OddsOK t o d) {i : Nat} (hi : i < t.length) (hk : (t.getD i node0).kind ≠ 0) : zAH 0 ((zIZ t i).map (fun j => (zb t o).getD j 0)) = (zb t o).getD i 0 := by
 obtain ⟨l, h1, h2, h3, h4⟩ := ho.at' i hi hk
 have e : (zIZ t i).map (fun j => (zb t o).getD j 0) = l.map (fun q => (zb t o).getD i 0 * q) := by
   apply List.ext_getElem (by simp [zIZ, h2])
   intro m hm1 hm2
   have hm : m < (t.getD i node0).next.length := by simpa [zIZ] using hm1
   have := zEU h o hi hm
   rw [h1] at this
   simp only [List.getElem_map]
   have e1 : (zIZ t i)[m]'(by simpa [zIZ] using hm) = ((t.getD i node0).next.getD m 0).toNat := by
     simp only [zIZ, List.getElem_map]
     rw [z8 0 hm]
   have hml : m < l.length := by rw [h2]; exact hm
   rw [e1, this]
   exact congrArg (fun x => (zb t o).getD i 0 * x) (z8 0 hml)
 have key : ∀ (q : Rat) (l : List Rat) (a : Rat), zAH (q * a) (l.map (fun x => q * x)) = q * zAH a l := by
   intro q l
   induction l with
   | nil => intro a; rfl
   | cons x r ih => intro a; rw [List.map_cons, zAH, zAH, ← Rat.mul_add, ih]
 rw [e]
 have := key ((zb t o).getD i 0) l 0
 rw [Rat.mul_zero] at this
 rw [this, h3, Rat.mul_one]
def zFH (t : zQ) (i j : Nat) : Prop := (j < i ∧ (t.getD j node0).kind = 0) ∨ (i ≤ j ∧ (j = 0 ∨ ∃ a, a < i ∧ kid t a j))
open Classical in
theorem zL0 {t : zQ} (h : Valid t) {o : zAI} {d : Nat} (ho : OddsOK t o d) : ∀ i, i ≤ t.length → zBA (fun j => if zFH t i j then (zb t o).getD j 0 else 0) t.length = 1
 | 0, _ => by
   have hn := h.ne
   rw [zAz (g := fun j => if j = 0 then (zb t o).getD j 0 else 0) (fun j hj => ?_), zER (by omega), zDo h]
   by_cases e : j = 0
   · rw [if_pos e, if_pos (.inr ⟨Nat.zero_le _, .inl e⟩)]
   · rw [if_neg e, if_neg]
     rintro (⟨q, _⟩ | ⟨_, q | ⟨a, q, _⟩⟩)
     · omega
     · exact e q
     · omega
 | i + 1, hi => by
   have ih := zL0 h ho i (by omega)
   have hi' : i < t.length := by omega
   have hfi : zFH t i i := by
     right
     refine ⟨Nat.le_refl _, ?_⟩
     by_cases e : i = 0
     · exact .inl e
     · obtain ⟨a, ha, hk⟩ := h.has hi' e
       exact .inr ⟨a, (h.kid_lt ha hk).1, hk⟩
   have hkn : ∀ j, kid t i j → j < t.length → ¬ zFH t i j := by
     intro j hk hj
     have := h.kid_lt hi' hk
     rintro (⟨q, _⟩ | ⟨_, q | ⟨a, q, hk2⟩⟩)
     · omega
     · omega
     · have := h.parent hj (by omega) hi' (by omega) hk hk2
       omega
   have split1 : zBA (fun j => if zFH t (i + 1) j then (zb t o).getD j 0 else 0) t.length
       = zBA (fun j => (if zFH t i j then (zb t o).getD j 0 else 0) + ((if j ∈ zIZ t i then (zb t o).getD j 0 else 0) + (if j = i then (if (t.getD i node0).kind = 0 then 0 else - (zb t o).getD i 0) else 0))) t.length := by
     refine zAz (fun j hj => ?_)
     have hmk := zJ1 h hi' (j := j)
     by_cases e : j = i
     · subst e
       have hnk : ¬ kid t j j := fun hk => by have := h.kid_lt hi' hk; omega
       rw [if_pos hfi, if_neg (fun q => hnk (hmk.1 q)), if_pos rfl, Rat.zero_add]
       by_cases hk : (t.getD j node0).kind = 0
       · rw [if_pos hk, if_pos (.inl ⟨Nat.lt_succ_self _, hk⟩), Rat.add_zero]
       · rw [if_neg hk, if_neg, Rat.add_neg_cancel]
         rintro (⟨_, q⟩ | ⟨q, _⟩)
         · exact hk q
         · omega
     · rw [if_neg e, Rat.add_zero]
       by_cases hk : kid t i j
       · rw [if_pos (hmk.2 hk), if_neg (hkn j hk hj), Rat.zero_add, if_pos]
         have := h.kid_lt hi' hk
         exact .inr ⟨by omega, .inr ⟨i, Nat.lt_succ_self _, hk⟩⟩
       · rw [if_neg (fun q => hk (hmk.1 q)), Rat.add_zero]
         have : zFH t (i + 1) j ↔ zFH t i j := by
           constructor
           · rintro (⟨q1, q2⟩ | ⟨q1, q2 | ⟨a, q2, q3⟩⟩)
             · exact .inl ⟨by omega, q2⟩
             · omega
             · by_cases ea : a = i
               · subst ea; exact absurd q3 hk
               · exact .inr ⟨by omega, .inr ⟨a, by omega, q3⟩⟩
           · rintro (⟨q1, q2⟩ | ⟨q1, q2 | ⟨a, q2, q3⟩⟩)
             · exact .inl ⟨by omega, q2⟩
             · subst q2
               have : i = 0 := by omega
               exact absurd this.symm e
             · exact .inr ⟨by omega, .inr ⟨a, by omega, q3⟩⟩
         by_cases hf : zFH t i j
         · rw [if_pos hf, if_pos (this.2 hf)]
         · rw [if_neg hf, if_neg (fun q => hf (this.1 q))]
   rw [split1, zGl, zGl, ih, zKL (zIZ t i) (h.kids_nodup hi') (fun k hk => (h.kid_lt hi' ((zJ1 h hi').1 hk)).2)]
   have e2 : zBA (fun j => if j = i then (if (t.getD i node0).kind = 0 then 0 else - (zb t o).getD i 0) else 0) t.length = (if (t.getD i node0).kind = 0 then 0 else - (zb t o).getD i 0) :=
     zER (f := fun _ => if (t.getD i node0).kind = 0 then 0 else - (zb t o).getD i 0) hi'
   rw [e2]
   by_cases hk : (t.getD i node0).kind = 0
   · rw [if_pos hk, zNi h hi' hk]
     show (1 : Rat) + (0 + 0) = 1
     rw [Rat.add_zero, Rat.add_zero]
   · rw [if_neg hk, kids_sum h ho hi' hk, Rat.add_neg_cancel, Rat.add_zero]
def zw (t : zQ) : List Nat := (List.range t.length).filter (fun i => decide ((t.getD i node0).kind = 0))
theorem ends_sum {t : zQ} (h : Valid t) {o : zAI} {d : Nat} (ho : OddsOK t o d) : zAH 0 ((zw t).map (fun j => (zb t o).getD j 0)) = 1 := by
 classical
 have h1 := zL0 h ho t.length (Nat.le_refl _)
 rw [← zKL (n := t.length) (zw t) (List.Nodup.sublist List.filter_sublist List.nodup_range) (fun k hk => by
   have := (List.mem_filter.1 hk).1
   simpa using this), ← h1]
 refine zAz (fun j hj => ?_)
 have : j ∈ zw t ↔ zFH t t.length j := by
   unfold zw zFH
   rw [List.mem_filter, List.mem_range, decide_eq_true_eq]
   constructor
   · exact .inl
   · rintro (q | ⟨q, _⟩)
     · exact q
     · omega
 by_cases hf : j ∈ zw t
 · rw [if_pos hf, if_pos (this.1 hf)]
 · rw [if_neg hf, if_neg (fun q => hf (this.2 q))]
theorem zKW : ∀ (N : Nat) (l : List Nat), l.Nodup → (∀ x ∈ l, x < N) → l.length ≤ N
 | 0, [], _, _ => Nat.le_refl _
 | 0, a :: r, _, h => absurd (h a (by simp)) (Nat.not_lt_zero _)
 | N + 1, l, hn, h => by
   by_cases hN : N ∈ l
   · have h1 := zKW N (l.erase N) (hn.erase N) (fun x hx => by
       have h2 := (hn.mem_erase_iff).1 hx
       have := h x h2.2
       omega)
     rw [List.length_erase_of_mem hN] at h1
     omega
   · have h1 := zKW N l hn (fun x hx => by
       have := h x hx
       have : x ≠ N := fun e => hN (e ▸ hx)
       omega)
     omega
theorem zKl {t : zQ} (h : Valid t) : (t.flatMap TNode.next).length ≤ t.length := by
 have hb : ∀ x ∈ t.flatMap TNode.next, 0 < x ∧ x < t.length := by
   intro x hx
   obtain ⟨n, hn1, hn2⟩ := List.mem_flatMap.1 hx
   obtain ⟨i, hi, rfl⟩ := List.getElem_of_mem hn1
   have := h.behind hi x (by rw [z8 node0 hi]; exact hn2)
   omega
 have hnd : (t.flatMap TNode.next).Nodup := by
   rw [List.nodup_iff_count]
   intro a
   by_cases ha : a ∈ t.flatMap TNode.next
   · have hb' := hb a ha
     have h1 := h.once a.toNat (by omega) (by omega)
     unfold named at h1
     rw [zJq, show ((a.toNat : Nat) : Int) = a by omega] at h1
     omega
   · rw [List.count_eq_zero_of_not_mem ha]; omega
 have hl := zKW t.length ((t.flatMap TNode.next).map Int.toNat) (by
   rw [List.nodup_iff_pairwise_ne, List.pairwise_map]
   refine List.Pairwise.imp_of_mem ?_ (List.nodup_iff_pairwise_ne.1 hnd)
   intro a b ha hb2 hab e
   have := hb a ha
   have := hb b hb2
   omega) (fun x hx => by
   obtain ⟨y, hy, rfl⟩ := List.mem_map.1 hx
   have := hb y hy
   omega)
 simpa using hl
/-- A number whose multiple by B is whole. -/
def Dv (B : Nat) (q : Rat) : Prop := ∃ z : Int, q * (B : Rat) = (z : Rat)
theorem Dv.den {B : Nat} {q : Rat} (h : Dv B q) (hB : B ≠ 0) : q.den ∣ B := by
 obtain ⟨z, hz⟩ := h
 have hB' : ((B : Int) : Rat) ≠ 0 := intc_ne (by omega)
 have e : q = Rat.divInt z B := by
   rw [Rat.divInt_eq_div, ← hz, ← Rat.intCast_natCast]
   have h1 := Rat.div_mul_cancel (a := q * ((B : Int) : Rat)) hB'
   refine zOu hB' ?_
   rw [Rat.mul_comm _ (q * ((B : Int) : Rat) / ((B : Int) : Rat)), h1, Rat.mul_comm]
 rw [e, (zH0 z B hB).2.1]
 exact Nat.div_dvd_of_dvd (Nat.gcd_dvd_right _ _)
theorem Dv.of_den {q : Rat} : Dv q.den q := ⟨q.num, num_den q⟩
theorem Dv.mono {A B : Nat} {q : Rat} (h : Dv A q) (hd : A ∣ B) : Dv B q := by
 obtain ⟨z, hz⟩ := h
 obtain ⟨k, rfl⟩ := hd
 refine ⟨z * k, ?_⟩
 rw [Rat.natCast_mul, ← Rat.mul_assoc, hz, Rat.intCast_mul, Rat.intCast_natCast]
theorem Dv.add {B : Nat} {a b : Rat} (ha : Dv B a) (hb : Dv B b) : Dv B (a + b) := by
 obtain ⟨x, hx⟩ := ha
 obtain ⟨y, hy⟩ := hb
 exact ⟨x + y, by rw [Rat.add_mul, hx, hy, Rat.intCast_add]⟩
theorem Dv.mul {A B : Nat} {a b : Rat} (ha : Dv A a) (hb : Dv B b) : Dv (A * B) (a * b) := by
 obtain ⟨x, hx⟩ := ha
 obtain ⟨y, hy⟩ := hb
 refine ⟨x * y, ?_⟩
 rw [Rat.intCast_mul, ← hx, ← hy, Rat.natCast_mul]
 grind
theorem Dv.zero (B : Nat) : Dv B 0 := ⟨0, by rw [Rat.zero_mul]; rfl⟩
theorem Dv.one (B : Nat) : Dv B 1 := ⟨B, by rw [Rat.one_mul, Rat.intCast_natCast]⟩
/-- A number from 0 to 1 is not longer than its denominator. -/
theorem zMQ {B K : Nat} {q : Rat} (h : Dv B q) (hB : B ≠ 0) (h0 : 0 ≤ q) (h1 : q ≤ 1) (hK : B < 10 ^ K) : D K q := by
 have hd := Nat.le_of_dvd (by omega) (h.den hB)
 refine ⟨?_, by omega⟩
 have hn : q.num ≤ q.den := by
   have h2 := Rat.not_lt.2 h1
   rw [Rat.lt_iff] at h2
   have h3 : ¬ ((1 : Int) * (q.den : Int) < q.num * 1) := h2
   omega
 have := Rat.num_nonneg.2 h0
 omega
def zFc : List Nat → Nat
 | [] => 1
 | a :: r => a * zFc r
theorem zIx {l : List Nat} (h : ∀ x ∈ l, 0 < x) : 0 < zFc l := by
 induction l with
 | nil => exact Nat.one_pos
 | cons a r ih => rw [zFc]; exact Nat.mul_pos (h a (by simp)) (ih (fun x hx => h x (by simp [hx])))
theorem zG9 {l : List Nat} {x : Nat} (h : x ∈ l) : x ∣ zFc l := by
 induction l with
 | nil => simp at h
 | cons a r ih =>
   rw [zFc]
   rcases List.mem_cons.1 h with rfl | q
   · exact Nat.dvd_mul_right _ _
   · exact Nat.dvd_trans (ih q) (Nat.dvd_mul_left _ _)
theorem zHz {l : List Nat} {d : Nat} (h : ∀ x ∈ l, x ≤ 10 ^ d) : zFc l ≤ 10 ^ (d * l.length) := by
 induction l with
 | nil => rw [zFc, List.length_nil, Nat.mul_zero, Nat.pow_zero]; exact Nat.le_refl _
 | cons a r ih =>
   rw [zFc, List.length_cons, Nat.mul_add, Nat.mul_one, Nat.add_comm, Nat.pow_add]
   exact Nat.mul_le_mul (h a (by simp)) (ih (fun x hx => h x (by simp [hx])))
def pden (o : Option (List Rat)) : Nat := match o with | none => 1 | some l => zFc (l.map Rat.den)
theorem pden_pos (o : Option (List Rat)) : 0 < pden o := by
 cases o with
 | none => exact Nat.one_pos
 | some l => exact zIx (fun x hx => by obtain ⟨q, _, rfl⟩ := List.mem_map.1 hx; exact q.den_pos)
def Bd (o : zAI) : Nat → Nat
 | 0 => 1
 | i + 1 => Bd o i * pden (o i)
theorem zMH (o : zAI) : ∀ i, 0 < Bd o i
 | 0 => Nat.one_pos
 | i + 1 => Nat.mul_pos (zMH o i) (pden_pos _)
theorem zHd (o : zAI) {i : Nat} : ∀ d, Bd o i ∣ Bd o (i + d)
 | 0 => Nat.dvd_refl _
 | d + 1 => Nat.dvd_trans (zHd o d) (Nat.dvd_mul_right _ _)
/-- An end has no probabilities of its own. -/
structure OddsAll (t : zQ) (o : zAI) (d : Nat) : Prop extends OddsOK t o d where
 none : ∀ i, i < t.length → (t.getD i node0).kind = 0 → o i = none
theorem zKg {t : zQ} {i j : Nat} (h : Valid t) (hi : i < t.length) (hk : kid t i j) : ∃ m, m < (t.getD i node0).next.length ∧ ((t.getD i node0).next.getD m 0).toNat = j := by
 obtain ⟨m, hm, he⟩ := List.getElem_of_mem hk
 exact ⟨m, hm, by rw [z8 0 hm, he]; exact Int.toNat_natCast j⟩
theorem kid_kind {t : zQ} {i j : Nat} (h : Valid t) (hi : i < t.length) (hk : kid t i j) : (t.getD i node0).kind ≠ 0 := by
 intro e
 have := zNi h hi e
 have h2 := (zJ1 h hi).2 hk
 rw [this] at h2; simp at h2
theorem zHX {t : zQ} (h : Valid t) {o : zAI} {d : Nat} (ho : OddsAll t o d) : ∀ j, j < t.length → Dv (Bd o j) ((zb t o).getD j 0) ∧ 0 ≤ (zb t o).getD j 0 := by
 intro j
 induction j using Nat.strongRecOn with
 | ind j ih =>
   intro hj
   by_cases h0 : j = 0
   · subst h0
     rw [zDo h]
     exact ⟨Dv.one _, by decide +kernel⟩
   · obtain ⟨i, hi, hk⟩ := h.has hj h0
     have hlt := h.kid_lt hi hk
     obtain ⟨m, hm, he⟩ := zKg h hi hk
     obtain ⟨l, l1, l2, l3, l4⟩ := ho.at' i hi (kid_kind h hi hk)
     have hr := zEU h o hi hm
     rw [he, l1] at hr
     have hr : (zb t o).getD j 0 = (zb t o).getD i 0 * l.getD m 0 := hr
     obtain ⟨g1, g2⟩ := ih i (by omega) hi
     have hq := l4 (l.getD m 0) (zAQ 0 (by omega))
     rw [hr]
     refine ⟨?_, Rat.mul_nonneg g2 hq.1⟩
     have h5 : Dv (Bd o (i + 1)) ((zb t o).getD i 0 * l.getD m 0) := by
       refine (g1.mul (Dv.of_den (q := l.getD m 0))).mono ?_
       show _ ∣ Bd o i * pden (o i)
       rw [l1]
       exact Nat.mul_dvd_mul (Nat.dvd_refl _) (zG9 (List.mem_map.2 ⟨_, zAQ 0 (by omega), Y⟩))
     have h6 := zHd o (i := i + 1) (j - (i + 1))
     rw [show i + 1 + (j - (i + 1)) = j by omega] at h6
     exact h5.mono h6
theorem Bd_le {t : zQ} (h : Valid t) {o : zAI} {d : Nat} (ho : OddsAll t o d) : ∀ i, i ≤ t.length → Bd o i ≤ 10 ^ (d * ((t.take i).flatMap TNode.next).length)
 | 0, _ => by simp [Bd]
 | i + 1, hi => by
   have ih := Bd_le h ho i (by omega)
   have hi' : i < t.length := by omega
   have hp : pden (o i) ≤ 10 ^ (d * (t.getD i node0).next.length) := by
     by_cases hk : (t.getD i node0).kind = 0
     · rw [ho.none i hi' hk]
       exact Nat.pow_pos (by decide)
     · obtain ⟨l, l1, l2, l3, l4⟩ := ho.at' i hi' hk
       rw [l1, ← l2]
       have := zHz (l := l.map Rat.den) (d := d) (fun x hx => by
         obtain ⟨q, hq, rfl⟩ := List.mem_map.1 hx
         exact Nat.le_of_lt (l4 q hq).2.2)
       rwa [List.length_map] at this
   rw [Bd, List.take_succ_eq_append_getElem hi', List.flatMap_append, List.length_append, Nat.mul_add, Nat.pow_add]
   refine Nat.mul_le_mul ih ?_
   rw [z8 node0 hi'] at hp
   simpa using hp
/-- The ends' probabilities, one after the other, never grow too long. -/
theorem zNT {B : Nat} (hB : B ≠ 0) {K : Nat} (hK : B < 10 ^ K) (hK2 : K ≤ 2000) : ∀ (qs : List Rat) (acc : Rat), Dv B acc → 0 ≤ acc → (∀ q ∈ qs, Dv B q ∧ 0 ≤ q) → zAH acc qs ≤ 1 → (zIh acc qs).2 = 0
 | [], _, _, _, _, _ => rfl
 | q :: r, acc, h1, h2, h3, h4 => by
   rw [zAH] at h4
   have hq := h3 q (by simp)
   have g1 := h1.add hq.1
   have g2 : 0 ≤ acc + q := Rat.add_nonneg h2 hq.2
   have g3 : acc + q ≤ 1 := Rat.le_trans (zHu r (acc + q) (fun x hx => (h3 x (by simp [hx])).2)) h4
   rw [zIh, if_pos ((zMQ g1 hB g2 g3 hK).fit hK2)]
   exact zNT hB hK hK2 r _ g1 g2 (fun x hx => h3 x (by simp [hx])) h4
/-- ReplyEnds. -/
theorem zPk {t : zQ} (h : Valid t) {o : zAI} {d : Nat} (ho : OddsAll t o d) (hn : t.length ≤ 40) {j : Nat} (hj : j < t.length) : Dv (Bd o t.length) ((zb t o).getD j 0) ∧ Bd o t.length < 10 ^ (d * 40 + 1) := by
 obtain ⟨g1, g2⟩ := zHX h ho j hj
 have h6 := zHd o (i := j) (t.length - j)
 rw [show j + (t.length - j) = t.length by omega] at h6
 refine ⟨g1.mono h6, ?_⟩
 have h7 := Bd_le h ho t.length (Nat.le_refl _)
 rw [List.take_length] at h7
 have h8 := zKl h
 have h9 : d * (t.flatMap TNode.next).length ≤ d * 40 := Nat.mul_le_mul_left _ (by omega)
 have h10 : 10 ^ (d * (t.flatMap TNode.next).length) ≤ 10 ^ (d * 40) := Nat.pow_le_pow_right (by decide) h9
 have : 0 < 10 ^ (d * 40) := Nat.pow_pos (by decide)
 rw [Nat.pow_succ]
 omega
def zAy {α : Type} (v : Nat → α) : List Int → Nat → List α → List α
 | [], _, a => a
 | c :: r, k, a => zAy v r (k + 1) (a.set c.toNat (v k))
theorem zDQ {α : Type} (v : Nat → α) : ∀ (l : List Int) (k : Nat) (a : List α), (zAy v l k a).length = a.length
 | [], _, a => rfl
 | c :: r, k, a => by rw [zAy, zDQ v r]; simp
theorem zDh {α : Type} (v : Nat → α) (x : Int) : ∀ (l : List Int) (k : Nat) (a : List α), zAy v (l ++ [x]) k a = (zAy v l k a).set x.toNat (v (k + l.length))
 | [], k, a => rfl
 | c :: r, k, a => by
   rw [List.cons_append, zAy, zAy, zDh v x r (k + 1)]
   congr 2
   rw [List.length_cons]; omega
theorem zBt {α : Type} (v : Nat → α) (d : α) {j : Nat} : ∀ (l : List Int) (k : Nat) (a : List α), (∀ c ∈ l, c.toNat ≠ j) → (zAy v l k a).getD j d = a.getD j d
 | [], _, a, _ => rfl
 | c :: r, k, a, h => by
   rw [zAy, zBt v d r (k + 1) _ (fun c hc => h c (by simp [hc])), Go.Ax.Dt.getD_set, if_neg]
   exact fun q => h c (by simp) q.1.symm
theorem zME {α : Type} (v : Nat → α) (d : α) : ∀ (l : List Int) (k : Nat) (a : List α) (m : Nat), m < l.length → (l.map Int.toNat).Nodup → (∀ c ∈ l, c.toNat < a.length) → (zAy v l k a).getD (l.getD m 0).toNat d = v (k + m)
 | [], _, a, m, h, _, _ => absurd h (Nat.not_lt_zero _)
 | c :: r, k, a, m, h, hn, hl => by
   rw [List.map_cons, List.nodup_cons] at hn
   rw [zAy]
   cases m with
   | zero =>
     have : (c :: r).getD 0 0 = c := rfl
     rw [this, zBt, Go.Ax.Dt.getD_set, if_pos ⟨rfl, hl c (by simp)⟩, Nat.add_zero]
     intro x hx e
     exact hn.1 (List.mem_map.2 ⟨x, hx, e⟩)
   | succ m =>
     have : (c :: r).getD (m + 1) 0 = r.getD m 0 := rfl
     rw [this, zME v d r (k + 1) _ m (by simpa using h) hn.2 (fun x hx => by rw [List.length_set]; exact hl x (by simp [hx]))]
     congr 1; omega
theorem zIU (v : Nat → Int) : ∀ (l : List Int) (k : Nat) (a : List Int), zDt v l k a = zAy v l k a
 | [], _, a => rfl
 | c :: r, k, a => by rw [zDt, zAy, zIU v r]
theorem zFj (v : Nat → Way) : ∀ (l : List Int) (k : Nat) (a : List Way), zHK v l k a = zAy v l k a
 | [], _, a => rfl
 | c :: r, k, a => by rw [zHK, zAy, zFj v r]
/-- A table over the nodes, made from parents to children. -/
theorem zMx {α : Type} {t : zQ} (h : Valid t) (d : α) (T : Nat → List α) (v : Nat → Nat → α) (hT : ∀ i, i < t.length → T (i + 1) = zAy (v i) (t.getD i node0).next 0 (T i)) {j : Nat} (hj : j < t.length) : ∀ e i, j ≤ i → i + e ≤ t.length → (T (i + e)).getD j d = (T i).getD j d
 | 0, i, _, _ => rfl
 | e + 1, i, h1, h2 => by
   rw [← Nat.add_assoc, hT _ (by omega), zBt, zMx h d T v hT hj e i h1 (by omega)]
   intro c hc e'
   have := h.behind (show i + e < t.length by omega) c hc
   omega
theorem zQB {α : Type} {t : zQ} (h : Valid t) (d : α) (T : Nat → List α) (v : Nat → Nat → α) (hl : ∀ i, (T i).length = t.length) (hT : ∀ i, i < t.length → T (i + 1) = zAy (v i) (t.getD i node0).next 0 (T i)) {i m : Nat} (hi : i < t.length) (hm : m < (t.getD i node0).next.length) :
   (T t.length).getD ((t.getD i node0).next.getD m 0).toNat d = v i m := by
 have hb := h.behind hi _ (zAQ 0 hm)
 have hc : ((t.getD i node0).next.getD m 0).toNat < t.length := by omega
 have h1 : (T (i + 1)).getD ((t.getD i node0).next.getD m 0).toNat d = v i m := by
   rw [hT i hi, zME _ d _ _ _ m hm (h.kids_nodup hi) (fun c hc => by rw [hl]; have := h.behind hi c hc; omega), Nat.zero_add]
 have key : ∀ e, i + 1 + e ≤ t.length → (T (i + 1 + e)).getD ((t.getD i node0).next.getD m 0).toNat d = (T (i + 1)).getD ((t.getD i node0).next.getD m 0).toNat d := by
   intro e
   induction e with
   | zero => intro _; rfl
   | succ e ih =>
     intro hd
     rw [← Nat.add_assoc, hT _ (by omega), zBt, ih (by omega)]
     intro c hc2 e'
     have hc3 := h.behind (show i + 1 + e < t.length by omega) c hc2
     have k1 : kid t i ((t.getD i node0).next.getD m 0).toNat := by
       unfold kid
       rw [show ((((t.getD i node0).next.getD m 0).toNat : Nat) : Int) = (t.getD i node0).next.getD m 0 by omega]
       exact zAQ 0 hm
     have k2 : kid t (i + 1 + e) ((t.getD i node0).next.getD m 0).toNat := by
       unfold kid
       rw [← e', show ((c.toNat : Nat) : Int) = c by omega]
       exact hc2
     have := h.parent hc (by omega) hi (by omega) k1 k2
     omega
 have h3 := key (t.length - (i + 1)) (by omega)
 rw [show i + 1 + (t.length - (i + 1)) = t.length by omega] at h3
 rw [h3, h1]
theorem zGq {α : Type} {t : zQ} (h : Valid t) (d : α) (T : Nat → List α) (v : Nat → Nat → α) (hT : ∀ i, i < t.length → T (i + 1) = zAy (v i) (t.getD i node0).next 0 (T i)) {i : Nat} (hi : i < t.length) : (T i).getD i d = (T t.length).getD i d := by
 have := zMx h d T v hT hi (t.length - i) i (Nat.le_refl _) (by omega)
 rw [show i + (t.length - i) = t.length by omega] at this
 exact this.symm
/-- the sequence of each node -/
def zCI (t : zQ) (p : Int) : List Int := (zAN t p t.length).pos
def zEF (t : zQ) (p : Int) : List Way := zBZ t p t.length
abbrev zHf (t : zQ) (p : Int) : List (Int × Nat) := (zAN t p t.length).first
theorem zG0 (p : Int) (n : TNode) (i : Nat) (f : RForm) : (zAY p n i f).pos = f.pos := by
 unfold zAY; split <;> rfl
theorem zGm (t : zQ) (p : Int) (i : Nat) : (zAN t p (i + 1)).pos = zAy (zHR p (t.getD i node0) i (zAY p (t.getD i node0) i (zAN t p i))) (t.getD i node0).next 0 (zAN t p i).pos := by
 rw [zAN, zJW]
 show zDt _ _ _ (zAY _ _ _ _).pos = _
 rw [zIU, zG0]
theorem zEu (t : zQ) (p : Int) : ∀ i, (zAN t p i).pos.length = t.length
 | 0 => List.length_replicate
 | i + 1 => by rw [zGm, zDQ, zEu t p i]
theorem zQr {m m' : List (Int × Nat)} {k : Int} {s : Nat} (h : zBb m k = some s) : zBb (m ++ m') k = some s := by
 unfold zBb at h ⊢
 obtain ⟨x, hx, rfl⟩ := Option.map_eq_some_iff.1 h
 rw [List.find?_append, hx]; rfl
theorem zKP {t : zQ} {p : Int} {k : Int} {s : Nat} {i : Nat} : ∀ e, zBb (zAN t p i).first k = some s → zBb (zAN t p (i + e)).first k = some s
 | 0, h => h
 | e + 1, h => by
   rw [← Nat.add_assoc, zAN, zJW]
   show zBb (zAY _ _ _ _).first k = some s
   have := zKP e h
   unfold zAY
   split
   · exact zQr this
   · exact this
theorem zNo {t : zQ} {p : Int} (hv : Valid t) {i : Nat} (hi : i < t.length) (ho : own p (t.getD i node0) = true) : ∃ s, zBb (zAY p (t.getD i node0) i (zAN t p i)).first (t.getD i node0).info = some s ∧ zBb (zHf t p) (t.getD i node0).info = some s := by
 have h := RI.all_n hv p i (by omega)
 obtain ⟨s, hs⟩ := (RI.add hv h hi h h.s0.1).2.2.2.2.2.2.2.2.2 ho
 refine ⟨s, hs, ?_⟩
 have h2 : zBb (zAN t p (i + 1)).first (t.getD i node0).info = some s := hs
 have := zKP (t.length - (i + 1)) h2
 rwa [show i + 1 + (t.length - (i + 1)) = t.length by omega] at this
abbrev zCm (t : zQ) (p x : Int) : Nat := (zBb (zHf t p) x).getD 0
theorem zPq {t : zQ} (hv : Valid t) (p : Int) {i m : Nat} (hi : i < t.length) (hm : m < (t.getD i node0).next.length) :
   (zCI t p).getD ((t.getD i node0).next.getD m 0).toNat 0 = if own p (t.getD i node0) = true then ((zCm t p (t.getD i node0).info : Nat) : Int) + (m : Int) else (zCI t p).getD i 0 := by
 have hk := zQB hv (0 : Int) (fun i => (zAN t p i).pos) (fun i => zHR p (t.getD i node0) i (zAY p (t.getD i node0) i (zAN t p i))) (zEu t p) (fun i _ => zGm t p i) hi hm
 have hp := zGq hv (0 : Int) (fun i => (zAN t p i).pos) _ (fun i _ => zGm t p i) hi
 refine hk.trans ?_
 unfold zHR
 split
 · rename_i ho
   obtain ⟨s, h1, h2⟩ := zNo hv hi ho
   rw [h1]
   unfold zCm
   rw [h2]
 · rw [zG0]; exact hp
theorem zNe {t : zQ} (hv : Valid t) (p : Int) : (zCI t p).getD 0 0 = 0 := by
 have hn := hv.ne
 have := zGq hv (0 : Int) (fun i => (zAN t p i).pos) _ (fun i _ => zGm t p i) (i := 0) (by omega)
 refine this.symm.trans ?_
 show (List.replicate t.length (0 : Int)).getD 0 0 = 0
 simp only [List.getD, List.getElem?_replicate]
 split <;> rfl
theorem way_kid {t : zQ} (hv : Valid t) (p : Int) {i m : Nat} (hi : i < t.length) (hm : m < (t.getD i node0).next.length) :
   (zEF t p).getD ((t.getD i node0).next.getD m 0).toNat [] = zIn p (t.getD i node0) ((zEF t p).getD i []) m := by
 have hT : ∀ i, i < t.length → zBZ t p (i + 1) = zAy (zIn p (t.getD i node0) ((zBZ t p i).getD i [])) (t.getD i node0).next 0 (zBZ t p i) := fun i _ => by rw [zBZ, zFj]
 have hk := zQB hv ([] : Way) (fun i => zBZ t p i) (fun i => zIn p (t.getD i node0) ((zBZ t p i).getD i [])) (zFh t p) hT hi hm
 have hp := zGq hv ([] : Way) (fun i => zBZ t p i) _ hT hi
 refine hk.trans ?_
 show zIn p _ ((zBZ t p i).getD i []) m = _
 rw [show (zBZ t p i).getD i [] = (zEF t p).getD i [] from hp]
theorem way_root {t : zQ} (hv : Valid t) (p : Int) : (zEF t p).getD 0 [] = [] := by
 have hn := hv.ne
 have hT : ∀ i, i < t.length → zBZ t p (i + 1) = zAy (zIn p (t.getD i node0) ((zBZ t p i).getD i [])) (t.getD i node0).next 0 (zBZ t p i) := fun i _ => by rw [zBZ, zFj]
 have := zGq hv ([] : Way) (fun i => zBZ t p i) _ hT (i := 0) (by omega)
 refine this.symm.trans ?_
 show (List.replicate t.length ([] : Way)).getD 0 [] = []
 simp only [List.getD, List.getElem?_replicate]
 split <;> rfl
def posW (F : Int → Nat) (w : Way) : Int := match w.getLast? with
 | none => 0
 | some x => ((F x.1 : Nat) : Int) + x.2
theorem zP9 {t : zQ} (hv : Valid t) (p : Int) : ∀ j, j < t.length → (zCI t p).getD j 0 = posW (zCm t p) ((zEF t p).getD j []) := by
 intro j
 induction j using Nat.strongRecOn with
 | ind j ih =>
   intro hj
   by_cases h0 : j = 0
   · subst h0
     rw [zNe hv, way_root hv]; rfl
   · obtain ⟨i, hi, hk⟩ := hv.has hj h0
     have hlt := hv.kid_lt hi hk
     obtain ⟨m, hm, he⟩ := zKg hv hi hk
     have h1 := zPq hv p hi hm
     have h2 := way_kid hv p hi hm
     rw [he] at h1 h2
     rw [h1, h2]
     unfold zIn
     split
     · unfold posW
       rw [List.getLast?_append]
       rfl
     · exact ih i (by omega) hi
theorem zE4 {t : zQ} {p : Int} {x : Int × Nat} {i : Nat} : ∀ e, x ∈ zA6 t p i → x ∈ zA6 t p (i + e)
 | 0, h => h
 | e + 1, h => by
   rw [← Nat.add_assoc, zA6]
   split
   · exact List.mem_append_left _ (zE4 e h)
   · exact zE4 e h
theorem zFz (t : zQ) (p : Int) : ∀ i, ((zA6 t p i).map Prod.fst).Nodup
 | 0 => List.nodup_nil
 | i + 1 => by
   rw [zA6]
   split
   · rename_i hc
     rw [List.map_append, List.nodup_append]
     refine ⟨zFz t p i, by simp, fun a ha b hb e => ?_⟩
     have : b = (t.getD i node0).info := by simpa using hb
     have hno := zF5 hc.2
     rw [← this, ← e] at hno
     exact hno ha
   · exact zFz t p i
theorem zJ8 {t : zQ} {p : Int} {W : List Way} : ∀ {n i : Nat}, zFB t p W n = true → i < n → own p (t.getD i node0) = true → ∃ k, ((t.getD i node0).info, k) ∈ zA6 t p n ∧ W.getD i [] = W.getD k []
 | 0, i, _, h, _ => absurd h (Nat.not_lt_zero _)
 | n + 1, i, hp, hi, ho => by
   rw [zFB, Bool.and_eq_true] at hp
   by_cases e : i = n
   · subst e
     have h2 := hp.2
     rw [if_pos ho] at h2
     cases hl : zBb (zA6 t p i) (t.getD i node0).info with
     | none =>
       refine ⟨i, ?_, Y⟩
       rw [zA6, if_pos ⟨ho, hl⟩]
       simp
     | some k =>
       rw [hl] at h2
       exact ⟨k, zE4 1 (zCP hl), by simpa using h2⟩
   · obtain ⟨k, k1, k2⟩ := zJ8 hp.1 (by omega) ho
     exact ⟨k, zE4 1 k1, k2⟩
/-- With perfect recall, the nodes of a set have the same sequence. -/
theorem perf_pos {t : zQ} (hv : Valid t) {p : Int} (hp : zBd t p = true) {i j : Nat} (hi : i < t.length) (hj : j < t.length) (oi : own p (t.getD i node0) = true) (oj : own p (t.getD j node0) = true) (he : (t.getD i node0).info = (t.getD j node0).info) : (zCI t p).getD i 0 = (zCI t p).getD j 0 := by
 obtain ⟨a, a1, a2⟩ := zJ8 hp hi oi
 obtain ⟨b, b1, b2⟩ := zJ8 hp hj oj
 have := zMP (zFz t p t.length) a1 b1 he
 have hab : a = b := congrArg Prod.snd this
 rw [zP9 hv p i hi, zP9 hv p j hj]
 show posW _ ((zBZ t p t.length).getD i []) = posW _ ((zBZ t p t.length).getD j [])
 rw [a2, b2, hab]
/-- The blocks of sequences: what stands there, and where it comes from. -/
theorem zNx {t : zQ} (hv : Valid t) (p : Int) : ∀ i, i ≤ t.length → ∀ x ∈ (zAN t p i).first, ∃ j, j < i ∧ zBB p x.1 (t.getD j node0) = true ∧ x.2 + (t.getD j node0).next.length ≤ (zAN t p i).seqs.length ∧
   ∀ c, c < (t.getD j node0).next.length → (zAN t p i).seqs.getD (x.2 + c) seq0 = ⟨x.1, (c : Int), (zCI t p).getD j 0⟩
 | 0, _, x, hx => by simp [zAN] at hx
 | i + 1, hi, x, hx => by
   have ih := zNx hv p i (by omega)
   have hp := zGq hv (0 : Int) (fun i => (zAN t p i).pos) _ (fun i _ => zGm t p i) (i := i) (by omega)
   have hx : x ∈ (zAY p (t.getD i node0) i (zAN t p i)).first := hx
   show ∃ j, j < i + 1 ∧ _ ∧ _ ≤ (zAY p (t.getD i node0) i (zAN t p i)).seqs.length ∧ ∀ c, _ → (zAY p (t.getD i node0) i (zAN t p i)).seqs.getD (x.2 + c) seq0 = _
   generalize hn : t.getD i node0 = n at *
   unfold zAY at hx ⊢
   split at hx
   · rename_i hc
     rw [if_pos hc]
     rcases List.mem_append.1 hx with q | q
     · obtain ⟨j, j1, j2, j3, j4⟩ := ih x q
       refine ⟨j, by omega, j2, by show _ ≤ (_ ++ _ : List RSeq).length; rw [List.length_append]; omega, fun c hc2 => ?_⟩
       show ((zAN t p i).seqs ++ _).getD (x.2 + c) seq0 = _
       rw [zG6 _ (by omega)]
       exact j4 c hc2
     · have hx' : x = (n.info, (zAN t p i).seqs.length) := by simpa using q
       subst hx'
       refine ⟨i, Nat.lt_succ_self _, ?_, ?_, fun c hc2 => ?_⟩
       · rw [hn]; unfold zBB; rw [hc.1]; simp
       · rw [hn]
         show (zAN t p i).seqs.length + n.next.length ≤ ((zAN t p i).seqs ++ zB9 n _).length
         rw [List.length_append]; simp [zB9]
       · rw [hn] at hc2
         show ((zAN t p i).seqs ++ zB9 n ((zAN t p i).pos.getD i 0)).getD ((zAN t p i).seqs.length + c) seq0 = _
         have e : ((zAN t p i).seqs ++ zB9 n ((zAN t p i).pos.getD i 0)).getD ((zAN t p i).seqs.length + c) seq0 = (zB9 n ((zAN t p i).pos.getD i 0)).getD c seq0 := by
           simp only [List.getD]
           rw [List.getElem?_append_right (by omega), Nat.add_sub_cancel_left]
         rw [e]
         unfold zB9
         rw [zBV _ _ 0 _ _ (by simpa using hc2)]
         have hp : (zAN t p i).pos.getD i 0 = (zCI t p).getD i 0 := hp
         rw [hp]
         simp [List.getD, hc2]
   · rename_i hc
     rw [if_neg hc]
     obtain ⟨j, j1, j2, j3, j4⟩ := ih x hx
     exact ⟨j, by omega, j2, j3, j4⟩
/-- The plan at a choice. -/
theorem plan_kid {t : zQ} (hv : Valid t) {p : Int} (hp : zBd t p = true) (u : Int → List Rat) {i m : Nat} (hi : i < t.length) (ho : own p (t.getD i node0) = true) (hm : m < (t.getD i node0).next.length) :
   (zAx t p u).getD (((zCm t p (t.getD i node0).info : Nat) : Int) + (m : Int)).toNat 0 = (zAx t p u).getD ((zCI t p).getD i 0).toNat 0 * (u (t.getD i node0).info).getD m 0 := by
 obtain ⟨s, _, h2⟩ := zNo hv hi ho
 have hx := zCP h2
 have h := RI.all_n hv p t.length (Nat.le_refl _)
 obtain ⟨j, j1, j2, j3, j4⟩ := zNx hv p t.length (Nat.le_refl _) _ hx
 have hj2 := j2
 unfold zBB at hj2
 rw [Bool.and_eq_true, decide_eq_true_eq] at hj2
 have hw := hv.width hi j1 ho hj2.1 hj2.2.symm
 have hpos := perf_pos hv hp hi j1 ho hj2.1 hj2.2.symm
 have hst : zCm t p (t.getD i node0).info = s := by unfold zCm; rw [h2]; rfl
 rw [hst]
 obtain ⟨b1, b2⟩ := h.pb ((zCI t p).getD j 0) (zAQ 0 (by show j < (zAN t p t.length).pos.length; rw [zEu]; exact j1))
 have hs := j4 m (by omega)
 obtain ⟨q1, q2, b, q3, q4, q5⟩ := h.fst _ hx
 have hww := zC4 hv j1 j2
 have hs' := q5 m (by have hww : zR t p (t.getD i node0).info = _ := hww; show m < zR t p (t.getD i node0).info; omega)
 rw [hs] at hs'
 have hb : (zCI t p).getD j 0 = b := congrArg RSeq.before hs'
 have q4 : b < (s : Int) := q4
 have j3 : s + (t.getD j node0).next.length ≤ (zAN t p t.length).seqs.length := j3
 have hs : (zY t p).getD (s + m) seq0 = ⟨(t.getD i node0).info, (m : Int), (zCI t p).getD j 0⟩ := hs
 have hlen : s + m < (zY t p).length := by show s + m < (zAN t p t.length).seqs.length; omega
 rw [show (((s : Nat) : Int) + (m : Int)).toNat = s + m by omega]
 unfold zAx
 rw [zDG _ _ hlen, hs]
 unfold zDR
 simp only
 rw [if_neg (by omega), Int.toNat_natCast, hpos, zF8 _ _ (show ((zCI t p).getD j 0).toNat < s + m by omega) (show ((zCI t p).getD j 0).toNat < (zY t p).length by omega)]
/-- the probabilities of both players, and chance -/
def zEH (t : zQ) (p : Int) (u : Int → List Rat) (o : zAI) : zAI := fun i => if own p (t.getD i node0) = true then some (u (t.getD i node0).info) else o i
theorem zDF {t : zQ} (hv : Valid t) (p : Int) (u : Int → List Rat) : (zAx t p u).getD 0 0 = 1 := by
 obtain ⟨_, h1, h2, _⟩ := zAw hv p
 unfold zAx
 rw [zDG _ _ h2, h1]
 rfl
theorem zNW {t : zQ} (hv : Valid t) {p : Int} (hp : zBd t p = true) (u : Int → List Rat) {o : zAI} (ho : ∀ i, i < t.length → own p (t.getD i node0) = true → o i = none) : ∀ j, j < t.length → (zb t (zEH t p u o)).getD j 0 = (zb t o).getD j 0 * (zAx t p u).getD ((zCI t p).getD j 0).toNat 0 := by
 intro j
 induction j using Nat.strongRecOn with
 | ind j ih =>
   intro hj
   by_cases h0 : j = 0
   · subst h0
     rw [zDo hv, zDo hv, zNe hv, Rat.one_mul]
     exact (zDF hv p u).symm
   · obtain ⟨i, hi, hk⟩ := hv.has hj h0
     have hlt := hv.kid_lt hi hk
     obtain ⟨m, hm, he⟩ := zKg hv hi hk
     have h1 := zEU hv (zEH t p u o) hi hm
     have h2 := zEU hv o hi hm
     have h3 := zPq hv p hi hm
     have h4 := ih i (by omega) hi
     rw [he] at h1 h2 h3
     rw [h1, h2, h3, h4]
     by_cases how : own p (t.getD i node0) = true
     · have e : zEH t p u o i = some (u (t.getD i node0).info) := by unfold zEH; rw [if_pos how]
       rw [e, if_pos how, ho i hi how, plan_kid hv hp u hi how hm]
       show _ * _ * _ = (zb t o).getD i 0 * (_ * _)
       rw [Rat.mul_assoc]
     · have e : zEH t p u o i = o i := by unfold zEH; rw [if_neg how]
       rw [e, if_neg how]
       cases o i with
       | none => rfl
       | some l =>
         show _ * _ * _ = _ * _ * _
         rw [Rat.mul_assoc, Rat.mul_assoc, Rat.mul_comm (l.getD m 0)]
def zDe (t : zQ) (r : List Rat) (i : Nat) : Rat := r.getD i 0 * zAM (t.getD i node0).pay
/-- what the first player receives on average -/
def zAj (t : zQ) (o : zAI) : Rat := zAH 0 ((zw t).map (zDe t (zb t o)))
def endG (t : zQ) (p : Int) (r : List Rat) (i : Nat) : Rat := if p = 1 then -(zDe t r i) else zDe t r i
def zFl (g : Nat → Rat) (pos : List Int) : List Nat → List Rat → List Rat
 | [], S => S
 | i :: r, S => zFl g pos r (S.set (pos.getD i 0).toNat (S.getD (pos.getD i 0).toNat 0 + g i))
theorem zJ6 (g : Nat → Rat) (pos : List Int) (x : Nat) : ∀ (ks : List Nat) (S : List Rat), zFl g pos (ks ++ [x]) S = (zFl g pos ks S).set (pos.getD x 0).toNat ((zFl g pos ks S).getD (pos.getD x 0).toNat 0 + g x)
 | [], S => rfl
 | i :: r, S => by rw [List.cons_append, zFl, zFl, zJ6 g pos x r]
theorem zI1 (g : Nat → Rat) (pos : List Int) : ∀ (ks : List Nat) (S : List Rat), (zFl g pos ks S).length = S.length
 | [], S => rfl
 | i :: r, S => by rw [zFl, zI1 g pos r, List.length_set]
def zFf (P S : List Rat) (n : Nat) : Rat := zBA (fun k => P.getD k 0 * S.getD k 0) n
theorem zQK {P S : List Rat} {n k : Nat} (y : Rat) (hk : k < n) (hS : k < S.length) : zFf P (S.set k (S.getD k 0 + y)) n = zFf P S n + P.getD k 0 * y := by
 unfold zFf
 rw [← zER (f := fun _ => P.getD k 0 * y) hk, ← zGl]
 refine zAz (fun j hj => ?_)
 rw [Go.Ax.Dt.getD_set]
 by_cases h : j = k
 · subst h
   rw [if_pos ⟨rfl, hS⟩, if_pos rfl, Rat.mul_add]
 · rw [if_neg (fun q => h q.1), if_neg h, Rat.add_zero]
theorem zM5 (P : List Rat) (g : Nat → Rat) (pos : List Int) {n : Nat} : ∀ (ks : List Nat) (S : List Rat), (∀ i ∈ ks, (pos.getD i 0).toNat < n) → n ≤ S.length → zFf P (zFl g pos ks S) n = zFf P S n + zAH 0 (ks.map (fun i => P.getD (pos.getD i 0).toNat 0 * g i))
 | [], S, _, _ => by rw [zFl, List.map_nil, zAH, Rat.add_zero]
 | i :: r, S, h, hS => by
   have hi := h i (by simp)
   rw [zFl, zM5 P g pos r _ (fun j hj => h j (by simp [hj])) (by rw [List.length_set]; exact hS), zQK _ hi (by omega), List.map_cons, zAH, Rat.zero_add, zBF _ (P.getD (pos.getD i 0).toNat 0 * g i), Rat.add_assoc]
theorem dot_zero (P : List Rat) (n m : Nat) : zFf P (List.replicate m 0) n = 0 := by
 unfold zFf
 rw [zAz (g := fun _ => 0) (fun j hj => ?_), zHH]
 have : (List.replicate m (0 : Rat)).getD j 0 = 0 := by
   simp only [List.getD, List.getElem?_replicate]
   split <;> rfl
 rw [this, Rat.mul_zero]
theorem zKa (f : Nat → Rat) : ∀ ks : List Nat, zAH 0 (ks.map (fun i => -(f i))) = -(zAH 0 (ks.map f))
 | [] => by rw [List.map_nil, List.map_nil, zAH]; rfl
 | a :: r => by
   rw [List.map_cons, List.map_cons, zAH, zAH, zBF, zBF (r.map f), zKa f r, Rat.zero_add, Rat.zero_add, Rat.neg_add]
theorem pos_lt {t : zQ} (hv : Valid t) (p : Int) {j : Nat} (hj : j < t.length) : 0 ≤ (zCI t p).getD j 0 ∧ ((zCI t p).getD j 0).toNat < (zY t p).length := by
 have h := RI.all_n hv p t.length (Nat.le_refl _)
 have := h.pb ((zCI t p).getD j 0) (zAQ 0 (by show j < (zAN t p t.length).pos.length; rw [zEu]; exact hj))
 have e : (zY t p).length = (zAN t p t.length).seqs.length := rfl
 omega
theorem zCc {t : zQ} {i : Nat} (h : i ∈ zw t) : i < t.length ∧ (t.getD i node0).kind = 0 := by
 have := List.mem_filter.1 h
 exact ⟨by simpa using this.1, by simpa using this.2⟩
/-- what the sequences are worth, before the choices are made -/
def zGM (t : zQ) (p : Int) (o : zAI) : List Rat := zFl (endG t p (zb t o)) (zCI t p) (zw t) (List.replicate (zY t p).length 0)
/-- The value, told by sequences. -/
theorem zJR {t : zQ} (hv : Valid t) {p : Int} (hp : zBd t p = true) (u : Int → List Rat) {o : zAI} (ho : ∀ i, i < t.length → own p (t.getD i node0) = true → o i = none) :
   zFf (zAx t p u) (zGM t p o) (zY t p).length = if p = 1 then -(zAj t (zEH t p u o)) else zAj t (zEH t p u o) := by
 unfold zGM
 rw [zM5 _ _ _ _ _ (fun i hi => (pos_lt hv p (zCc hi).1).2) (by rw [List.length_replicate]; exact Nat.le_refl _), dot_zero, Rat.zero_add]
 have e : (zw t).map (fun i => (zAx t p u).getD ((zCI t p).getD i 0).toNat 0 * endG t p (zb t o) i) = (zw t).map (fun i => if p = 1 then -(zDe t (zb t (zEH t p u o)) i) else zDe t (zb t (zEH t p u o)) i) := by
   refine List.map_congr_left (fun i hi => ?_)
   have hs := zNW hv hp u ho i (zCc hi).1
   unfold endG zDe
   rw [hs]
   have key : ∀ a b c : Rat, a * (b * c) = b * a * c := fun a b c => by rw [← Rat.mul_assoc, Rat.mul_comm a b]
   split
   · rw [← key, Rat.mul_neg]
   · rw [key]
 rw [e]
 unfold zAj
 split
 · exact zKa _ _
 · rfl
def zAt (S : List Rat) (s : Nat) : Nat → Nat
 | 0 => s
 | m + 1 => if S.getD (zAt S s m) 0 < S.getD (s + m) 0 then s + m else zAt S s m
theorem zET (S : List Rat) (s : Nat) : ∀ m, s ≤ zAt S s m ∧ zAt S s m < s + m + 1 ∧ (1 ≤ m → zAt S s m < s + m)
 | 0 => ⟨Nat.le_refl _, Nat.lt_succ_self _, fun h => absurd h (by decide)⟩
 | m + 1 => by
   obtain ⟨h1, h2, h3⟩ := zET S s m
   rw [zAt]
   split
   · exact ⟨by omega, by omega, fun _ => by omega⟩
   · exact ⟨h1, by omega, fun _ => by omega⟩
abbrev BSt := Nat × List Rat × List (Int × Int)
def zJy (l : List RSeq) (st : BSt) : BSt :=
 let s := st.1 - 1 - (l.getD (st.1 - 1) seq0).choice.toNat
 let b := zAt st.2.1 s (st.1 - s)
 let q := l.getD b seq0
 (s, st.2.1.set q.before.toNat (st.2.1.getD q.before.toNat 0 + st.2.1.getD b 0), st.2.2 ++ [(q.info, q.choice)])
def zGK (l : List RSeq) : Nat → BSt → BSt
 | 0, st => st
 | f + 1, st => if 1 < st.1 then zGK l f (zJy l st) else st
theorem zNE (f : Nat → Rat) (a : Nat) : ∀ w, zBA f (a + w) = zBA f a + zBA (fun c => f (a + c)) w
 | 0 => by rw [Nat.add_zero, zBA, Rat.add_zero]
 | w + 1 => by rw [← Nat.add_assoc, zBA, zNE f a w, zBA, Rat.add_assoc]
/-- The choices from e on belong to whole sets. -/
structure Bnd (t : zQ) (p : Int) (e : Nat) : Prop where
 one : 1 ≤ e
 le : e ≤ (zY t p).length
 whole : ∀ x ∈ zHf t p, x.2 < e → x.2 + zR t p x.1 ≤ e
theorem Bnd.top {t : zQ} (hv : Valid t) (p : Int) : Bnd t p (zY t p).length :=
 ⟨(zAw hv p).2.2.1, Nat.le_refl _, fun x hx _ => ((RI.all_n hv p t.length (Nat.le_refl _)).fst x hx).2.1⟩
structure Blk (t : zQ) (p : Int) (e : Nat) (x : Int × Nat) (b : Nat) : Prop where
 mem : x ∈ zHf t p
 info : x.1 ∈ zJ t p
 one : 1 ≤ x.2
 w1 : 1 ≤ zR t p x.1
 fin : x.2 + zR t p x.1 = e
 lt : b < x.2
 bnd : Bnd t p x.2
 seqs : ∀ c, c < zR t p x.1 → (zY t p).getD (x.2 + c) seq0 = ⟨x.1, (c : Int), (b : Int)⟩
theorem Bnd.blk {t : zQ} (hv : Valid t) {p : Int} {e : Nat} (h : Bnd t p e) (he : 1 < e) : ∃ x b, Blk t p e x b := by
 have hl := h.le
 obtain ⟨x, b, x0, x1, x2, x3, x4, x5, x6, x7⟩ := zHk hv (p := p) (k := e - 1) (by omega) (by omega)
 have hw := h.whole x x0 (by omega)
 refine ⟨x, b, x0, x1, x5, by omega, by omega, x4, ⟨x5, by omega, fun y hy hlt => ?_⟩, x7⟩
 rcases Nat.lt_or_ge x.2 (y.2 + zR t p y.1) with q | q
 · obtain ⟨y1, y2, b', b1, b2, b3⟩ := (RI.all_n hv p t.length (Nat.le_refl _)).fst y hy
   have e1 := b3 (x.2 - y.2) (by omega)
   rw [show y.2 + (x.2 - y.2) = x.2 by omega] at e1
   have e2 := x7 0 (by omega)
   rw [Nat.add_zero] at e2
   have e1 : (zY t p).getD x.2 seq0 = ⟨y.1, ((x.2 - y.2 : Nat) : Int), b'⟩ := e1
   rw [e2] at e1
   have := congrArg RSeq.choice e1
   have : ((0 : Nat) : Int) = ((x.2 - y.2 : Nat) : Int) := this
   omega
 · exact q
theorem Blk.step {t : zQ} {p : Int} {e : Nat} {x : Int × Nat} {b : Nat} (h : Blk t p e x b) (S : List Rat) (C : List (Int × Int)) :
   zJy (zY t p) (e, S, C) = (x.2, S.set b (S.getD b 0 + S.getD (zAt S x.2 (zR t p x.1)) 0), C ++ [(x.1, ((zAt S x.2 (zR t p x.1) - x.2 : Nat) : Int))]) := by
 have h1 := h.fin
 have h2 := h.w1
 have hs := h.seqs (zR t p x.1 - 1) (by omega)
 rw [show x.2 + (zR t p x.1 - 1) = e - 1 by omega] at hs
 obtain ⟨q1, _, q3⟩ := zET S x.2 (zR t p x.1)
 have q3 := q3 h2
 have hb := h.seqs (zAt S x.2 (zR t p x.1) - x.2) (by omega)
 rw [show x.2 + (zAt S x.2 (zR t p x.1) - x.2) = zAt S x.2 (zR t p x.1) by omega] at hb
 have e1 : e - 1 - ((zR t p x.1 - 1 : Nat) : Int).toNat = x.2 := by omega
 unfold zJy
 simp only [hs]
 rw [e1, show e - x.2 = zR t p x.1 by omega, hb]
 simp only [Int.toNat_natCast]
theorem Blk.plan {t : zQ} {p : Int} {e : Nat} {x : Int × Nat} {b : Nat} (h : Blk t p e x b) (hl : e ≤ (zY t p).length) (u : Int → List Rat) : ∀ c, c < zR t p x.1 → (zAx t p u).getD (x.2 + c) 0 = (zAx t p u).getD b 0 * (u x.1).getD c 0 := by
 intro c hc
 have h1 := h.fin
 have h2 := h.lt
 unfold zAx
 rw [zDG _ _ (show x.2 + c < (zY t p).length by omega), h.seqs c hc]
 unfold zDR
 simp only
 rw [if_neg (by omega), Int.toNat_natCast, Int.toNat_natCast, zF8 _ _ (show b < x.2 + c by omega) (show b < (zY t p).length by omega)]
/-- a strategy that need not have short zAw -/
structure Mix (t : zQ) (p : Int) (u : Int → List Rat) : Prop where
 len : ∀ x ∈ zJ t p, (u x).length = zR t p x
 sum : ∀ x ∈ zJ t p, zAH 0 (u x) = 1
 nn : ∀ x ∈ zJ t p, ∀ q ∈ u x, 0 ≤ q
theorem plan_nn {t : zQ} (hv : Valid t) {p : Int} {u : Int → List Rat} (hu : Mix t p u) : ∀ k, k < (zY t p).length → 0 ≤ (zAx t p u).getD k 0 := by
 intro k
 induction k using Nat.strongRecOn with
 | ind k ih =>
   intro hk
   rcases Nat.eq_zero_or_pos k with e | e
   · subst e
     rw [zDF hv]; decide +kernel
   · obtain ⟨x, b, x0, x1, x2, x3, x4, x5, x6, x7⟩ := zHk hv e hk
     have hs := x7 (k - x.2) (by omega)
     rw [show x.2 + (k - x.2) = k by omega] at hs
     have h2 := ih b (by omega) (by omega)
     unfold zAx at h2 ⊢
     rw [zDG _ _ hk, hs]
     unfold zDR
     simp only
     rw [if_neg (by omega), Int.toNat_natCast, Int.toNat_natCast]
     rw [zF8 _ _ (show b < (zY t p).length by omega) (show b < k by omega)] at h2
     exact Rat.mul_nonneg h2 (hu.nn x.1 x1 _ (zAQ 0 (by rw [hu.len x.1 x1]; omega)))
theorem mix_sum {t : zQ} {p : Int} {u : Int → List Rat} (hu : Mix t p u) {x : Int} (hx : x ∈ zJ t p) : zBA (fun c => (u x).getD c 0) (zR t p x) = 1 := by
 rw [zHF _ _ (by rw [hu.len x hx]; exact Nat.le_refl _), List.take_of_length_le (by rw [hu.len x hx]; exact Nat.le_refl _), hu.sum x hx]
theorem dot_blk {t : zQ} {p : Int} {e : Nat} {x : Int × Nat} {b : Nat} (h : Blk t p e x b) (hl : e ≤ (zY t p).length) (u : Int → List Rat) (S : List Rat) :
   zFf (zAx t p u) S e = zFf (zAx t p u) S x.2 + (zAx t p u).getD b 0 * zBA (fun c => (u x.1).getD c 0 * S.getD (x.2 + c) 0) (zR t p x.1) := by
 unfold zFf
 rw [← h.fin, zNE, ← zGp]
 congr 1
 refine zAz (fun c hc => ?_)
 rw [h.plan hl u c hc, Rat.mul_assoc]
theorem dot_step {t : zQ} {p : Int} {e : Nat} {x : Int × Nat} {b : Nat} (h : Blk t p e x b) (P S : List Rat) (y : Rat) (hS : e ≤ S.length) : zFf P (S.set b (S.getD b 0 + y)) x.2 = zFf P S x.2 + P.getD b 0 * y := by
 have h1 := h.fin
 have h2 := h.lt
 exact zQK y h.lt (by omega)
theorem zOF (l : List RSeq) {y : Int × Int} : ∀ (f : Nat) (st : BSt), y ∈ st.2.2 → y ∈ (zGK l f st).2.2
 | 0, st, h => h
 | f + 1, st, h => by
   rw [zGK]
   split
   · exact zOF l f _ (List.mem_append_left _ h)
   · exact h
def zA1 (w c : Nat) : List Rat := (List.replicate w 0).set c 1
theorem zMs {w c : Nat} (hc : c < w) (M : Nat → Rat) : zBA (fun j => (zA1 w c).getD j 0 * M j) w = M c := by
 rw [← zER (f := M) hc]
 refine zAz (fun j hj => ?_)
 unfold zA1
 rw [Go.Ax.Dt.getD_set, List.length_replicate]
 by_cases h : j = c
 · subst h
   rw [if_pos ⟨rfl, hc⟩, if_pos rfl, Rat.one_mul]
 · have : (List.replicate w (0 : Rat)).getD j 0 = 0 := by
     simp only [List.getD, List.getElem?_replicate]
     split <;> rfl
   rw [if_neg (fun q => h q.1), if_neg h, this, Rat.zero_mul]
/-- The strategy of the best choices gets as much. -/
theorem zQD {t : zQ} (hv : Valid t) {p : Int} {u : Int → List Rat} : ∀ (f e : Nat) (S : List Rat) (C : List (Int × Int)), Bnd t p e → e ≤ f + 1 → S.length = (zY t p).length →
   (∀ y ∈ (zGK (zY t p) f (e, S, C)).2.2, u y.1 = zA1 (zR t p y.1) y.2.toNat) → zFf (zAx t p u) S e = zFf (zAx t p u) (zGK (zY t p) f (e, S, C)).2.1 1
 | 0, e, S, C, hb, hf, hS, hu => by
   have := hb.one
   obtain rfl : e = 1 := by omega
   rfl
 | f + 1, e, S, C, hb, hf, hS, hu => by
   rw [zGK] at hu ⊢
   split
   · rename_i he
     rw [if_pos he] at hu
     have he : 1 < e := he
     obtain ⟨x, b, hB⟩ := hb.blk hv he
     have hl := hb.le
     have h1 := hB.fin
     have h2 := hB.w1
     have h3 := hB.lt
     rw [hB.step S C] at hu ⊢
     have g3 := zQD hv (u := u) f x.2 (S.set b (S.getD b 0 + S.getD (zAt S x.2 (zR t p x.1)) 0)) (C ++ [(x.1, ((zAt S x.2 (zR t p x.1) - x.2 : Nat) : Int))]) hB.bnd (by omega) (by rw [List.length_set]; exact hS) hu
     rw [← g3, dot_step hB _ _ _ (by omega), dot_blk hB hl]
     have hux := hu _ (zOF _ f _ (List.mem_append_right _ (List.mem_singleton.2 rfl)))
     rw [Int.toNat_natCast] at hux
     obtain ⟨q1, _, q3⟩ := zET S x.2 (zR t p x.1)
     have q3 := q3 h2
     have hus := zMs (w := zR t p x.1) (c := zAt S x.2 (zR t p x.1) - x.2) (by omega) (fun c => S.getD (x.2 + c) 0)
     rw [show x.2 + (zAt S x.2 (zR t p x.1) - x.2) = zAt S x.2 (zR t p x.1) by omega] at hus
     have hux : u x.1 = _ := hux
     rw [hux, hus]
   · rename_i he
     have he : ¬ 1 < e := he
     have := hb.one
     obtain rfl : e = 1 := by omega
     rfl
/-- What the found choices are: one for each set. -/
structure Chosen (t : zQ) (p : Int) (e : Nat) (C : List (Int × Int)) : Prop where
 nd : (C.map Prod.fst).Nodup
 old : ∀ y ∈ C, ∃ x ∈ zHf t p, x.1 = y.1 ∧ e ≤ x.2
 all : ∀ x ∈ zHf t p, e ≤ x.2 → x.1 ∈ C.map Prod.fst
 rng : ∀ y ∈ C, 0 ≤ y.2 ∧ y.2.toNat < zR t p y.1
theorem Chosen.top {t : zQ} (hv : Valid t) (p : Int) : Chosen t p (zY t p).length [] :=
 ⟨List.nodup_nil, fun y hy => by simp at hy, fun x hx h => by
   obtain ⟨h1, h2, _⟩ := (RI.all_n hv p t.length (Nat.le_refl _)).fst x hx
   have hk : x.1 ∈ zJ t p := (zBg hv).2 (((RI.all_n hv p t.length (Nat.le_refl _)).keys x.1).1 (List.mem_map.2 ⟨x, hx, rfl⟩))
   obtain ⟨j, hj, hs⟩ := (zBg hv).1 hk
   have hw := zC4 hv hj hs
   unfold zBB at hs
   rw [Bool.and_eq_true] at hs
   have := (hv.mine hj hs.1).2.2
   have e : (zY t p).length = (zAN t p t.length).seqs.length := rfl
   omega, fun y hy => by simp at hy⟩
theorem Blk.new {t : zQ} (hv : Valid t) {p : Int} {e : Nat} {x : Int × Nat} {b : Nat} (h : Blk t p e x b) {C : List (Int × Int)} (hC : Chosen t p e C) : x.1 ∉ C.map Prod.fst := by
 intro hm
 obtain ⟨y, hy, hyx⟩ := List.mem_map.1 hm
 obtain ⟨z, hz, hzy, hze⟩ := hC.old y hy
 have := zMP (RI.all_n hv p t.length (Nat.le_refl _)).nd hz h.mem (by rw [hzy, hyx])
 subst this
 have := h.fin
 have := h.w1
 omega
theorem Blk.chosen {t : zQ} (hv : Valid t) {p : Int} {e : Nat} {x : Int × Nat} {b c : Nat} (h : Blk t p e x b) {C : List (Int × Int)} (hC : Chosen t p e C) (hc : c < zR t p x.1) : Chosen t p x.2 (C ++ [(x.1, (c : Int))]) := by
 have h1 := h.fin
 have h2 := h.w1
 refine ⟨?_, fun y hy => ?_, fun z hz hle => ?_, fun y hy => ?_⟩
 · rw [List.map_append, List.nodup_append]
   refine ⟨hC.nd, by simp, fun a ha b' hb' e' => ?_⟩
   have : b' = x.1 := by simpa using hb'
   rw [e', this] at ha
   exact h.new hv hC ha
 · rcases List.mem_append.1 hy with q | q
   · obtain ⟨z, z1, z2, z3⟩ := hC.old y q
     exact ⟨z, z1, z2, by omega⟩
   · rw [List.mem_singleton.1 q]
     exact ⟨x, h.mem, Y, Nat.le_refl _⟩
 · rw [List.map_append, List.mem_append]
   by_cases he : e ≤ z.2
   · exact .inl (hC.all z hz he)
   · right
     -- a set that begins in the block of x is x itself
     obtain ⟨z1, z2, b', b1, b2, b3⟩ := (RI.all_n hv p t.length (Nat.le_refl _)).fst z hz
     have hzi : z.1 ∈ zJ t p := (zBg hv).2 (((RI.all_n hv p t.length (Nat.le_refl _)).keys z.1).1 (List.mem_map.2 ⟨z, hz, rfl⟩))
     obtain ⟨j, hj, hs⟩ := (zBg hv).1 hzi
     have hw := zC4 hv hj hs
     unfold zBB at hs
     rw [Bool.and_eq_true] at hs
     have hw1 := (hv.mine hj hs.1).2.2
     have e1 : (zY t p).getD z.2 seq0 = ⟨z.1, ((0 : Nat) : Int), b'⟩ := b3 0 (by omega)
     have e2 := h.seqs (z.2 - x.2) (by omega)
     rw [show x.2 + (z.2 - x.2) = z.2 by omega, e1] at e2
     have := congrArg RSeq.info e2
     have : z.1 = x.1 := this
     simp [this]
 · rcases List.mem_append.1 hy with q | q
   · exact hC.rng y q
   · rw [List.mem_singleton.1 q]
     exact ⟨Int.natCast_nonneg _, by rw [Int.toNat_natCast]; exact hc⟩
theorem zI6 {t : zQ} (hv : Valid t) {p : Int} : ∀ (f e : Nat) (S : List Rat) (C : List (Int × Int)), Bnd t p e → e ≤ f + 1 → Chosen t p e C → Chosen t p 1 (zGK (zY t p) f (e, S, C)).2.2
 | 0, e, S, C, hb, hf, hC => by
   have := hb.one
   obtain rfl : e = 1 := by omega
   exact hC
 | f + 1, e, S, C, hb, hf, hC => by
   rw [zGK]
   split
   · rename_i he
     have he : 1 < e := he
     obtain ⟨x, b, hB⟩ := hb.blk hv he
     have h1 := hB.fin
     have h2 := hB.w1
     rw [hB.step S C]
     obtain ⟨q1, _, q3⟩ := zET S x.2 (zR t p x.1)
     have q3 := q3 h2
     exact zI6 hv f x.2 _ _ hB.bnd (by omega) (hB.chosen hv hC (by omega))
   · rename_i he
     have he : ¬ 1 < e := he
     have := hb.one
     obtain rfl : e = 1 := by omega
     exact hC
/-- reply.BestOf -/
def zBW (t : zQ) (p : Int) (o : zAI) : BSt := zGK (zY t p) (zY t p).length ((zY t p).length, zGM t p o, [])
def zLV (C : List (Int × Int)) (x : Int) : Option Int := (C.find? (fun y => decide (y.1 = x))).map Prod.snd
theorem zLZ {C : List (Int × Int)} (hn : (C.map Prod.fst).Nodup) {y : Int × Int} (hy : y ∈ C) : zLV C y.1 = some y.2 := by
 unfold zLV
 induction C with
 | nil => simp at hy
 | cons a r ih =>
   rw [List.map_cons, List.nodup_cons] at hn
   rw [List.find?_cons]
   rcases List.mem_cons.1 hy with e | q
   · subst e; simp
   · have : ¬ a.1 = y.1 := fun e => hn.1 (List.mem_map.2 ⟨y, q, e.symm⟩)
     rw [decide_eq_false this]
     exact ih hn.2 q
/-- the strategy of the best choices -/
def zGJ (t : zQ) (p : Int) (o : zAI) (x : Int) : List Rat := zA1 (zR t p x) ((zLV (zBW t p o).2.2 x).getD 0).toNat
theorem zI4 {t : zQ} (hv : Valid t) (p : Int) (o : zAI) : Chosen t p 1 (zBW t p o).2.2 :=
 zI6 hv _ _ _ _ (Bnd.top hv p) (by omega) (Chosen.top hv p)
theorem zIl {t : zQ} (hv : Valid t) {p : Int} (o : zAI) {x : Int} (hx : x ∈ zJ t p) : ∃ c : Nat, zLV (zBW t p o).2.2 x = some (c : Int) ∧ c < zR t p x ∧ (x, (c : Int)) ∈ (zBW t p o).2.2 := by
 have hC := zI4 hv p o
 obtain ⟨j, hj, hs⟩ := (zBg hv).1 hx
 have h := RI.all_n hv p t.length (Nat.le_refl _)
 obtain ⟨z, hz, hzx⟩ := List.mem_map.1 ((h.keys x).2 ⟨j, hj, hs⟩)
 have hm := hC.all z hz (h.fst z hz).1
 obtain ⟨y, hy, hyx⟩ := List.mem_map.1 hm
 have hyx : y.1 = x := by rw [hyx, hzx]
 have hl := zLZ hC.nd hy
 obtain ⟨r1, r2⟩ := hC.rng y hy
 obtain ⟨c, hc⟩ := Int.eq_ofNat_of_zero_le r1
 rw [hyx, hc] at hl
 rw [hc, Int.toNat_natCast, hyx] at r2
 refine ⟨c, hl, r2, ?_⟩
 have : y = (x, (c : Int)) := by rw [← hyx, ← hc]
 rwa [← this]
theorem zBX {w c : Nat} (hc : c < w) : (zA1 w c).length = w ∧ zAH 0 (zA1 w c) = 1 ∧ (∀ q ∈ zA1 w c, 0 ≤ q ∧ D 1 q) := by
 have hl : (zA1 w c).length = w := by unfold zA1; rw [List.length_set, List.length_replicate]
 refine ⟨hl, ?_, fun q hq => ?_⟩
 · have h1 := zMs hc (fun _ => 1)
   rw [zAz (g := fun j => (zA1 w c).getD j 0) (fun j _ => Rat.mul_one _), zHF _ _ (by rw [hl]; exact Nat.le_refl _), List.take_of_length_le (by rw [hl]; exact Nat.le_refl _)] at h1
   exact h1
 · unfold zA1 at hq
   rcases List.mem_or_eq_of_mem_set hq with h | h
   · rw [(List.mem_replicate.1 h).2]
     exact ⟨Rat.le_refl, by decide, by decide⟩
   · rw [h]; exact ⟨by decide +kernel, by decide, by decide⟩
theorem best_mix {t : zQ} (hv : Valid t) (p : Int) (o : zAI) : Mix t p (zGJ t p o) := by
 have key : ∀ x ∈ zJ t p, ∃ c, c < zR t p x ∧ zGJ t p o x = zA1 (zR t p x) c := fun x hx => by
   obtain ⟨c, h1, h2, _⟩ := zIl hv o hx
   refine ⟨c, h2, ?_⟩
   unfold zGJ; rw [h1]; rfl
 refine ⟨fun x hx => ?_, fun x hx => ?_, fun x hx => ?_⟩ <;> obtain ⟨c, c1, c2⟩ := key x hx <;> obtain ⟨f1, f2, f3⟩ := zBX c1 <;> rw [c2]
 · exact f1
 · exact f2
 · exact fun q hq => (f3 q hq).1
theorem dot_one {P S : List Rat} (h : P.getD 0 0 = 1) : zFf P S 1 = S.getD 0 0 := by
 show (0 : Rat) + P.getD 0 0 * S.getD 0 0 = _
 rw [h, Rat.zero_add, Rat.one_mul]
theorem zLO (t : zQ) (p : Int) (o : zAI) : (zGM t p o).length = (zY t p).length := by
 unfold zGM; rw [zI1, List.length_replicate]
/-- ReplyGets -/
theorem zJs {t : zQ} (hv : Valid t) {p : Int} (hp : zBd t p = true) {o : zAI} (ho : ∀ i, i < t.length → own p (t.getD i node0) = true → o i = none) :
   (if p = 1 then -(zAj t (zEH t p (zGJ t p o) o)) else zAj t (zEH t p (zGJ t p o) o)) = (zBW t p o).2.1.getD 0 0 := by
 rw [← zJR hv hp (zGJ t p o) ho]
 have hC := zI4 hv p o
 have := zQD hv (u := zGJ t p o) (zY t p).length (zY t p).length (zGM t p o) [] (Bnd.top hv p) (by omega) (zLO t p o) (fun y hy => by
   show zA1 _ ((zLV (zBW t p o).2.2 y.1).getD 0).toNat = _
   rw [zLZ hC.nd hy]; rfl)
 rwa [dot_one (zDF hv p _)] at this
end Go.Ax.Rt
namespace Go.Proofs.YtnkealfaldjipaaGreatDoor
open Go.Ax Go.Ax.Bg Go.Ax.Rt Go.RowKit Go.Ax.Idx Go.Ax.Cd
attribute [local irreducible] Ax zBG QOp zV zA0
set_option maxRecDepth 100000
set_option maxHeartbeats 4000000
def zBs (n : TNode) : List AV := [.int .i64 n.kind, .int .i64 n.player, .int .i64 n.info, .ro (.ints .i64 n.next) 0 n.next.length, .ro (.strs n.odds) 0 n.odds.length, .str n.pay]
abbrev zc (t : zQ) : Cells := zC3 node0 6 zBs t
structure ShortN (n : TNode) : Prop where
 next : n.next.length ≤ 9223372036854775807
 odds : n.odds.length ≤ 9223372036854775807
 each : ∀ s ∈ n.odds, s.length ≤ 9223372036854775807
 pay : n.pay.length ≤ 9223372036854775807
structure ShortT (t : zQ) : Prop where
 len : t.length ≤ 9223372036854775807
 node : ∀ n ∈ t, ShortN n
theorem zQk (t : zQ) (i : Nat) (k : Int) (hi : i ≤ 9223372036854775807) (hlen : t.length ≤ 9223372036854775807) : zW Tryz.prog 236 [.int .i64 k, .rp (.box [.int .i64 (i : Nat)]) 0 0, .rp (.box [.ro (zc t) 0 t.length]) 0 0] (.bool (zEi t.length i k)) := by
 refine zV.value0 (zG (P := Tryz.prog) (fn := Tryz.f236) Y Y (by kernel_rfl) Y (fun c hR hfix => ?_)) (fix := fun _ => False) (fun _ h => h) Y Y
 repeat (first | refine zD (zH rfl) ?_ | refine zD (zL rfl) ?_ | refine zC ?_ | refine zA ?_ | refine zX ?_ | refine zK rfl ?_ | refine zD (zKV rfl rfl) ?_ | refine zD (zAh rfl rfl rfl rfl) ?_)
 refine zAF Y Y (fun h => ?_) (fun h => ?_)
 · refine rn6 ?_
   refine zI hR Y ?_
   unfold zEi
   rw [decide_eq_true h]; rfl
 · repeat (first | refine zD (zH rfl) ?_ | refine zD (zL rfl) ?_ | refine zC ?_ | refine zA ?_ | refine zAL rfl rfl ?_ | refine zAS ?_ | refine zD (zCk rfl rfl) ?_ | refine zD (zAg rfl rfl) ?_ | refine zD (zA9 rfl rfl rfl) ?_ | refine zD (zAh rfl rfl rfl rfl) ?_)
   refine zI hR Y ?_
   unfold zEi
   rw [decide_eq_false h, Bool.false_or]; rfl
theorem boxT1 (t : zQ) : zAC (.box [.ro (zc t) 0 t.length]) := by
 intro i j _ hj
 obtain rfl : j = 0 := by have hj : j < 1 := hj; omega
 rfl
theorem boxIU (n : Int) : zAC (.box [.int .i64 n]) := by
 intro i j _ hj
 obtain rfl : j = 0 := by have hj : j < 1 := hj; omega
 rfl
theorem refl2 {o1 o2 : AObj} (h1 : zAC o1.c) (h2 : zAC o2.c) : ∀ (h : Nat) (o : AObj), ([some o1, some o2] : zZ)[h]? = some (some o) → zAC o.c := by
 intro h o ho
 match h, ho with
 | 0, ho => cases ho; exact h1
 | 1, ho => cases ho; exact h2
 | _ + 2, ho => simp at ho
theorem zM1 (t : zQ) (i : Nat) (hi : i < t.length) (hlen : t.length ≤ 9223372036854775807) (hn : (t.getD i node0).next.length ≤ 9223372036854775807) : zW Tryz.prog 214 [.ro (zc t) 0 t.length, .int .i64 (i : Nat)] (.int .i64 (zGg t.length i (t.getD i node0).next)) := by
 have hc := zLI (t.getD i node0).next 236 [.rp (.box [.int .i64 (i : Nat)]) 0 0, .rp (.box [.ro (zc t) 0 t.length]) 0 0] (zEi t.length i) rfl hn (fun k _ => zQk t i k (by omega) hlen)
 refine zV.value0 (zG (P := Tryz.prog) (fn := Tryz.f214) Y Y (by kernel_rfl) Y (fun c hR hfix => ?_)) (fix := fun _ => False) (fun _ h => h) Y Y
 repeat (first | refine zD (zL rfl) ?_ | refine zC ?_ | refine zA ?_ | refine zX ?_ | refine zK rfl ?_ | refine zD (zBj rfl rfl rfl rfl) ?_ | refine zD (zT rfl rfl rfl rfl rfl) ?_ | refine zD (ze rfl rfl rfl rfl (by first | (simp only [Nat.zero_add, Int.toNat_natCast, Int.toNat_zero]; exact rfl) | exact rfl) (by omega)) ?_ | refine zD (zAo rfl rfl rfl rfl rfl rfl) ?_ | refine zFP rfl rfl ?_)
 refine z7 5 (.ro (.ints .i64 (t.getD i node0).next) 0 (t.getD i node0).next.length) Y (AEq.of_eq Y) ?_
 generalize (t.getD i node0).next = l at *
 unfold zGg at hR
 refine rn4 ?_
 refine zE Y (fun h1 => ?_) (fun h1 => ?_)
 · rw [if_pos (by omega)] at hR
   refine rn6 ?_
   exact zI hR Y Y
 rw [if_neg (by omega)] at hR
 refine rn6 ?_
 refine zE Y (fun h2 => ?_) (fun h2 => ?_)
 · rw [if_pos (by omega)] at hR
   refine rn6 ?_
   exact zI hR Y Y
 rw [if_neg (by omega)] at hR
 repeat (first | refine zD (zH rfl) ?_ | refine zX ?_ | refine zK rfl ?_ | refine zD (zGv rfl) ?_)
 refine zGU rfl rfl rfl rfl hc (refl2 (o1 := ⟨22, .box [.ro (zc t) 0 t.length]⟩) (o2 := ⟨3, .box [.int .i64 (i : Nat)]⟩) (boxT1 _) (boxIU _)) ⟨trivial, ⟨fun o ho => by simp at ho; subst ho; exact Nat.zero_lt_one, fun o ho => by simp at ho; subst ho; exact Nat.zero_lt_one, trivial⟩, trivial⟩ rfl rfl rfl ?_
 generalize l.any (zEi t.length i) = b at *
 cases b
 · rw [if_neg (by decide)] at hR
   refine rn5 ?_
   exact zI hR Y Y
 · rw [if_pos rfl] at hR
   refine rn6 ?_
   exact zI hR Y Y
theorem node_ok (t : zQ) (i : Nat) (hi : i < t.length) (hlen : t.length ≤ 9223372036854775807) (hs : ShortN (t.getD i node0)) : zW Tryz.prog 180 [.ro (zc t) 0 t.length, .int .i64 (i : Nat)] (.int .i64 (zEI t.length i (t.getD i node0))) := by
 have cc := zM1 t i hi hlen hs.next
 have cp := zL3 (t.getD i node0).pay hs.pay
 have co := zL9 (t.getD i node0).odds hs.odds hs.each
 obtain ⟨s1, s2, s3, s4⟩ := hs
 refine zV.value0 (zG (P := Tryz.prog) (fn := Tryz.f180) Y Y (by kernel_rfl) Y (fun c hR hfix => ?_)) (fix := fun _ => False) (fun _ h => h) Y Y
 refine rn6 ?_
 refine zN 10 (.agg (zBs (t.getD i node0))) Y (AEq.of_eq Y) ?_
 generalize t.getD i node0 = n at *
 obtain ⟨kd, pl, nf, nx, od, py⟩ := n
 simp only at *
 unfold zEI at hR
 refine zO (c' := .box [.int .i64 kd, .int .i64 pl, .int .i64 nf, .ro (.ints .i64 nx) 0 nx.length, .ro (.strs od) 0 od.length, .str py]) Y Y Y Y Y Nat.zero_lt_one Y Y (fun i' j' hi' hj' => ?_) ?_
 · rw [if_pos (Nat.lt_one_iff.1 hi')]; rfl
 simp only at hR
 refine rn5 ?_
 refine zE Y (fun h0 => ?_) (fun h0 => ?_)
 · rw [if_pos h0] at hR
   refine rn5 ?_
   refine zAF Y Y (fun g1 => ?_) (fun g1 => ?_)
   · rw [if_pos (.inl g1)] at hR
     refine rn6 ?_
     exact zI hR Y Y
   refine rn5 ?_
   refine zAF Y Y (fun g2 => ?_) (fun g2 => ?_)
   · rw [if_pos (.inr (.inl g2))] at hR
     refine rn6 ?_
     exact zI hR Y Y
   refine rn6 ?_
   refine zAF Y Y (fun g3 => ?_) (fun g3 => ?_)
   · rw [if_pos (.inr (.inr (.inl (by rintro rfl; simp at g3))))] at hR
     refine rn6 ?_
     exact zI hR Y Y
   refine rn6 ?_
   refine zE Y (fun g4 => ?_) (fun g4 => ?_)
   · rw [if_pos (.inr (.inr (.inr (by rintro rfl; simp at g4))))] at hR
     refine rn6 ?_
     exact zI hR Y Y
   rw [if_neg (by
     rintro (q | q | q | q)
     · exact g1 q
     · exact g2 q
     · have := List.length_pos_iff.2 q; omega
     · have := List.length_pos_iff.2 q; omega)] at hR
   refine rn5 ?_
   refine zB Y Y Y cp ?_
   refine rn6 ?_
   exact zI hR Y Y
 rw [if_neg h0] at hR
 refine rn4 ?_
 refine zE Y (fun h1 => ?_) (fun h1 => ?_)
 · rw [if_pos h1] at hR
   refine rn5 ?_
   refine zAF Y Y (fun g1 => ?_) (fun g1 => ?_)
   · rw [if_pos (.inl g1)] at hR
     refine rn6 ?_
     exact zI hR Y Y
   refine rn5 ?_
   refine zAF Y Y (fun g2 => ?_) (fun g2 => ?_)
   · rw [if_pos (.inr (.inl g2))] at hR
     refine rn6 ?_
     exact zI hR Y Y
   repeat (first | refine zC ?_ | refine zA ?_ | refine zAL rfl rfl ?_ | refine zD (zT rfl rfl rfl rfl rfl) ?_ | refine zD (zAg rfl rfl) ?_ | refine zD (zGY rfl rfl) ?_ | refine zD (zP rfl rfl rfl rfl rfl rfl) ?_)
   refine zE Y (fun g3 => ?_) (fun g3 => ?_)
   · rw [if_pos (.inr (.inr g3))] at hR
     refine rn6 ?_
     exact zI hR Y Y
   rw [if_neg (by
     rintro (q | q | q)
     · exact g1 q
     · exact g2 q
     · exact g3 q)] at hR
   refine rn1 ?_
   refine zB Y Y Y cc ?_
   refine rn3 ?_
   refine zE Y (fun h3 => ?_) (fun h3 => ?_)
   · rw [if_pos h3] at hR
     refine rn6 ?_
     exact zI hR Y Y
   rw [if_neg h3] at hR
   refine rn5 ?_
   refine zE Y (fun h4 => ?_) (fun h4 => ?_)
   · rw [if_pos (by omega)] at hR
     refine rn6 ?_
     exact zI hR Y Y
   rw [if_neg (by omega)] at hR
   refine rn5 ?_
   refine zB Y Y Y co ?_
   refine rn6 ?_
   exact zI hR Y Y
 rw [if_neg h1] at hR
 refine rn4 ?_
 refine zE Y (fun h2 => ?_) (fun h2 => ?_)
 · rw [if_pos h2] at hR
   refine rn6 ?_
   refine zAF Y Y (fun g1 => ?_) (fun g1 => ?_)
   · rw [if_pos (.inl (by rintro rfl; simp at g1))] at hR
     refine rn6 ?_
     exact zI hR Y Y
   repeat (first | refine zC ?_ | refine zA ?_ | refine zAL rfl rfl ?_ | refine zD (zT rfl rfl rfl rfl rfl) ?_ | refine zD (zAg rfl rfl) ?_ | refine zD (zGY rfl rfl) ?_ | refine zD (zP rfl rfl rfl rfl rfl rfl) ?_)
   refine zE Y (fun g2 => ?_) (fun g2 => ?_)
   · rw [if_pos (.inr g2)] at hR
     refine rn6 ?_
     exact zI hR Y Y
   rw [if_neg (by
     rintro (q | q)
     · have := List.length_pos_iff.2 q; omega
     · exact g2 q)] at hR
   refine rn5 ?_
   refine zAF Y Y (fun g3 => ?_) (fun g3 => ?_)
   · refine rn5 ?_
     refine zAF Y Y (fun g4 => ?_) (fun g4 => ?_)
     · rw [if_pos (.inl ⟨g3, g4⟩)] at hR
       refine rn6 ?_
       exact zI hR Y Y
     refine rn5 ?_
     refine zAF Y Y (fun g5 => ?_) (fun g5 => ?_)
     · rw [if_pos (.inr (.inl g5))] at hR
       refine rn6 ?_
       exact zI hR Y Y
     repeat (first | refine zC ?_ | refine zA ?_ | refine zAL rfl rfl ?_ | refine zD (zT rfl rfl rfl rfl rfl) ?_ | refine zD (zCk rfl rfl) ?_ | refine zD (zAg rfl rfl) ?_ | refine zD (zP rfl rfl rfl rfl rfl rfl) ?_)
     refine zE Y (fun g6 => ?_) (fun g6 => ?_)
     · rw [if_pos (.inr (.inr g6))] at hR
       refine rn6 ?_
       exact zI hR Y Y
     rw [if_neg (by
       rintro (q | q | q)
       · exact g4 q.2
       · exact g5 q
       · exact g6 q)] at hR
     refine rn1 ?_
     refine zB Y Y Y cc ?_
     refine rn6 ?_
     exact zI hR Y Y
   · refine rn6 ?_
     refine zAF Y Y (fun g5 => ?_) (fun g5 => ?_)
     · rw [if_pos (.inr (.inl g5))] at hR
       refine rn6 ?_
       exact zI hR Y Y
     repeat (first | refine zC ?_ | refine zA ?_ | refine zAL rfl rfl ?_ | refine zD (zT rfl rfl rfl rfl rfl) ?_ | refine zD (zCk rfl rfl) ?_ | refine zD (zAg rfl rfl) ?_ | refine zD (zP rfl rfl rfl rfl rfl rfl) ?_)
     refine zE Y (fun g6 => ?_) (fun g6 => ?_)
     · rw [if_pos (.inr (.inr g6))] at hR
       refine rn6 ?_
       exact zI hR Y Y
     rw [if_neg (by
       rintro (q | q | q)
       · exact g3 q.1
       · exact g5 q
       · exact g6 q)] at hR
     refine rn1 ?_
     refine zB Y Y Y cc ?_
     refine rn6 ?_
     exact zI hR Y Y
 · rw [if_neg h2] at hR
   refine rn5 ?_
   exact zI hR Y Y
theorem chk1_ok (n : Int) : zW Tryz.prog 182 [.int .i64 n] (.bool (decide (n ≠ 1))) := by
 refine zV.value0 (zG (P := Tryz.prog) (fn := Tryz.f182) Y Y (by kernel_rfl) Y (fun c hR hfix => ?_)) (fix := fun _ => False) (fun _ h => h) Y Y
 refine rn3 ?_
 exact zI hR Y Y
def zIp (e : Int × Int × Nat) : AV := .agg [.int .i64 e.1, .int .i64 e.2.1]
def lenV (e : Int × Int × Nat) : AV := .int .i64 (e.2.2 : Nat)
abbrev szC (S : KSz) : Cells := .mp (S.map zIp) (S.map lenV)
theorem keysV (S : KSz) : ∀ x ∈ S.map zIp, zDP (.pair .i64) x = true := by
 intro x hx
 obtain ⟨e, _, rfl⟩ := List.mem_map.1 hx
 rfl
theorem set_same {l : List AV} {j : Nat} {v : AV} (h : l[j]? = some v) : l.set j v = l := by
 apply List.ext_getElem?
 intro i
 by_cases e : j = i
 · subst e
   obtain ⟨hj, _⟩ := List.getElem?_eq_some_iff.1 h
   rw [List.getElem?_set_self hj, h]
 · rw [List.getElem?_set_ne e]
theorem zCX {α : Type} {n : Nat} {f : α → AV} (hf : ∀ x, zC2 n (f x) = true) : ∀ l : List α, zCD n (l.map f) = true
 | [] => rfl
 | a :: r => by
   show (zC2 n (f a) && zCD n (r.map f)) = true
   rw [hf a, zCX hf r]; rfl
theorem zEj {α : Type} {f : α → AV} (hf : ∀ x, noRef (f x) = true) : ∀ l : List α, noRef.noRefs (l.map f) = true
 | [] => rfl
 | a :: r => by
   show (noRef (f a) && noRef.noRefs (r.map f)) = true
   rw [hf a, zEj hf r]; rfl
theorem zBw {n : Nat} {t : TypeId} {c : Cells} (hc : zA2 n c) : ∀ (h : Nat) (o : AObj), ([some ⟨t, c⟩] : zZ)[h]? = some (some o) → zA2 n o.c := by
 intro h o ho
 match h, ho with
 | 0, ho => cases ho; exact hc
 | _ + 1, ho => simp at ho
theorem zK3 (S : KSz) (n : Nat) : zA2 n (szC S) := ⟨zCX (fun _ => rfl) S, zCX (fun _ => rfl) S⟩
theorem zL1 (t : zQ) (hT : ShortT t) : zW Tryz.prog 126 [.ro (zc t) 0 t.length] (.int .i64 (zEz t)) := by
 have hlen := hT.len
 refine zV.value0 (zG (P := Tryz.prog) (fn := Tryz.f126) Y Y (by kernel_rfl) Y (fun c hR hfix => ?_)) (fix := fun _ => False) (fun _ h => h) Y Y
 unfold zEz at hR
 refine rn6 ?_
 refine zE Y (fun h1 => ?_) (fun h1 => ?_)
 · rw [if_pos (by omega)] at hR
   refine rn2 ?_
   exact zI hR Y Y
 rw [if_neg (by omega)] at hR
 refine rn4 ?_
 refine zE Y (fun h2 => ?_) (fun h2 => ?_)
 · rw [if_pos (by omega)] at hR
   refine rn2 ?_
   exact zI hR Y Y
 rw [if_neg (by omega)] at hR
 have hN : t.length ≤ 120 := by omega
 have hN0 : t.length ≠ 0 := by omega
 refine rn3 ?_
 refine zCB Y Y Y Y Y Y Y Y (by show 0 ≤ _ ∧ _ ≤ _ ∧ (8 : Int) * _ ≤ _ ∧ _; omega) ?_
 refine rn3 ?_
 refine zi (ι := Nat) (fun i => [(0, .ro (zc t) 0 t.length), (3, .sl 0 0 t.length), (23, .ro (zc t) 0 t.length), (24, .int .i64 (t.length : Nat)), (25, .int .i64 (i : Nat))]) (fun i => [some ⟨3, .ints .i64 (zD1 t.length (zEv t i))⟩])
   (fun i => i ≤ t.length ∧ zEV t.length 0 t = zEV t.length i (t.drop i) ∧ (zEv t i).length ≤ 6 * i) (fun i => t.length - i) 0 ⟨⟨rfl, rfl, rfl, rfl, rfl, trivial⟩, by show [some (⟨3, .ints .i64 (List.replicate _ 0)⟩ : AObj)] = [some ⟨3, .ints .i64 (zD1 t.length [])⟩]; rw [cntT_nil]; rfl, Nat.zero_le _, by rw [List.drop_zero], by simp [zEv]⟩ ?_
 rintro i ⟨hi, hE, hF⟩
 refine rn4 ?_
 refine zE Y (fun h3 => ?_) (fun h3 => ?_)
 · have hi' : i < t.length := by omega
   have hmem := zBM node0 hi'
   have cn := node_ok t i hi' hlen (hT.node _ hmem)
   rw [zNQ hi'] at hE
   have hfs := zO0 hi'
   refine rn1 ?_
   refine zB Y Y Y cn ?_
   refine rn3 ?_
   refine zE Y (fun h4 => ?_) (fun h4 => ?_)
   · rw [if_neg h4] at hE
     rw [if_pos (by rw [hE]; exact h4), hE] at hR
     refine rn6 ?_
     exact zI hR Y Y
   rw [if_pos (Classical.not_not.1 h4)] at hE
   obtain ⟨q1, q2⟩ := zKR (Classical.not_not.1 h4)
   have hl9 : (t.getD i node0).next.length ≤ 9223372036854775807 := by omega
   repeat (first | refine zA ?_ | refine zX ?_ | refine zl ?_)
   refine zK Y ?_
   repeat (first | refine zD (zH rfl) ?_ | refine zC ?_ | refine zA ?_ | refine zD (zBj rfl rfl rfl rfl) ?_ | refine zD (zA9 rfl rfl rfl) ?_ | refine zD (ze rfl rfl rfl rfl (by first | (simp only [Nat.zero_add, Int.toNat_natCast, Int.toNat_zero]; exact rfl) | exact rfl) (by omega)) ?_ | refine zD (zAo rfl rfl rfl rfl rfl rfl) ?_)
   refine z7 38 (.ro (.ints .i64 (t.getD i node0).next) 0 (t.getD i node0).next.length) Y (AEq.of_eq Y) ?_
   generalize (t.getD i node0).next = l at *
   repeat (refine zx ?_)
   refine zi (ι := Nat) (fun j => [(0, .ro (zc t) 0 t.length), (3, .sl 0 0 t.length), (23, .ro (zc t) 0 t.length), (24, .int .i64 (t.length : Nat)), (25, .int .i64 (i : Nat)), (38, .ro (.ints .i64 l) 0 l.length), (39, .int .i64 (l.length : Nat)), (40, .int .i64 (j : Nat))]) (fun j => [some ⟨3, .ints .i64 (zD1 t.length (zEv t i ++ l.take j))⟩])
     (fun j => j ≤ l.length) (fun j => l.length - j) 0 ⟨⟨rfl, rfl, rfl, rfl, rfl, rfl, rfl, rfl, trivial⟩, by rw [List.take_zero, List.append_nil], Nat.zero_le _⟩ ?_
   intro j hj
   refine rn4 ?_
   refine zE Y (fun h5 => ?_) (fun h5 => ?_)
   · have hj' : j < l.length := by omega
     obtain ⟨b1, b2⟩ := q1 _ (zAQ 0 hj')
     have hs := zQb (zEv t i ++ l.take j) (x := l.getD j 0) (by omega) b2
     rw [List.append_assoc, ← zDD hj'] at hs
     have hb := cntT_le t.length (zEv t i ++ l.take j) (l.getD j 0).toNat
     have hll : (zEv t i ++ l.take j).length ≤ 6 * i + 6 := by rw [List.length_append, List.length_take]; omega
     have hcl := zEe t.length (zEv t i ++ l.take j)
     have hlt : (l.getD j 0).toNat < (zD1 t.length (zEv t i ++ l.take j)).length := by omega
     generalize zD1 t.length (zEv t i ++ l.take j) = C at *
     repeat (first | refine zD (zH rfl) ?_ | refine zD (zL rfl) ?_ | refine zD (zAi rfl rfl rfl) ?_ | refine zC ?_ | refine zA ?_ | refine zX ?_ | refine zK rfl ?_ | refine zf ?_ | refine zx ?_ | refine zl ?_ | refine zD (zDZ rfl rfl (by omega)) ?_ | refine zD (ze rfl rfl rfl rfl (by first | (simp only [Nat.zero_add, Int.toNat_natCast, Int.toNat_zero]; exact rfl) | exact rfl) (by omega)) ?_ | refine zD (zd rfl rfl rfl rfl rfl (by first | (simp only [Nat.zero_add, Int.toNat_natCast, Int.toNat_zero]; exact rfl) | exact rfl) (by omega)) ?_ | refine zD (zAT rfl rfl rfl rfl (by first | assumption | omega)) ?_ | refine zAp rfl rfl rfl rfl rfl rfl rfl (by first | assumption | (show _ < List.length _; first | assumption | omega)) ?_)
     exact zM ⟨j + 1, by omega, by omega, ⟨Y, Y, Y, Y, Y, Y, Y, Y, trivial⟩, by rw [hs]; rfl⟩
   · have hje : j = l.length := by omega
     subst hje
     rw [List.take_length, ← hfs]
     refine rn5 ?_
     exact zM ⟨i + 1, ⟨by omega, hE, by rw [hfs, List.length_append]; omega⟩, by omega, ⟨Y, Y, Y, Y, Y, trivial⟩, Y⟩
 have hie : i = t.length := by omega
 subst hie
 rw [List.drop_length] at hE
 have hE0 : zEV t.length 0 t = 0 := hE
 rw [if_neg (by rw [hE0]; exact fun q => q rfl)] at hR
 have hfl : zEv t t.length = t.flatMap TNode.next := by unfold zEv; rw [List.take_length]
 rw [hfl]
 have hall := zQa hN0
 rw [← hall] at hR
 have hcl := zEe t.length (t.flatMap TNode.next)
 generalize zD1 t.length (t.flatMap TNode.next) = C at *
 have cc := zLI (C.drop 1) 182 [] (fun n => decide (n ≠ 1)) rfl (by rw [List.length_drop]; omega) (fun n _ => chk1_ok n)
 repeat (first | refine zA ?_ | refine zX ?_ | refine zAm ?_ | refine zr ?_ | refine zq ?_ | refine zAD ?_)
 refine zAV 0 3 t.length [(0, .ro (zc t) 0 t.length)] Y zAW Y (by show t.length ≤ C.length; omega) ⟨Y, trivial⟩ ?_
 refine zAa [] [none] [(0, .ro (zc t) 0 t.length), (3, .ro (.ints .i64 C) 0 t.length)] Y ⟨Y, Y, trivial⟩ (fun h hh => by rw [hfix] at hh; exact absurd hh id) (fun h o ho => by simp at ho) Y ?_
 repeat (first | refine zD (zH rfl) ?_ | refine zK rfl ?_ | refine zD (zKm rfl rfl rfl rfl rfl rfl rfl (by omega)) ?_)
 refine zN 53 (.ro (.ints .i64 (C.drop 1)) 0 (C.drop 1).length) Y (AEq.trans (AEq.drop (k := .i64) (l := C) (i := 1) (n := ((t.length : Int) - 1).toNat)) (AEq.of_eq (by rw [List.length_drop, hcl]; congr 1; omega))) ?_
 refine zB Y Y Y cc ?_
 generalize (C.drop 1).any (fun n => decide (n ≠ 1)) = b at *
 cases b
 case true =>
   rw [if_pos rfl] at hR
   refine rn5 ?_
   exact zI hR Y Y
 rw [if_neg (by decide)] at hR
 refine rn4 ?_
 refine zEg ?_
 refine rn3 ?_
 refine zi (ι := Nat × KSz) (fun x => [(0, .ro (zc t) 0 t.length), (8, .mp 0), (56, .ro (zc t) 0 t.length), (57, .int .i64 (t.length : Nat)), (58, .int .i64 (x.1 : Nat))]) (fun x => [some ⟨262, szC x.2⟩])
   (fun x => x.1 ≤ t.length ∧ KInv (t.take x.1) x.2) (fun x => t.length - x.1) (0, []) ⟨⟨rfl, rfl, rfl, rfl, rfl, trivial⟩, rfl, Nat.zero_le _, KInv.nil⟩ ?_
 rintro ⟨k, S⟩ ⟨hk, hK⟩
 simp only at hk hK
 refine rn4 ?_
 refine zE Y (fun h5 => ?_) (fun h5 => ?_)
 · have hk' : k < t.length := by omega
   have hmem := zBM node0 hk'
   have hsn := hT.node _ hmem
   have htk := zO2 hk'
   have hpre : ∀ a ∈ t.take k, a ∈ t := fun a ha => List.mem_of_mem_take ha
   have hskip := @KInv.skip (t.take k) S (t.getD k node0) hK
   have hhit := fun e => @KInv.hit (t.take k) S (t.getD k node0) e hK
   have hmiss := @KInv.miss (t.take k) S (t.getD k node0) hK
   have hbad := fun e => @KInv.bad (t.take k) t S (t.getD k node0) e hK hpre hmem
   rw [← htk] at hskip hhit hmiss
   obtain ⟨s1, s2, s3, s4⟩ := hsn
   refine rn6 ?_
   refine zN 61 (.agg (zBs (t.getD k node0))) Y (AEq.of_eq Y) ?_
   generalize t.getD k node0 = n at *
   obtain ⟨kd, pl, nf, nx, od, py⟩ := n
   simp only at *
   refine zO (c' := .box [.int .i64 kd, .int .i64 pl, .int .i64 nf, .ro (.ints .i64 nx) 0 nx.length, .ro (.strs od) 0 od.length, .str py]) Y Y Y Y Y Nat.zero_lt_one Y Y (fun i' j' hi' hj' => ?_) ?_
   · rw [if_pos (Nat.lt_one_iff.1 hi')]; rfl
   refine rn5 ?_
   refine zE Y (fun g1 => ?_) (fun g1 => ?_)
   · repeat (first | refine zAm ?_ | refine zr ?_ | refine zq ?_)
     refine zA ?_
     refine zAa [some ⟨262, szC S⟩] [some ⟨40, .box [.int .i64 kd, .int .i64 pl, .int .i64 nf, .ro (.ints .i64 nx) 0 nx.length, .ro (.strs od) 0 od.length, .str py]⟩] [(0, .ro (zc t) 0 t.length), (8, .mp 0), (56, .ro (zc t) 0 t.length), (57, .int .i64 (t.length : Nat)), (58, .int .i64 (k : Nat))] Y ⟨Y, Y, Y, Y, Y, trivial⟩ (fun h hh => by rw [hfix] at hh; exact absurd hh id) (zBw (zK3 S 1)) Y ?_
     refine rn3 ?_
     exact zM ⟨(k + 1, S), ⟨by simp only; omega, hskip g1⟩, by simp only; omega, ⟨Y, Y, Y, Y, Y, trivial⟩, Y⟩
   · have hk2 : kd = 2 := Classical.not_not.1 g1
     repeat (first | refine zA ?_ | refine zX ?_ | refine zK rfl ?_ | refine zl ?_ | refine zD (zT rfl rfl rfl rfl rfl) ?_ | refine zD (zAU rfl rfl rfl rfl rfl rfl) ?_ | refine zD (zP rfl rfl rfl rfl rfl rfl) ?_ | refine zBD rfl rfl rfl ?_)
     refine zN 69 (.agg [.int .i64 pl, .int .i64 nf]) Y (AEq.of_eq Y) ?_
     refine zO (c' := .box [.int .i64 pl, .int .i64 nf]) Y Y Y Y Y Nat.zero_lt_one Y Y (fun i' j' hi' hj' => ?_) ?_
     · rw [if_pos (Nat.lt_one_iff.1 hi')]; rfl
     refine rn6 ?_
     refine zN 72 (zIp (pl, nf, 0)) Y (AEq.of_eq Y) ?_
     by_cases hm : ∃ e ∈ S, e.1 = pl ∧ e.2.1 = nf
     · obtain ⟨e, he, e1, e2⟩ := hm
       obtain ⟨j, hj, hje⟩ := List.getElem_of_mem he
       have i1 : (S.map zIp)[j]? = some (zIp (pl, nf, 0)) := by
         rw [List.getElem?_map, List.getElem?_eq_getElem hj, hje]
         show some (zIp e) = _
         unfold zIp; rw [e1, e2]
       have i2 : (S.map lenV)[j]? = some (.int .i64 (e.2.2 : Nat)) := by
         rw [List.getElem?_map, List.getElem?_eq_getElem hj, hje]; rfl
       refine zD (zBk Y (.pair Y Y Y) Y Y Y Y (keysV S) j i1 i2) ?_
       refine rn5 ?_
       refine zE Y (fun h7 => ?_) (fun h7 => ?_)
       · rw [if_pos (hbad e hk2 he e1 e2 (by omega))] at hR
         refine rn6 ?_
         exact zI hR Y Y
       · have h8 : e.2.2 = nx.length := by omega
         have hset : (S.map lenV).set j (.int .i64 (nx.length : Nat)) = S.map lenV := set_same (by rw [i2, h8])
         refine rn6 ?_
         refine zN 85 (zIp (pl, nf, 0)) Y (AEq.of_eq Y) ?_
         refine zLB Y (.pair Y Y Y) Y Y Y Y Y (keysV S) j i1 ?_
         refine zAd [some ⟨262, szC (S)⟩, some ⟨40, .box [.int .i64 kd, .int .i64 pl, .int .i64 nf, .ro (.ints .i64 nx) 0 nx.length, .ro (.strs od) 0 od.length, .str py]⟩, some ⟨208, .box [.int .i64 pl, .int .i64 nf]⟩] (by rw [← hset]; rw [hset]; exact (congrArg (fun l => [some (⟨262, .mp (S.map zIp) l⟩ : AObj), some ⟨40, .box [.int .i64 kd, .int .i64 pl, .int .i64 nf, .ro (.ints .i64 nx) 0 nx.length, .ro (.strs od) 0 od.length, .str py]⟩, some ⟨208, .box [.int .i64 pl, .int .i64 nf]⟩]) hset)) ?_
         repeat (first | refine zC ?_ | refine zf ?_)
         refine zA ?_
         refine zAa [some ⟨262, szC (S)⟩] [some ⟨40, .box [.int .i64 kd, .int .i64 pl, .int .i64 nf, .ro (.ints .i64 nx) 0 nx.length, .ro (.strs od) 0 od.length, .str py]⟩, some ⟨208, .box [.int .i64 pl, .int .i64 nf]⟩] [(0, .ro (zc t) 0 t.length), (8, .mp 0), (56, .ro (zc t) 0 t.length), (57, .int .i64 (t.length : Nat)), (58, .int .i64 (k : Nat))] Y ⟨Y, Y, Y, Y, Y, trivial⟩ (fun h hh => by rw [hfix] at hh; exact absurd hh id) (zBw (zK3 _ 1)) Y ?_
         refine rn3 ?_
         exact zM ⟨(k + 1, S), ⟨by simp only; omega, hhit e he e1 e2 h8⟩, by simp only; omega, ⟨Y, Y, Y, Y, Y, trivial⟩, Y⟩
     · have hnew : zIp (pl, nf, 0) ∉ S.map zIp := by
         intro q
         obtain ⟨e, he, ee⟩ := List.mem_map.1 q
         simp only [zIp, AV.agg.injEq, List.cons.injEq, AV.int.injEq, true_and, and_true] at ee
         exact hm ⟨e, he, ee.1, ee.2⟩
       refine zD (zFF Y (.pair Y Y Y) Y Y Y Y Y Y Y Y (keysV S) hnew) ?_
       refine rn6 ?_
       refine zN 85 (zIp (pl, nf, 0)) Y (AEq.of_eq Y) ?_
       refine zCq Y (.pair Y Y Y) Y Y Y Y Y (keysV S) hnew ?_
       refine zAd [some ⟨262, szC (S ++ [(pl, nf, nx.length)])⟩, some ⟨40, .box [.int .i64 kd, .int .i64 pl, .int .i64 nf, .ro (.ints .i64 nx) 0 nx.length, .ro (.strs od) 0 od.length, .str py]⟩, some ⟨208, .box [.int .i64 pl, .int .i64 nf]⟩] (by unfold szC; rw [List.map_append, List.map_append]; rfl) ?_
       repeat (first | refine zC ?_ | refine zf ?_)
       refine zA ?_
       refine zAa [some ⟨262, szC (S ++ [(pl, nf, nx.length)])⟩] [some ⟨40, .box [.int .i64 kd, .int .i64 pl, .int .i64 nf, .ro (.ints .i64 nx) 0 nx.length, .ro (.strs od) 0 od.length, .str py]⟩, some ⟨208, .box [.int .i64 pl, .int .i64 nf]⟩] [(0, .ro (zc t) 0 t.length), (8, .mp 0), (56, .ro (zc t) 0 t.length), (57, .int .i64 (t.length : Nat)), (58, .int .i64 (k : Nat))] Y ⟨Y, Y, Y, Y, Y, trivial⟩ (fun h hh => by rw [hfix] at hh; exact absurd hh id) (zBw (zK3 _ 1)) Y ?_
       refine rn3 ?_
       exact zM ⟨(k + 1, S ++ [(pl, nf, nx.length)]), ⟨by simp only; omega, hmiss hk2 (fun e he q => hm ⟨e, he, q⟩)⟩, by simp only; omega, ⟨Y, Y, Y, Y, Y, trivial⟩, Y⟩
 · have hke : k = t.length := by omega
   subst hke
   rw [List.take_length] at hK
   rw [zNw hK.free, if_neg (by decide)] at hR
   refine rn5 ?_
   exact zI hR Y Y
end Go.Proofs.YtnkealfaldjipaaGreatDoor
namespace Go.Ax.Rt
open Go.Ax.Bg Go.Ax.Idx
theorem zIg {α : Type} (p : α → Bool) : ∀ l : List α, l.any p = true → zDM p l = (l.findIdx p : Nat)
 | [], h => by simp at h
 | x :: r, h => by
   rw [zDM, List.findIdx_cons]
   cases hx : p x
   · have hr : r.any p = true := by simpa [hx] using h
     rw [zIg p r hr]
     simp only [cond_false, Bool.false_eq_true, if_false]
     rw [if_neg (by omega)]
     omega
   · rfl
theorem zRL {α : Type} (p : α → Bool) (l : List α) (h : l.any p = false) : zDM p l = -1 := by
 have := zEt p l
 rw [h, decide_eq_false_iff_not] at this
 exact zNq p l (by omega)
def zBx (t : zQ) (p : Int) (k : Nat) : List Int := ((List.range k).map (fun i : Nat => (i : Int))).filter (fun i => t.any (zBB p i))
def zDd (t : zQ) (p : Int) (k : Nat) : List Int := (zBx t p k).map (fun i => ((zR t p i : Nat) : Int))
theorem zJJ (t : zQ) (p : Int) (k : Nat) : zBx t p (k + 1) = if t.any (zBB p (k : Int)) = true then zBx t p k ++ [(k : Int)] else zBx t p k := by
 unfold zBx
 rw [List.range_succ, List.map_append, List.filter_append]
 split
 · rename_i h; simp [h]
 · rename_i h; simp [h]
theorem zN9 (t : zQ) (p : Int) (k : Nat) : zDd t p (k + 1) = if t.any (zBB p (k : Int)) = true then zDd t p k ++ [((zR t p (k : Int) : Nat) : Int)] else zDd t p k := by
 unfold zDd
 rw [zJJ]
 split
 · simp
 · rfl
theorem zOa (t : zQ) (p : Int) (k : Nat) : (zBx t p k).length ≤ k := by
 unfold zBx
 refine Nat.le_trans (List.length_filter_le _ _) (by simp)
theorem zKF (t : zQ) (p : Int) (k : Nat) : (zDd t p k).length = (zBx t p k).length := by unfold zDd; simp
theorem zPG (t : zQ) (p : Int) : zBx t p 10 = zJ t p := rfl
theorem zPL (t : zQ) (p : Int) : zDd t p 10 = zz t p := rfl
theorem zPM {t : zQ} {p i : Int} (h : t.any (zBB p i) = true) : zJg t p i < t.length := by
 obtain ⟨x, hx, h2⟩ := List.any_eq_true.1 h
 exact List.findIdx_lt_length_of_exists ⟨x, hx, h2⟩
end Go.Ax.Rt
namespace Go.Proofs.YtnkealfaldjipaaGreatDoor
open Go.Ax Go.Ax.Bg Go.Ax.Rt Go.RowKit Go.Ax.Idx Go.Ax.Cd
attribute [local irreducible] Ax zBG QOp zV zA0
set_option maxRecDepth 100000
set_option maxHeartbeats 4000000
theorem zLj (t : zQ) (p : Int) (hT : ShortT t) : zW Tryz.prog 71 [.ro (zc t) 0 t.length, .int .i64 p] (.int .i64 (zAv t p)) := by
 have cc := zL1 t hT
 refine zV.value0 (zG (P := Tryz.prog) (fn := Tryz.f71) Y Y (by kernel_rfl) Y (fun c hR hfix => ?_)) (fix := fun _ => False) (fun _ h => h) Y Y
 unfold zAv at hR
 refine rn0 ?_
 refine zB Y Y Y cc ?_
 refine rn3 ?_
 refine zE Y (fun h1 => ?_) (fun h1 => ?_)
 · rw [if_pos h1] at hR
   refine rn2 ?_
   exact zI hR Y Y
 rw [if_neg h1] at hR
 refine rn3 ?_
 refine zAF Y Y (fun g1 => ?_) (fun g1 => ?_)
 · refine rn3 ?_
   refine zE Y (fun g2 => ?_) (fun g2 => ?_)
   · rw [if_pos ⟨g1, g2⟩] at hR
     refine rn2 ?_
     exact zI hR Y Y
   · rw [if_neg (fun q => g2 q.2)] at hR
     refine rn1 ?_
     exact zI hR Y Y
 · rw [if_neg (fun q => g1 q.1)] at hR
   refine rn6 ?_
   exact zI hR Y Y
theorem zKd (l : zQ) (g : FuncId) (caps : List AV) (p : TNode → Bool) (hc : noRef.noRefs caps = true) (hlen : l.length ≤ 9223372036854775807) (hp : ∀ x ∈ l, zW Tryz.prog g ([.agg (zBs x)] ++ caps) (.bool (p x))) :
   zW Tryz.prog 127 [.ro (zc l) 0 l.length, .fn g caps] (.int .i64 (zDM p l)) := by
 refine zV.value0 (zG (P := Tryz.prog) (fn := Tryz.f127) Y Y (by kernel_rfl) Y (fun c hR hfix => ?_)) (fix := fun _ => False) (fun _ h => h) (by simp [noRef.noRefs, noRef, hc]) Y
 refine rn3 ?_
 refine zi (ι := Nat) (fun k => [(0, .ro (zc l) 0 l.length), (1, .fn g caps), (7, .int .i64 (l.length : Nat)), (8, .int .i64 (k : Nat))]) (fun _ => [])
   (fun k => k ≤ l.length ∧ (l.take k).any p = false) (fun k => l.length - k) 0 ⟨⟨rfl, rfl, rfl, rfl, trivial⟩, rfl, Nat.zero_le _, rfl⟩ ?_
 intro k ⟨hk, hany⟩
 refine rn4 ?_
 refine zE Y (fun h => ?_) (fun h => ?_)
 · have hk' : k < l.length := by omega
   have hanys := zB4 p l node0 k hk'
   refine rn6 ?_
   refine zN 15 (.agg (zBs (l.getD k node0))) Y (AEq.of_eq Y) ?_
   refine zB Y Y Y (hp _ (zBM node0 hk')) ?_
   refine rn0 ?_
   refine zC9 Y (fun h2 => ?_) (fun h2 => ?_)
   · refine rn6 ?_
     refine zI hR Y ?_
     have := zBf p l k hany hk
     rw [zBy l node0 k hk'] at this
     simp only [zDM, h2, if_true] at this
     rw [this]; simp [zBL]
   · refine rn5 ?_
     refine zM ⟨k + 1, ⟨by omega, by rw [hanys, hany, h2]; rfl⟩, by omega, ⟨Y, Y, Y, Y, trivial⟩, Y⟩
 · have hk' : k = l.length := by omega
   subst hk'
   refine rn5 ?_
   refine zI hR Y ?_
   have := zBf p l l.length hany hk
   rw [List.drop_length] at this
   rw [this]; rfl
theorem sets1_ok (n : TNode) (p i : Int) : zW Tryz.prog 138 [.agg (zBs n), .rp (.box [.int .i64 p]) 0 0, .rp (.box [.int .i64 i]) 0 0] (.bool (zBB p i n)) := by
 obtain ⟨kd, pl, nf, nx, od, py⟩ := n
 refine zV.value0 (zG (P := Tryz.prog) (fn := Tryz.f138) Y Y (by kernel_rfl) Y (fun c hR hfix => ?_)) (fix := fun _ => False) (fun _ h => h) Y Y
 unfold zBB own at hR
 unfold zBs
 simp only at hR ⊢
 refine rn6 ?_
 refine zAF Y Y (fun g1 => ?_) (fun g1 => ?_)
 · rw [decide_eq_true g1, Bool.true_and] at hR
   repeat (first | refine zD (zH rfl) ?_ | refine zAL rfl rfl ?_ | refine zD (zT rfl rfl rfl rfl rfl) ?_ | refine zD (zEf rfl rfl) ?_ | refine zD (zAg rfl rfl) ?_ | refine zD (zAh rfl rfl rfl rfl) ?_ | refine zD (zP rfl rfl rfl rfl rfl rfl) ?_)
   refine zAF Y Y (fun g2 => ?_) (fun g2 => ?_)
   · rw [decide_eq_true g2, Bool.true_and] at hR
     repeat (first | refine zD (zL rfl) ?_ | refine zC ?_ | refine zA ?_ | refine zAL rfl rfl ?_ | refine zAS ?_ | refine zD (zT rfl rfl rfl rfl rfl) ?_ | refine zD (zEf rfl rfl) ?_ | refine zD (zAg rfl rfl) ?_ | refine zD (zAh rfl rfl rfl rfl) ?_ | refine zD (zP rfl rfl rfl rfl rfl rfl) ?_)
     exact zI hR Y Y
   · rw [decide_eq_false g2, Bool.false_and] at hR
     refine rn6 ?_
     exact zI hR Y Y
 · rw [decide_eq_false g1, Bool.false_and, Bool.false_and] at hR
   refine rn6 ?_
   exact zI hR Y Y
theorem refl4 {o1 o2 o3 o4 : AObj} (h1 : zAC o1.c) (h2 : zAC o2.c) (h3 : zAC o3.c) (h4 : zAC o4.c) : ∀ (h : Nat) (o : AObj), ([some o1, some o2, some o3, some o4] : zZ)[h]? = some (some o) → zAC o.c := by
 intro h o ho
 match h, ho with
 | 0, ho => cases ho; exact h1
 | 1, ho => cases ho; exact h2
 | 2, ho => cases ho; exact h3
 | 3, ho => cases ho; exact h4
 | _ + 4, ho => simp at ho
theorem below3 {n : Nat} {o1 o2 o3 : AObj} (h1 : zA2 n o1.c) (h2 : zA2 n o2.c) (h3 : zA2 n o3.c) : ∀ (h : Nat) (o : AObj), ([some o1, some o2, some o3] : zZ)[h]? = some (some o) → zA2 n o.c := by
 intro h o ho
 match h, ho with
 | 0, ho => cases ho; exact h1
 | 1, ho => cases ho; exact h2
 | 2, ho => cases ho; exact h3
 | _ + 3, ho => simp at ho
theorem zDC (k : IntKind) (l : List Int) (n : Nat) : zA2 n (.ints k l) := fun _ _ _ _ => rfl
theorem zKu (x : Int) (n : Nat) : zA2 n (.box [.int .i64 x]) := by
 intro i j _ hj
 obtain rfl : j = 0 := by have hj : j < 1 := hj; omega
 rfl
theorem zIJ (t : zQ) (p : Int) (hlen : t.length ≤ 9223372036854775807) : zW Tryz.prog 75 [.ro (zc t) 0 t.length, .int .i64 p] (.tup [.ro (.ints .i64 (zJ t p)) 0 (zJ t p).length, .ro (.ints .i64 (zz t p)) 0 (zz t p).length]) := by
 refine zV.value0 (zG (P := Tryz.prog) (fn := Tryz.f75) Y Y (by kernel_rfl) Y (fun c hR hfix => ?_)) (fix := fun _ => False) (fun _ h => h) Y Y
 rw [← zPG, ← zPL] at hR
 repeat (first | refine zD (zH rfl) ?_ | refine zD (zL rfl) ?_ | refine zC ?_ | refine zA ?_ | refine zX ?_ | refine zK rfl ?_ | refine zFP rfl rfl ?_)
 refine zA4 6 ⟨3, .ints .i64 []⟩ Y Y ?_
 refine zA4 7 ⟨3, .ints .i64 []⟩ Y Y ?_
 repeat (refine zx ?_)
 refine zi (ι := Nat) (fun k => [(0, .ro (zc t) 0 t.length), (3, .ptr 0 0 0), (6, .sl 1 0 (zBx t p k).length), (7, .sl 2 0 (zBx t p k).length), (10, .int .i64 (k : Nat))]) (fun k => [some ⟨3, .box [.int .i64 p]⟩, some ⟨3, .ints .i64 (zBx t p k)⟩, some ⟨3, .ints .i64 (zDd t p k)⟩])
   (fun k => k ≤ 10) (fun k => 10 - k) 0 ⟨⟨rfl, rfl, rfl, rfl, rfl, trivial⟩, rfl, Nat.zero_le _⟩ ?_
 intro k hk
 refine rn4 ?_
 refine zE Y (fun h => ?_) (fun h => ?_)
 · have hk' : k < 10 := by omega
   have ci := zKd t 138 [.rp (.box [.int .i64 p]) 0 0, .rp (.box [.int .i64 (k : Nat)]) 0 0] (zBB p (k : Int)) rfl hlen (fun n _ => sets1_ok n p k)
   have is := zJJ t p k
   have ss := zN9 t p k
   have hll := zOa t p k
   have hsl := zKF t p k
   generalize hI2 : zBx t p (k + 1) = I2 at *
   generalize hS2 : zDd t p (k + 1) = S2 at *
   generalize zBx t p k = I at *
   generalize zDd t p k = S at *
   repeat (first | refine zD (zH rfl) ?_ | refine zC ?_ | refine zA ?_ | refine zX ?_ | refine zK rfl ?_ | refine zx ?_ | refine zl ?_ | refine zD (zGv rfl) ?_ | refine zAp rfl rfl rfl rfl rfl rfl rfl Nat.zero_lt_one ?_ | refine zBD rfl rfl rfl ?_)
   refine zAd [some ⟨3, .box [.int .i64 p]⟩, some ⟨3, .ints .i64 I⟩, some ⟨3, .ints .i64 S⟩, some ⟨3, .box [.int .i64 (k : Nat)]⟩] Y ?_
   refine zN 8 (.ptr 3 0 0) Y (AEq.of_eq Y) ?_
   refine zN 14 (.fn 138 [.ptr 0 0 0, .ptr 3 0 0]) Y (AEq.of_eq Y) ?_
   refine zGU rfl rfl rfl rfl ci (refl4 (o1 := ⟨3, .box [.int .i64 p]⟩) (o2 := ⟨3, .ints .i64 I⟩) (o3 := ⟨3, .ints .i64 S⟩) (o4 := ⟨3, .box [.int .i64 (k : Nat)]⟩) (boxIU _) zAW zAW (boxIU _)) ⟨trivial, ⟨fun o ho => by simp at ho; subst ho; exact Nat.zero_lt_one, fun o ho => by simp at ho; subst ho; exact Nat.zero_lt_one, trivial⟩, trivial⟩ rfl rfl rfl ?_
   cases hany : t.any (zBB p (k : Int))
   · rw [hany, if_neg (by decide)] at is ss
     rw [zRL _ _ hany]
     repeat (first | refine zD (zL rfl) ?_ | refine zC ?_)
     refine zA ?_
     refine zAa [some ⟨3, .box [.int .i64 p]⟩, some ⟨3, .ints .i64 I⟩, some ⟨3, .ints .i64 S⟩] [some ⟨3, .box [.int .i64 (k : Nat)]⟩] [(0, .ro (zc t) 0 t.length), (3, .ptr 0 0 0), (6, .sl 1 0 I.length), (7, .sl 2 0 I.length), (9, .int .i64 (-1)), (10, .int .i64 (k : Nat))] Y ⟨Y, Y, Y, Y, Y, Y, trivial⟩ (fun h hh => by rw [hfix] at hh; exact absurd hh id) (below3 (zKu _ _) (zDC _ _ _) (zDC _ _ _)) Y ?_
     repeat (first | refine zD (zH rfl) ?_ | refine zC ?_ | refine zA ?_ | refine zX ?_ | refine zK rfl ?_ | refine z6 rfl ?_ | refine zf ?_ | refine zl ?_ | refine zD (zCk rfl rfl) ?_ | refine zD (zDZ rfl rfl (by omega)) ?_)
     exact zM ⟨k + 1, by omega, by omega, ⟨Y, Y, by rw [hI2, is]; rfl, by rw [hI2, is]; rfl, Y, trivial⟩, by rw [hI2, hS2, is, ss]⟩
   · rw [hany, if_pos rfl] at is ss
     have hfl := zPM hany
     rw [zIg _ _ hany]
     have hw : zR t p (k : Int) = (t.getD (t.findIdx (zBB p (k : Int))) node0).next.length := rfl
     have hfl : t.findIdx (zBB p (k : Int)) < t.length := hfl
     generalize zR t p (k : Int) = wd at *
     generalize t.findIdx (zBB p (k : Int)) = f at *
     repeat (first | refine zD (zH rfl) ?_ | refine zD (zL rfl) ?_ | refine zC ?_ | refine zA ?_ | refine zX ?_ | refine zK rfl ?_ | refine zAX rfl ?_ | refine zD (zCk rfl rfl) ?_)
     refine zk (by kernel_rfl) ?_
     refine zS 0 Y (by kernel_rfl) (by kernel_rfl) (by kernel_rfl) Y (zH Y) Y ?_
     refine zS 4 Y (by kernel_rfl) (by kernel_rfl) (by kernel_rfl) Y (zH Y) Y ?_
     refine zS 5 Y (by kernel_rfl) (by kernel_rfl) (by kernel_rfl) Y (zH Y) Y ?_
     refine zS 6 Y (by kernel_rfl) (by kernel_rfl) (by kernel_rfl) Y (zH Y) Y ?_
     refine zS 7 Y (by kernel_rfl) (by kernel_rfl) (by kernel_rfl) Y (ze Y Y Y Y (by first | (simp only [Nat.zero_add, Int.toNat_natCast, Int.toNat_zero]; exact Y) | exact Y) (by omega)) Y ?_
     refine zS 8 Y (by kernel_rfl) (by kernel_rfl) (by kernel_rfl) Y (zAo Y Y Y Y Y Y) Y ?_
     apply zCo (H := [some ⟨3, .box [.int .i64 p]⟩, some ⟨3, .ints .i64 (I ++ [(k : Int)])⟩, some ⟨3, .ints .i64 (S ++ [(wd : Int)])⟩, some ⟨3, .box [.int .i64 (k : Nat)]⟩]) [(0, .ro (zc t) 0 t.length), (3, .ptr 0 0 0), (6, .sl 1 0 (I.length + 1)), (7, .sl 2 0 (I.length + 1)), (10, .int .i64 (k : Nat))]
     · intro fin2
       subst hw
       refine zF (is := [1, 9]) (by kernel_rfl) (by simp) Y ⟨fun o ho => ?_, fun o ho => ?_, trivial⟩
       all_goals (cases ho)
       · refine rn4 ?_
         refine zF (is := [2, 9]) (by kernel_rfl) (by simp) Y ⟨fun o ho => ?_, fun o ho => ?_, trivial⟩
         all_goals (cases ho)
         · refine rn3 ?_
           refine zF (is := [3, 9]) (by kernel_rfl) (by simp) Y ⟨fun o ho => ?_, fun o ho => ?_, trivial⟩
           all_goals (cases ho)
           · refine zp Y Y Y Y Y Y Y Y Y Y Y Y (by show 0 + 1 ≤ 1; omega) Y (by show (I.length + 1) * 8 ≤ _ ∧ _; omega) (fun i j _ _ => rfl) (by rw [hfix]; exact fun h => h) ?_
             refine rn1 ?_
             refine zF (is := [9]) (by kernel_rfl) (by simp) Y ⟨fun o ho => ?_, trivial⟩
             all_goals (cases ho)
             refine rn6 ?_
             refine zS 10 Y (by kernel_rfl) (by kernel_rfl) (by kernel_rfl) Y (zA9 Y Y Y) Y ?_
             refine zF (is := [11]) (by kernel_rfl) (by simp) Y ⟨fun o ho => ?_, trivial⟩
             all_goals (cases ho)
             refine rn3 ?_
             refine zF (is := [12]) (by kernel_rfl) (by simp) Y ⟨fun o ho => ?_, trivial⟩
             all_goals (cases ho)
             refine zp Y Y Y Y Y Y Y Y Y hsl Y Y (by show 0 + 1 ≤ 1; omega) Y (by show (I.length + 1) * 8 ≤ _ ∧ _; omega) (fun i j _ _ => rfl) (by rw [hfix]; exact fun h => h) ?_
             refine rn1 ?_
             refine zS 13 Y (by kernel_rfl) (by kernel_rfl) (by kernel_rfl) Y (zL Y) Y ?_
             refine zS 14 Y (by kernel_rfl) (by kernel_rfl) (by kernel_rfl) Y (zL Y) Y ?_
             exact fin2 _ ⟨Y, Y, Y, Y, Y, trivial⟩
           · refine rn6 ?_
             refine zS 10 Y (by kernel_rfl) (by kernel_rfl) (by kernel_rfl) Y (zA9 Y Y Y) Y ?_
             refine zF (is := [3, 11]) (by kernel_rfl) (by simp) Y ⟨fun o ho => ?_, fun o ho => ?_, trivial⟩
             all_goals (cases ho)
             · refine zp Y Y Y Y Y Y Y Y Y Y Y Y (by show 0 + 1 ≤ 1; omega) Y (by show (I.length + 1) * 8 ≤ _ ∧ _; omega) (fun i j _ _ => rfl) (by rw [hfix]; exact fun h => h) ?_
               refine rn1 ?_
               refine zF (is := [11]) (by kernel_rfl) (by simp) Y ⟨fun o ho => ?_, trivial⟩
               all_goals (cases ho)
               refine rn3 ?_
               refine zF (is := [12]) (by kernel_rfl) (by simp) Y ⟨fun o ho => ?_, trivial⟩
               all_goals (cases ho)
               refine zp Y Y Y Y Y Y Y Y Y hsl Y Y (by show 0 + 1 ≤ 1; omega) Y (by show (I.length + 1) * 8 ≤ _ ∧ _; omega) (fun i j _ _ => rfl) (by rw [hfix]; exact fun h => h) ?_
               refine rn1 ?_
               refine zS 13 Y (by kernel_rfl) (by kernel_rfl) (by kernel_rfl) Y (zL Y) Y ?_
               refine zS 14 Y (by kernel_rfl) (by kernel_rfl) (by kernel_rfl) Y (zL Y) Y ?_
               exact fin2 _ ⟨Y, Y, Y, Y, Y, trivial⟩
             · refine rn3 ?_
               refine zF (is := [3]) (by kernel_rfl) (by simp) Y ⟨fun o ho => ?_, trivial⟩
               all_goals (cases ho)
               refine zp Y Y Y Y Y Y Y Y Y Y Y Y (by show 0 + 1 ≤ 1; omega) Y (by show (I.length + 1) * 8 ≤ _ ∧ _; omega) (fun i j _ _ => rfl) (by rw [hfix]; exact fun h => h) ?_
               refine rn1 ?_
               refine zF (is := [12]) (by kernel_rfl) (by simp) Y ⟨fun o ho => ?_, trivial⟩
               all_goals (cases ho)
               refine zp Y Y Y Y Y Y Y Y Y hsl Y Y (by show 0 + 1 ≤ 1; omega) Y (by show (I.length + 1) * 8 ≤ _ ∧ _; omega) (fun i j _ _ => rfl) (by rw [hfix]; exact fun h => h) ?_
               refine rn1 ?_
               refine zS 13 Y (by kernel_rfl) (by kernel_rfl) (by kernel_rfl) Y (zL Y) Y ?_
               refine zS 14 Y (by kernel_rfl) (by kernel_rfl) (by kernel_rfl) Y (zL Y) Y ?_
               exact fin2 _ ⟨Y, Y, Y, Y, Y, trivial⟩
         · refine rn6 ?_
           refine zS 10 Y (by kernel_rfl) (by kernel_rfl) (by kernel_rfl) Y (zA9 Y Y Y) Y ?_
           refine zF (is := [2, 11]) (by kernel_rfl) (by simp) Y ⟨fun o ho => ?_, fun o ho => ?_, trivial⟩
           all_goals (cases ho)
           · refine rn3 ?_
             refine zF (is := [3, 11]) (by kernel_rfl) (by simp) Y ⟨fun o ho => ?_, fun o ho => ?_, trivial⟩
             all_goals (cases ho)
             · refine zp Y Y Y Y Y Y Y Y Y Y Y Y (by show 0 + 1 ≤ 1; omega) Y (by show (I.length + 1) * 8 ≤ _ ∧ _; omega) (fun i j _ _ => rfl) (by rw [hfix]; exact fun h => h) ?_
               refine rn1 ?_
               refine zF (is := [11]) (by kernel_rfl) (by simp) Y ⟨fun o ho => ?_, trivial⟩
               all_goals (cases ho)
               refine rn3 ?_
               refine zF (is := [12]) (by kernel_rfl) (by simp) Y ⟨fun o ho => ?_, trivial⟩
               all_goals (cases ho)
               refine zp Y Y Y Y Y Y Y Y Y hsl Y Y (by show 0 + 1 ≤ 1; omega) Y (by show (I.length + 1) * 8 ≤ _ ∧ _; omega) (fun i j _ _ => rfl) (by rw [hfix]; exact fun h => h) ?_
               refine rn1 ?_
               refine zS 13 Y (by kernel_rfl) (by kernel_rfl) (by kernel_rfl) Y (zL Y) Y ?_
               refine zS 14 Y (by kernel_rfl) (by kernel_rfl) (by kernel_rfl) Y (zL Y) Y ?_
               exact fin2 _ ⟨Y, Y, Y, Y, Y, trivial⟩
             · refine rn3 ?_
               refine zF (is := [3]) (by kernel_rfl) (by simp) Y ⟨fun o ho => ?_, trivial⟩
               all_goals (cases ho)
               refine zp Y Y Y Y Y Y Y Y Y Y Y Y (by show 0 + 1 ≤ 1; omega) Y (by show (I.length + 1) * 8 ≤ _ ∧ _; omega) (fun i j _ _ => rfl) (by rw [hfix]; exact fun h => h) ?_
               refine rn1 ?_
               refine zF (is := [12]) (by kernel_rfl) (by simp) Y ⟨fun o ho => ?_, trivial⟩
               all_goals (cases ho)
               refine zp Y Y Y Y Y Y Y Y Y hsl Y Y (by show 0 + 1 ≤ 1; omega) Y (by show (I.length + 1) * 8 ≤ _ ∧ _; omega) (fun i j _ _ => rfl) (by rw [hfix]; exact fun h => h) ?_
               refine rn1 ?_
               refine zS 13 Y (by kernel_rfl) (by kernel_rfl) (by kernel_rfl) Y (zL Y) Y ?_
               refine zS 14 Y (by kernel_rfl) (by kernel_rfl) (by kernel_rfl) Y (zL Y) Y ?_
               exact fin2 _ ⟨Y, Y, Y, Y, Y, trivial⟩
           · refine rn3 ?_
             refine zF (is := [2]) (by kernel_rfl) (by simp) Y ⟨fun o ho => ?_, trivial⟩
             all_goals (cases ho)
             refine rn3 ?_
             refine zF (is := [3]) (by kernel_rfl) (by simp) Y ⟨fun o ho => ?_, trivial⟩
             all_goals (cases ho)
             refine zp Y Y Y Y Y Y Y Y Y Y Y Y (by show 0 + 1 ≤ 1; omega) Y (by show (I.length + 1) * 8 ≤ _ ∧ _; omega) (fun i j _ _ => rfl) (by rw [hfix]; exact fun h => h) ?_
             refine rn1 ?_
             refine zF (is := [12]) (by kernel_rfl) (by simp) Y ⟨fun o ho => ?_, trivial⟩
             all_goals (cases ho)
             refine zp Y Y Y Y Y Y Y Y Y hsl Y Y (by show 0 + 1 ≤ 1; omega) Y (by show (I.length + 1) * 8 ≤ _ ∧ _; omega) (fun i j _ _ => rfl) (by rw [hfix]; exact fun h => h) ?_
             refine rn1 ?_
             refine zS 13 Y (by kernel_rfl) (by kernel_rfl) (by kernel_rfl) Y (zL Y) Y ?_
             refine zS 14 Y (by kernel_rfl) (by kernel_rfl) (by kernel_rfl) Y (zL Y) Y ?_
             exact fin2 _ ⟨Y, Y, Y, Y, Y, trivial⟩
       · refine rn6 ?_
         refine zS 10 Y (by kernel_rfl) (by kernel_rfl) (by kernel_rfl) Y (zA9 Y Y Y) Y ?_
         refine zF (is := [1, 11]) (by kernel_rfl) (by simp) Y ⟨fun o ho => ?_, fun o ho => ?_, trivial⟩
         all_goals (cases ho)
         · refine rn4 ?_
           refine zF (is := [2, 11]) (by kernel_rfl) (by simp) Y ⟨fun o ho => ?_, fun o ho => ?_, trivial⟩
           all_goals (cases ho)
           · refine rn3 ?_
             refine zF (is := [3, 11]) (by kernel_rfl) (by simp) Y ⟨fun o ho => ?_, fun o ho => ?_, trivial⟩
             all_goals (cases ho)
             · refine zp Y Y Y Y Y Y Y Y Y Y Y Y (by show 0 + 1 ≤ 1; omega) Y (by show (I.length + 1) * 8 ≤ _ ∧ _; omega) (fun i j _ _ => rfl) (by rw [hfix]; exact fun h => h) ?_
               refine rn1 ?_
               refine zF (is := [11]) (by kernel_rfl) (by simp) Y ⟨fun o ho => ?_, trivial⟩
               all_goals (cases ho)
               refine rn3 ?_
               refine zF (is := [12]) (by kernel_rfl) (by simp) Y ⟨fun o ho => ?_, trivial⟩
               all_goals (cases ho)
               refine zp Y Y Y Y Y Y Y Y Y hsl Y Y (by show 0 + 1 ≤ 1; omega) Y (by show (I.length + 1) * 8 ≤ _ ∧ _; omega) (fun i j _ _ => rfl) (by rw [hfix]; exact fun h => h) ?_
               refine rn1 ?_
               refine zS 13 Y (by kernel_rfl) (by kernel_rfl) (by kernel_rfl) Y (zL Y) Y ?_
               refine zS 14 Y (by kernel_rfl) (by kernel_rfl) (by kernel_rfl) Y (zL Y) Y ?_
               exact fin2 _ ⟨Y, Y, Y, Y, Y, trivial⟩
             · refine rn3 ?_
               refine zF (is := [3]) (by kernel_rfl) (by simp) Y ⟨fun o ho => ?_, trivial⟩
               all_goals (cases ho)
               refine zp Y Y Y Y Y Y Y Y Y Y Y Y (by show 0 + 1 ≤ 1; omega) Y (by show (I.length + 1) * 8 ≤ _ ∧ _; omega) (fun i j _ _ => rfl) (by rw [hfix]; exact fun h => h) ?_
               refine rn1 ?_
               refine zF (is := [12]) (by kernel_rfl) (by simp) Y ⟨fun o ho => ?_, trivial⟩
               all_goals (cases ho)
               refine zp Y Y Y Y Y Y Y Y Y hsl Y Y (by show 0 + 1 ≤ 1; omega) Y (by show (I.length + 1) * 8 ≤ _ ∧ _; omega) (fun i j _ _ => rfl) (by rw [hfix]; exact fun h => h) ?_
               refine rn1 ?_
               refine zS 13 Y (by kernel_rfl) (by kernel_rfl) (by kernel_rfl) Y (zL Y) Y ?_
               refine zS 14 Y (by kernel_rfl) (by kernel_rfl) (by kernel_rfl) Y (zL Y) Y ?_
               exact fin2 _ ⟨Y, Y, Y, Y, Y, trivial⟩
           · refine rn3 ?_
             refine zF (is := [2]) (by kernel_rfl) (by simp) Y ⟨fun o ho => ?_, trivial⟩
             all_goals (cases ho)
             refine rn3 ?_
             refine zF (is := [3]) (by kernel_rfl) (by simp) Y ⟨fun o ho => ?_, trivial⟩
             all_goals (cases ho)
             refine zp Y Y Y Y Y Y Y Y Y Y Y Y (by show 0 + 1 ≤ 1; omega) Y (by show (I.length + 1) * 8 ≤ _ ∧ _; omega) (fun i j _ _ => rfl) (by rw [hfix]; exact fun h => h) ?_
             refine rn1 ?_
             refine zF (is := [12]) (by kernel_rfl) (by simp) Y ⟨fun o ho => ?_, trivial⟩
             all_goals (cases ho)
             refine zp Y Y Y Y Y Y Y Y Y hsl Y Y (by show 0 + 1 ≤ 1; omega) Y (by show (I.length + 1) * 8 ≤ _ ∧ _; omega) (fun i j _ _ => rfl) (by rw [hfix]; exact fun h => h) ?_
             refine rn1 ?_
             refine zS 13 Y (by kernel_rfl) (by kernel_rfl) (by kernel_rfl) Y (zL Y) Y ?_
             refine zS 14 Y (by kernel_rfl) (by kernel_rfl) (by kernel_rfl) Y (zL Y) Y ?_
             exact fin2 _ ⟨Y, Y, Y, Y, Y, trivial⟩
         · refine rn3 ?_
           refine zF (is := [1]) (by kernel_rfl) (by simp) Y ⟨fun o ho => ?_, trivial⟩
           all_goals (cases ho)
           refine rn4 ?_
           refine zF (is := [2]) (by kernel_rfl) (by simp) Y ⟨fun o ho => ?_, trivial⟩
           all_goals (cases ho)
           refine rn3 ?_
           refine zF (is := [3]) (by kernel_rfl) (by simp) Y ⟨fun o ho => ?_, trivial⟩
           all_goals (cases ho)
           refine zp Y Y Y Y Y Y Y Y Y Y Y Y (by show 0 + 1 ≤ 1; omega) Y (by show (I.length + 1) * 8 ≤ _ ∧ _; omega) (fun i j _ _ => rfl) (by rw [hfix]; exact fun h => h) ?_
           refine rn1 ?_
           refine zF (is := [12]) (by kernel_rfl) (by simp) Y ⟨fun o ho => ?_, trivial⟩
           all_goals (cases ho)
           refine zp Y Y Y Y Y Y Y Y Y hsl Y Y (by show 0 + 1 ≤ 1; omega) Y (by show (I.length + 1) * 8 ≤ _ ∧ _; omega) (fun i j _ _ => rfl) (by rw [hfix]; exact fun h => h) ?_
           refine rn1 ?_
           refine zS 13 Y (by kernel_rfl) (by kernel_rfl) (by kernel_rfl) Y (zL Y) Y ?_
           refine zS 14 Y (by kernel_rfl) (by kernel_rfl) (by kernel_rfl) Y (zL Y) Y ?_
           exact fin2 _ ⟨Y, Y, Y, Y, Y, trivial⟩
     · refine zh (by kernel_rfl) ?_
       repeat (refine zf ?_)
       refine zA ?_
       refine zAa [some ⟨3, .box [.int .i64 p]⟩, some ⟨3, .ints .i64 (I ++ [(k : Int)])⟩, some ⟨3, .ints .i64 (S ++ [(wd : Int)])⟩] [some ⟨3, .box [.int .i64 (k : Nat)]⟩] [(0, .ro (zc t) 0 t.length), (3, .ptr 0 0 0), (6, .sl 1 0 (I.length + 1)), (7, .sl 2 0 (I.length + 1)), (10, .int .i64 (k : Nat))] Y ⟨Y, Y, Y, Y, Y, trivial⟩ (fun h hh => by rw [hfix] at hh; exact absurd hh id) (below3 (zKu _ _) (zDC _ _ _) (zDC _ _ _)) Y ?_
       refine rn3 ?_
       have il : I2.length = I.length + 1 := by rw [is, List.length_append]; rfl
       exact zM ⟨k + 1, by omega, by omega, ⟨Y, Y, by rw [hI2, il]; rfl, by rw [hI2, il]; rfl, Y, trivial⟩, by rw [hI2, hS2, is, ss]⟩
 · have hke10 : k = 10 := by omega
   subst hke10
   have hsl := zKF t p 10
   repeat (first | refine zA ?_ | refine zX ?_ | refine zAm ?_ | refine zr ?_ | refine zq ?_ | refine zAD ?_)
   refine zAV 1 6 (zBx t p 10).length [(7, .sl 2 0 (zBx t p 10).length)] Y zAW Y (by show (zBx t p 10).length ≤ (zBx t p 10).length; exact Nat.le_refl _) ⟨Y, trivial⟩ ?_
   refine zAV 2 7 (zBx t p 10).length [(6, .ro (.ints .i64 (zBx t p 10)) 0 (zBx t p 10).length)] Y zAW Y (by show (zBx t p 10).length ≤ (zDd t p 10).length; omega) ⟨Y, trivial⟩ ?_
   refine z7 7 (.ro (.ints .i64 (zDd t p 10)) 0 (zDd t p 10).length) Y (AEq.of_eq (by rw [hsl])) ?_
   refine rn0 ?_
   exact zI hR Y Y
end Go.Proofs.YtnkealfaldjipaaGreatDoor
namespace Go.Proofs.YtnkealfaldjipaaGreatDoor
open Go.Ax Go.Ax.Bg Go.Ax.Rt Go.RowKit
attribute [local irreducible] Ax zBG QOp zV zA0
set_option maxRecDepth 100000
set_option maxHeartbeats 4000000
def zL4 (r : List Rat) : List AV := [.ro (qsC r) 0 r.length]
abbrev zGL (m : List (List Rat)) : Cells := zC3 [] 1 zL4 m
theorem zNX (r : List Rat) (j h : Nat) (hj : j < 1) : ((zL4 r).getD j .any).forget h = (zL4 r).getD j .any := by
 obtain rfl : j = 0 := by omega
 rfl
theorem zK8 (m : List (List Rat)) : zAC (zGL m) := by
 intro i j _ hj
 obtain rfl : j = 0 := by have hj : j < 1 := hj; omega
 rfl
theorem rowR1 (q : List Rat) (j : Nat) (hj : j < 1) : (zEG 1 1 [.ro (qsC q) 0 q.length]).at 0 j = (zL4 q).getD j .any := by
 obtain rfl : j = 0 := by omega
 rfl
theorem zOv (l : List zBJ) (hlen : l.length ≤ 1000000) (hs : ∀ s ∈ l, s.length ≤ 9223372036854775807 ∧ zDa s = 0) : zW Tryz.prog 104 [.ro (.strs l) 0 l.length] (.ro (qsC (l.map zAM)) 0 (l.map zAM).length) := by
 have := in_ok l hlen hs
 rwa [List.length_map]
theorem zCE {m : Nat} {q : Rat} (h : D (9 * m) q) : Sz m q := by
 have key : ∀ n : Nat, n < 10 ^ (9 * m) → (za n).length ≤ m := fun n hn => by
   refine zAr (Nat.lt_of_lt_of_le hn ?_)
   rw [Nat.pow_mul]
   exact Nat.pow_le_pow_left (by decide) m
 exact ⟨key _ h.1, key _ h.2⟩
theorem zNS (l : List Rat) (hlen : l.length ≤ 1000000) (hs : ∀ q ∈ l, Sz 100000 q) (hall : l.all zBK = true) : zW Tryz.prog 80 [.ro (qsC l) 0 l.length] (.tup [.ro (.strs (l.map zAJ)) 0 (l.map zAJ).length, .int .i64 0]) := by
 have := zO1 l hlen hs hall
 rwa [List.length_map]
def vecP (p : List zBJ × Int) : AV := .tup [.ro (.strs p.1) 0 p.1.length, .int .i64 p.2]
theorem zLS (l : List Rat) (hlen : l.length ≤ 1000000) (hs : ∀ q ∈ l, Sz 100000 q) : ∃ r : AV, zW Tryz.prog 80 [.ro (qsC l) 0 l.length] (.tup [r, .int .i64 (zCA l).2]) ∧ AEq r (.ro (.strs (zCA l).1) 0 (zCA l).1.length) := by
 cases h : l.all zBK
 · refine ⟨.nil, ?_, ?_⟩
   · have := zRN l hlen hs h
     unfold zCA; rw [h]; exact this
   · unfold zCA; rw [h]; exact AEq.nil
 · refine ⟨_, ?_, AEq.rfl'⟩
   have := zNS l hlen hs h
   unfold zCA; rw [h]; exact this
end Go.Proofs.YtnkealfaldjipaaGreatDoor
namespace Go.Proofs.YtnkealfaldjipaaGreatDoor
open Go.Ax Go.Ax.Bg Go.Ax.Rt Go.RowKit Go.Ax.Idx Go.Ax.Cd
attribute [local irreducible] Ax zBG QOp zV zA0
set_option maxRecDepth 100000
set_option maxHeartbeats 4000000
def zHg (x : Int × Int) : List AV := [.int .i64 x.1, .int .i64 x.2]
abbrev zBl (l : zDL) : Cells := zC3 (0, 0) 2 zHg l
theorem zMK (q : Rat) (j : Nat) : noRef ((zu q).getD j .any) = true := by
 match j with
 | 0 => rfl
 | 1 => rfl
 | 2 => rfl
 | n + 3 => rfl
/-- Numbers that may not be there yet. -/
def zBY : Option Rat → List AV
 | some q => zu q
 | none => [.bool false, .nil, .nil]
abbrev zsC (l : List (Option Rat)) : Cells := zC3 none 3 zBY l
theorem zJi (n : Nat) : CEq (zBC n [.bool false, .nil, .nil]) (zsC (List.replicate n none)) := by
 refine ⟨by simp [zC3, Cells.len, zBC], Y, fun i j hi hj => ?_⟩
 have hi : i < n := by simpa [Cells.len, zBC] using hi
 show (zBY ((List.replicate n (none : Option Rat)).getD i none)).getD j .any = _
 rw [z8 none (by simpa using hi), List.getElem_replicate]
 rfl
theorem zCb {α : Type} (d : α) (n : Nat) (e : α → List AV) (zs : List α) (k : Nat) (a : α) (hk : k < zs.length) (i' j' : Nat) (hi' : i' < zs.length) (hj' : j' < n) : (zC3 d n e (zs.set k a)).at i' j' = if i' = k then (e a).getD j' .any else (zC3 d n e zs).at i' j' := by
 show (e ((zs.set k a).getD i' d)).getD j' .any = if i' = k then (e a).getD j' .any else (e (zs.getD i' d)).getD j' .any
 rw [Go.Ax.Dt.getD_set]
 by_cases h : i' = k
 · rw [if_pos h, if_pos ⟨h, hk⟩]
 · rw [if_neg h, if_neg (fun q => h q.1)]
theorem zHU (l : zDL) : zAC (zBl l) := by
 intro i j _ hj
 have hj : j < 2 := hj
 match j, hj with
 | 0, _ => rfl
 | 1, _ => rfl
end Go.Proofs.YtnkealfaldjipaaGreatDoor
namespace Go.Ax
variable [Pins]
open Go.RowKit
def eqIs (P : Program) (e : TypeId) (L M : List AV) : List Nat → Option Bool
 | [] => some true
 | i :: is => match eqIs P e L M is, L[i]?, M[i]? with
   | some r, some x, some y => (sclEq P e x y).map (· && r)
   | _, _, _ => none
theorem zNr {P : Program} {w w' : World} {S : Nat → Prop} {σ : Nat → Option Blk} {L M : List AV} {xs ys : Array Value} {d : Nat} {e : TypeId} (h1 : xs.size = L.length) (h2 : ∀ i, i < L.length → VR w S σ (L.getD i .any) (xs.getD i undef)) (h3 : ys.size = M.length) (h4 : ∀ i, i < M.length → VR w S σ (M.getD i .any) (ys.getD i undef)) :
   ∀ (is : List Nat) (b : Bool), eqIs P e L M is = some b → (Op.eqItems (d + 1) e 1 xs ys is).run P w' = .ok b w'
 | [], b, h => by simp [eqIs] at h; subst h; simp [Op.eqItems]
 | i :: is, b, h => by
   simp only [eqIs] at h
   split at h
   · rename_i r x y hr hL hM
     have ih := zNr (d := d) (w' := w') h1 h2 h3 h4 is r hr
     obtain ⟨v1, e1, r1⟩ := zP2 h1 h2 hL
     obtain ⟨v2, e2, r2⟩ := zP2 h3 h4 hM
     obtain ⟨q, hq, hb⟩ := Option.map_eq_some_iff.1 h
     obtain ⟨hp, hrun⟩ := zRO (w' := w') hq r1 r2 d
     simp only [Op.eqItems, Nat.mul_one]
     simp only [Sem.run_bind, run_part_plain w' hp e1, Result.andThen_ok, run_part_plain w' hp e2, hrun]
     subst hb
     cases q with
     | false => simp
     | true => simpa using ih
   · cases h
section
variable {P : Program} {fn : Func} {c : Ctx} {fr : Fr} {H : zZ} {k : List It} {ind : Bool} {d : Option Nat} {ty : TypeId} {pos : String} {after : Array Edge} {g : Option (Nat × Bool)}
theorem q_arrneq {x y : Operand} {t t' e : TypeId} {n : Nat} {inf : TypeInfo} {L M : List AV} {b : Bool} (hx : ev fr x = some (.agg L)) (hy : ev fr y = some (.agg M)) (ht : P.underlying t = some (.array n e)) (hi : P.info? e = some inf) (hc : P.cellsOf e = 1) (hg : P.eqGuardType P.depth t = false)
   (he : eqIs P e L M (List.range n) = some b) : QOp ind P fn c fr H ⟨d, .binOp .neq t x y t', ty, pos, after, g⟩ (.bool (!b)) := by
 intro w a σ S hr
 have h1 := hr.evAt hx
 have h2 := hr.evAt hy
 generalize hz : a.eval x = z at h1
 generalize hzy : a.eval y = zy at h2
 cases h1 with
 | agg _ _ xs a1 a2 a3 =>
   cases h2 with
   | agg _ _ ys b1 b2 b3 =>
     refine ⟨_, .bool _ _, fun w' _ => ?_⟩
     have hr := zNr (d := 9998) (w' := w') a1 a2 b1 b2 _ b he
     simp only [execOp, hz, hzy, Sem.run_bind, run_eqGuard_agg w' _ _ _ _ _ _ hg, Result.andThen_ok, run_neq_struct, show (10000 : Nat) = 9999 + 1 from rfl, run_equalIn_array w' 9999 _ _ ht hi, hc, hr]
     rfl
end
end Go.Ax
namespace Go.Proofs.YtnkealfaldjipaaGreatDoor
open Go.Ax Go.Ax.Bg Go.Ax.Rt Go.RowKit Go.Ax.Idx Go.Ax.Cd
attribute [local irreducible] Ax zBG QOp zV zA0
set_option maxRecDepth 100000
set_option maxHeartbeats 4000000
theorem equalP (a b : zDL) (hlen : a.length ≤ 9223372036854775807) (hlb : b.length ≤ 9223372036854775807) : zW Tryz.prog 131 [.ro (zBl a) 0 a.length, .ro (zBl b) 0 b.length] (.bool (decide (a = b))) := by
 refine zV.value0 (zG (P := Tryz.prog) (fn := Tryz.f131) Y Y (by kernel_rfl) Y (fun c hR hfix => ?_)) (fix := fun _ => False) (fun _ h => h) Y Y
 refine rn3 ?_
 refine zE Y (fun h => ?_) (fun h => ?_)
 · refine rn2 ?_
   refine zI hR Y ?_
   have : ¬ a = b := by rintro rfl; exact h rfl
   simp [zBL, this]
 have hab : a.length = b.length := by omega
 refine rn3 ?_
 refine zi (ι := Nat) (fun k => [(0, .ro (zBl a) 0 a.length), (1, .ro (zBl b) 0 b.length), (12, .int .i64 (a.length : Nat)), (13, .int .i64 (k : Nat))]) (fun _ => [])
   (fun k => k ≤ a.length ∧ a.take k = b.take k) (fun k => a.length - k) 0 ⟨⟨rfl, rfl, rfl, rfl, trivial⟩, rfl, Nat.zero_le _, rfl⟩ ?_
 intro k ⟨hk, heq⟩
 refine rn4 ?_
 refine zE Y (fun h2 => ?_) (fun h2 => ?_)
 · have hk' : k < a.length := by omega
   have hkb : k < b.length := by omega
   have ha := zAk a (0, 0) k hk'
   have hb := zAk b (0, 0) k hkb
   refine rn1 ?_
   refine zk (by kernel_rfl) ?_
   refine zt (fuel := 0) [0, 1, 2, 3, 4, 5, 6, 7, 8] [(0, .ro (zBl a) 0 a.length), (1, .ro (zBl b) 0 b.length), (5, .int .i64 (k : Nat)), (12, .int .i64 (a.length : Nat)), (13, .int .i64 (k : Nat))] ⟨Y, Y, Y, Y, Y, trivial⟩ (by kernel_rfl) (by decide) Y Y ?_
   refine zU Y Y (zH Y) ?_
   refine zU Y Y (zH Y) ?_
   refine zU Y Y (ze Y Y Y Y (by first | (simp only [Nat.zero_add, Int.toNat_natCast, Int.toNat_zero]; exact Y) | exact Y) (by omega)) ?_
   refine zU Y Y (zBS Y Y Y Y Y Y) ?_
   refine zU Y Y (zH Y) ?_
   refine zU Y Y (zH Y) ?_
   refine zU Y Y (ze Y Y Y Y (by first | (simp only [Nat.zero_add, Int.toNat_natCast, Int.toNat_zero]; exact Y) | exact Y) (by omega)) ?_
   refine zU Y Y (zBS Y Y Y Y Y Y) ?_
   refine zU Y Y (q_arrneq (L := zHg (a.getD k (0, 0))) (M := zHg (b.getD k (0, 0))) (b := decide ((a.getD k (0, 0)).1 = (b.getD k (0, 0)).1) && (decide ((a.getD k (0, 0)).2 = (b.getD k (0, 0)).2) && true)) Y Y Y Y (by kernel_rfl) (by kernel_rfl) Y) ?_
   refine zAZ ?_
   refine zh (by kernel_rfl) ?_
   repeat (refine zA ?_)
   by_cases h3 : a.getD k (0, 0) = b.getD k (0, 0)
   · rw [h3, decide_eq_true rfl, decide_eq_true rfl]
     refine rn5 ?_
     exact zM ⟨k + 1, ⟨by omega, by rw [ha, hb, heq, h3]⟩, by omega, ⟨Y, Y, Y, Y, trivial⟩, Y⟩
   · have h4 : (decide ((a.getD k (0, 0)).1 = (b.getD k (0, 0)).1) && (decide ((a.getD k (0, 0)).2 = (b.getD k (0, 0)).2) && true)) = false := by
       rw [Bool.and_true, ← Bool.not_eq_true, Bool.and_eq_true, decide_eq_true_eq, decide_eq_true_eq]
       rintro ⟨e1, e2⟩
       exact h3 (Prod.ext e1 e2)
     rw [h4]
     refine rn6 ?_
     refine zI hR Y ?_
     have : ¬ a = b := by rintro rfl; exact h3 rfl
     simp [zBL, this]
 · have hk' : k = a.length := by omega
   subst hk'
   rw [List.take_length, hab, List.take_length] at heq
   refine rn5 ?_
   refine zI hR Y ?_
   simp [zBL, heq]
theorem zIG {α : Type} (d : α) (n : Nat) (e : α → List AV) (a b : List α) : CEq (.fn (a.length + b.length) n (fun i j => bif Nat.blt i a.length then (zC3 d n e a).at i j else (zC3 d n e b).at (0 + (i - a.length)) j)) (zC3 d n e (a ++ b)) := by
 refine ⟨by simp [zC3, Cells.len], Y, fun i j hi hj => ?_⟩
 show (e ((a ++ b).getD i d)).getD j .any = bif Nat.blt i a.length then (e (a.getD i d)).getD j .any else (e (b.getD (0 + (i - a.length)) d)).getD j .any
 by_cases h : i < a.length
 · rw [show Nat.blt i a.length = true from Nat.ble_eq_true_of_le h, zG6 d h]; rfl
 · have h2 : Nat.blt i a.length = false := by
     cases e : Nat.blt i a.length with
     | false => rfl
     | true => have : i + 1 ≤ a.length := Nat.le_of_ble_eq_true e
               omega
   rw [h2, Nat.zero_add]
   have : (a ++ b).getD i d = b.getD (i - a.length) d := by
     simp only [List.getD]
     rw [List.getElem?_append_right (by omega)]
   rw [this]; rfl
theorem zIY (l : zDL) (hl : l.length ≤ 1000000) : zJI Tryz.prog 183 [.ro (zBl l) 0 l.length] (fun N => .sl N 0 l.length) ⟨208, zBl l⟩ := by
 refine zV.fresh (K := fun r H => r = .sl 0 0 l.length ∧ H = [some ⟨208, zBl l⟩]) (zG (P := Tryz.prog) (fn := Tryz.f183) Y Y (by kernel_rfl) Y (fun c hR hfix => ?_)) (fix := fun _ => False) (fun _ h => h) Y (fun H => ⟨Y, by simp [zHp, inB]⟩) ?_
 · refine rn0 ?_
   refine zJ5 Y Y Y (fun b hb => ?_)
   refine rn0 ?_
   refine zC9 Y (fun h => ?_) (fun h => ?_)
   · have := hb h
     have hn : l = [] := List.length_eq_zero_iff.mp this
     subst hn
     repeat (first | refine zD (zL rfl) ?_ | refine zC ?_ | refine zA ?_ | refine zX ?_ | refine zK rfl ?_)
     refine zA4 2 ⟨208, zBl []⟩ Y Y ?_
     refine rn2 ?_
     exact zI hR Y ⟨Y, Y⟩
   · refine rn1 ?_
     refine zDs Y Y Y Y Y Y Y Y Y Y ?_
     refine zAs [some ⟨208, zBl []⟩] (zAB.eqv ⟨Y, Y, fun i j hi => absurd hi (Nat.not_lt_zero _)⟩ zAB.nil) ?_
     repeat (refine zD (zH rfl) ?_)
     refine zp Y Y Y Y Y Y Y Y Y Y Y Y (by show 0 + l.length ≤ l.length; omega) Y (by show (0 + l.length) * 16 ≤ _ ∧ _; omega) ?_ (by rw [hfix]; exact fun h => h) ?_
     · intro i' j' hi' hj'
       have q := (zIG (0, 0) 2 zHg [] l).2.2 i' j' hi' hj'
       refine (congrArg (AV.forget 0) q.symm).trans (Eq.trans ?_ q)
       match j', hj' with
       | 0, _ => rfl
       | 1, _ => rfl
     refine zAs [some ⟨208, zBl l⟩] (zAB.eqv (zIG (0, 0) 2 zHg [] l) zAB.nil) ?_
     refine rn0 ?_
     refine zI hR Y ⟨?_, Y⟩
     show AV.sl 0 0 (0 + l.length) = _; rw [Nat.zero_add]
 · rintro r H ⟨rfl, rfl⟩
   refine ⟨?_, fun h o ho => zGX (zHU _) h o ho, 0, Y, fun n => rfl⟩
   intro o ho; simp at ho; subst ho; show 0 + l.length ≤ l.length; omega
def zKo (w : zDL) : List AV := [.ro (zBl w) 0 w.length]
abbrev zCJ (W : List zDL) : Cells := zC3 [] 1 zKo W
theorem zLN {α : Type} (d : α) (e : α → List AV) (l : List α) (x : Nat) (a : α) (v : AV) (hx : x < l.length) (hv : v = (e a).getD 0 .any) : CEq (.fn l.length 1 (fun i' j' => bif Nat.beq i' x && Nat.beq j' 0 then v else (e (l.getD i' d)).getD j' .any)) (zC3 d 1 e (l.set x a)) := by
 refine ⟨by simp [zC3, Cells.len], Y, fun i j hi hj => ?_⟩
 obtain rfl := Nat.lt_one_iff.1 (show j < 1 from hj)
 show (e ((l.set x a).getD i d)).getD 0 .any = bif Nat.beq i x && Nat.beq 0 0 then v else (e (l.getD i d)).getD 0 .any
 rw [Go.Ax.Dt.getD_set]
 by_cases h : i = x
 · subst h
   rw [if_pos ⟨rfl, hx⟩, hv, show Nat.beq i i = true from Nat.beq_refl i]; rfl
 · rw [if_neg (fun q => h q.1), zB5 h]; rfl
theorem zNO {α : Type} {v : Nat → α} {P : α → Prop} : ∀ (l : List Int) (k : Nat) (a : List α), (∀ x ∈ a, P x) → (∀ j, k ≤ j → j < k + l.length → P (v j)) → ∀ x ∈ zAy v l k a, P x
 | [], _, a, h, _ => h
 | c :: r, k, a, h, hv => by
   rw [zAy]
   refine zNO r (k + 1) _ (fun x hx => ?_) (fun j h1 h2 => hv j (by omega) (by simp; omega))
   rcases List.mem_or_eq_of_mem_set hx with q | q
   · exact h x q
   · rw [q]; exact hv k (Nat.le_refl _) (by simp)
theorem zKs {α : Type} {P : α → Prop} {l : List α} {d : α} (h : ∀ x ∈ l, P x) (hd : P d) (i : Nat) : P (l.getD i d) := by
 rcases Nat.lt_or_ge i l.length with q | q
 · exact h _ (zAQ d q)
 · have : l.getD i d = d := by simp [List.getD, q]
   rw [this]; exact hd
theorem wayV_len (p : Int) (n : TNode) (w : zDL) (k : Nat) : (zIn p n w k).length ≤ w.length + 1 := by
 unfold zIn
 split
 · rw [List.length_append]; exact Nat.le_refl _
 · omega
theorem zK5 (t : zQ) (p : Int) : ∀ i, ∀ w ∈ zBZ t p i, w.length ≤ i
 | 0, w, hw => by
   rw [(List.mem_replicate.1 hw).2]; exact Nat.le_refl _
 | i + 1, w, hw => by
   have ih := zK5 t p i
   rw [zBZ, zFj] at hw
   refine zNO (P := fun w : zDL => w.length ≤ i + 1) _ _ _ (fun x hx => Nat.le_succ_of_le (ih x hx)) (fun j _ _ => ?_) w hw
   have h1 := wayV_len p (t.getD i node0) ((zBZ t p i).getD i []) j
   have h2 : ((zBZ t p i).getD i []).length ≤ i := zKs (P := fun w : zDL => w.length ≤ i) ih (Nat.zero_le _) i
   omega
theorem zOm {t : zQ} (hv : Valid t) (p : Int) : ∀ w ∈ zEF t p, w.length ≤ 120 := fun w hw => Nat.le_trans (zK5 t p t.length w hw) hv.le
theorem zMc (W : List zDL) : zAC (zCJ W) := by
 intro i j _ hj
 obtain rfl : j = 0 := by have hj : j < 1 := hj; omega
 rfl
theorem zJ4 (W : List zDL) (n : Nat) : zA2 n (zCJ W) := by
 intro i j _ hj
 obtain rfl : j = 0 := by have hj : j < 1 := hj; omega
 rfl
theorem zK4 {n : Nat} {o1 o2 : AObj} (h1 : zA2 n o1.c) (h2 : zA2 n o2.c) : ∀ (h : Nat) (o : AObj), ([some o1, some o2] : zZ)[h]? = some (some o) → zA2 n o.c := by
 intro h o ho
 match h, ho with
 | 0, ho => cases ho; exact h1
 | 1, ho => cases ho; exact h2
 | _ + 2, ho => simp at ho
theorem zPC (n : Nat) (kd pl nf : Int) (nx : List Int) (od : List zBJ) (py : zBJ) : zA2 n (.box [.int .i64 kd, .int .i64 pl, .int .i64 nf, .ro (.ints .i64 nx) 0 nx.length, .ro (.strs od) 0 od.length, .str py]) := by
 intro i j _ hj
 have hj : j < 6 := hj
 match j, hj with
 | 0, _ => rfl
 | 1, _ => rfl
 | 2, _ => rfl
 | 3, _ => rfl
 | 4, _ => rfl
 | 5, _ => rfl
theorem zMm (W : List zDL) (h : Nat) : CEq ((zCJ W).forget h) (zCJ W) := by
 refine ⟨Y, Y, fun i j _ hj => ?_⟩
 have hj : j < 1 := hj
 match j, hj with
 | 0, _ => rfl
theorem ways_ok (t : zQ) (p : Int) (hT : ShortT t) (hv : Valid t) : zW Tryz.prog 130 [.ro (zc t) 0 t.length, .int .i64 p] (.ro (zCJ (zEF t p)) 0 t.length) := by
 have hlen := hT.len
 have h120 := hv.le
 refine zV.value0 (zG (P := Tryz.prog) (fn := Tryz.f130) Y Y (by kernel_rfl) Y (fun c hR hfix => ?_)) (fix := fun _ => False) (fun _ h => h) Y Y
 refine rn3 ?_
 refine zCB Y Y Y Y Y Y Y Y (by show 0 ≤ _ ∧ _ ≤ _ ∧ (24 : Int) * _ ≤ _ ∧ _; omega) ?_
 refine zMB [some ⟨207, zCJ (zBZ t p 0)⟩] Y (fun h o' ho' => ?_) ?_
 · match h, ho' with
   | 0, ho' =>
     cases ho'
     refine ⟨_, Y, Y, ?_, Y, fun i j hi hj => ?_⟩
     · show (List.replicate t.length ([] : zDL)).length = ((t.length : Nat) : Int).toNat
       rw [List.length_replicate]; omega
     · obtain rfl := Nat.lt_one_iff.1 (show j < 1 from hj)
       have e : (List.replicate t.length ([] : zDL)).getD i [] = [] := by
         simp only [List.getD, List.getElem?_replicate]
         split <;> rfl
       show AEq .nil ((zKo ((List.replicate t.length ([] : zDL)).getD i [])).getD 0 .any)
       rw [e]; exact AEq.nil
   | _ + 1, ho' => simp at ho'
 refine rn3 ?_
 refine zi (ι := Nat) (fun i => [(0, .ro (zc t) 0 t.length), (1, .int .i64 p), (5, .sl 0 0 t.length), (13, .ro (zc t) 0 t.length), (14, .int .i64 (t.length : Nat)), (15, .int .i64 (i : Nat))]) (fun i => [some ⟨207, zCJ (zBZ t p i)⟩])
   (fun i => i ≤ t.length) (fun i => t.length - i) 0 ⟨⟨rfl, rfl, rfl, rfl, rfl, rfl, trivial⟩, rfl, Nat.zero_le _⟩ ?_
 intro i hi
 refine rn4 ?_
 refine zE Y (fun h => ?_) (fun h => ?_)
 · have hi' : i < t.length := by omega
   have hsn := hT.node _ (zBM node0 hi')
   have hbh := hv.behind hi'
   have hWl := zFh t p i
   have hWs := zK5 t p i
   have hnx : zBZ t p (i + 1) = zAy (zIn p (t.getD i node0) ((zBZ t p i).getD i [])) (t.getD i node0).next 0 (zBZ t p i) := by rw [zBZ, zFj]
   generalize hW2 : zBZ t p (i + 1) = W2 at *
   generalize zBZ t p i = W at *
   obtain ⟨s1, s2, s3, s4⟩ := hsn
   refine rn6 ?_
   refine zN 19 (.agg (zBs (t.getD i node0))) Y (AEq.of_eq Y) ?_
   generalize hn : t.getD i node0 = n at *
   have hown : own p n = (decide (n.kind = 2) && decide (n.player = p)) := rfl
   obtain ⟨kd, pl, nf, nx, od, py⟩ := n
   simp only at *
   refine zO (c' := .box [.int .i64 kd, .int .i64 pl, .int .i64 nf, .ro (.ints .i64 nx) 0 nx.length, .ro (.strs od) 0 od.length, .str py]) Y Y Y Y Y Nat.zero_lt_one Y Y (fun i' j' hi' hj' => ?_) ?_
   · rw [if_pos (Nat.lt_one_iff.1 hi')]; rfl
   refine zAd [some ⟨207, zCJ W⟩, some ⟨40, .box [.int .i64 kd, .int .i64 pl, .int .i64 nf, .ro (.ints .i64 nx) 0 nx.length, .ro (.strs od) 0 od.length, .str py]⟩] Y ?_
   generalize hv : zIn p ⟨kd, pl, nf, nx, od, py⟩ (W.getD i []) = v at *
   refine rn5 ?_
   refine zi (ι := Nat) (fun j => [(0, .ro (zc t) 0 t.length), (1, .int .i64 p), (5, .sl 0 0 t.length), (6, .int .i64 (i : Nat)), (7, .ptr 1 0 0), (13, .ro (zc t) 0 t.length), (14, .int .i64 (t.length : Nat)), (15, .int .i64 (i : Nat)), (21, .ro (.ints .i64 nx) 0 nx.length), (22, .int .i64 (nx.length : Nat)), (23, .int .i64 (j : Nat))]) (fun j => [some ⟨207, zCJ (zAy v (nx.take j) 0 W)⟩, some ⟨40, .box [.int .i64 kd, .int .i64 pl, .int .i64 nf, .ro (.ints .i64 nx) 0 nx.length, .ro (.strs od) 0 od.length, .str py]⟩])
     (fun j => j ≤ nx.length) (fun j => nx.length - j) 0 ⟨⟨rfl, rfl, rfl, rfl, rfl, rfl, rfl, rfl, rfl, rfl, rfl, trivial⟩, rfl, Nat.zero_le _⟩ ?_
   intro j hj
   refine rn4 ?_
   refine zE Y (fun h5 => ?_) (fun h5 => ?_)
   · have hj' : j < nx.length := by omega
     obtain ⟨b1, b2⟩ := hbh _ (zAQ 0 hj')
     have hAl : (zAy v (nx.take j) 0 W).length = t.length := by rw [zDQ]; exact hWl
     have hAi : (zAy v (nx.take j) 0 W).getD i [] = W.getD i [] := zBt v [] _ _ _ (fun c hc => by have := hbh c (List.mem_of_mem_take hc); omega)
     have hst : zAy v (nx.take (j + 1)) 0 W = (zAy v (nx.take j) 0 W).set (nx.getD j 0).toNat (v j) := by
       rw [zDD hj', zDh, List.length_take, Nat.min_eq_left hj, Nat.zero_add]
     have hw0 : (W.getD i []).length ≤ i := zKs (P := fun w : zDL => w.length ≤ i) hWs (Nat.zero_le _) i
     have hvj : v j = zIn p ⟨kd, pl, nf, nx, od, py⟩ (W.getD i []) j := by rw [hv]
     unfold zIn at hvj
     rw [hown] at hvj
     simp only at hvj
     generalize hA2 : zAy v (nx.take (j + 1)) 0 W = A2 at *
     generalize zAy v (nx.take j) 0 W = A at *
     generalize W.getD i [] = w0 at *
     obtain ⟨x, hx⟩ := Int.eq_ofNat_of_zero_le (show 0 ≤ nx.getD j 0 by omega)
     rw [hx] at b1 b2 hst
     rw [Int.toNat_natCast] at hst
     have hxl : x < A.length := by omega
     have gi : i < (zCJ A).len := by show i < A.length; omega
     have gx : x < (zCJ A).len := hxl
     have hA1i : (A.set x w0).getD i [] = w0 := by rw [Go.Ax.Dt.getD_set, if_neg (by omega)]; exact hAi
     have hA1l : (A.set x w0).length = t.length := by rw [List.length_set]; exact hAl
     have gi1 : i < (zCJ (A.set x w0)).len := by show i < (A.set x w0).length; omega
     have gx1 : x < (zCJ (A.set x w0)).len := by show x < (A.set x w0).length; omega
     have hw0l : w0.length ≤ 1000000 := by omega
     repeat (first | refine zD (zH rfl) ?_ | refine zD (zL rfl) ?_ | refine zD (zAi rfl rfl rfl) ?_ | refine zC ?_ | refine zA ?_ | refine zX ?_ | refine zK rfl ?_ | refine zx ?_ | refine zl ?_ | refine zD (zT rfl rfl rfl rfl rfl) ?_ | refine zD (zEf rfl rfl) ?_ | refine zD (ze rfl rfl rfl rfl (by first | (simp only [Nat.zero_add, Int.toNat_natCast, Int.toNat_zero]; exact rfl) | exact rfl) (by omega)) ?_ | refine zD (zd rfl rfl rfl rfl rfl (by first | (simp only [Nat.zero_add, Int.toNat_natCast, Int.toNat_zero]; exact rfl) | exact rfl) (by omega)) ?_ | refine zD (zEy rfl rfl rfl rfl rfl (by first | assumption | omega)) ?_ | refine zD (zP rfl rfl rfl rfl rfl rfl) ?_ | refine zAp rfl rfl rfl rfl rfl rfl rfl (by first | assumption | (show _ < List.length _; first | assumption | omega)) ?_)
     refine zN 33 (.ro (zBl w0) 0 w0.length) Y (AEq.of_eq (by rw [← hAi]; rfl)) ?_
     refine zN 29 (.int .i64 (x : Nat)) Y (AEq.of_eq (by rw [hx])) ?_
     refine zN 9 (.int .i64 (x : Nat)) Y (AEq.of_eq (by rw [hx])) ?_
     have hxn : (nx.getD j 0).toNat = x := by rw [hx, Int.toNat_natCast]
     refine zAs [some ⟨207, zCJ (A.set x w0)⟩, some ⟨40, .box [.int .i64 kd, .int .i64 pl, .int .i64 nf, .ro (.ints .i64 nx) 0 nx.length, .ro (.strs od) 0 od.length, .str py]⟩] (by rw [← hxn]; exact zAB.eqv (zLN [] zKo A (nx.getD j 0).toNat w0 _ (by omega) (by rw [← hAi])) (zAB.refl _)) ?_
     refine zAF Y Y (fun g1 => ?_) (fun g1 => ?_)
     · refine rn5 ?_
       refine zE Y (fun g2 => ?_) (fun g2 => ?_)
       · rw [decide_eq_true g1, decide_eq_true g2, Bool.true_and, if_pos rfl] at hvj
         skip
         refine zk (by kernel_rfl) ?_
         apply zCo (H := [some ⟨207, zCJ (A.set x w0)⟩, some ⟨40, .box [.int .i64 kd, .int .i64 pl, .int .i64 nf, .ro (.ints .i64 nx) 0 nx.length, .ro (.strs od) 0 od.length, .str py]⟩, some ⟨208, zBl w0⟩]) [(0, .ro (zc t) 0 t.length), (1, .int .i64 p), (5, .sl 0 0 t.length), (6, .int .i64 (i : Nat)), (7, .ptr 1 0 0), (13, .ro (zc t) 0 t.length), (14, .int .i64 (t.length : Nat)), (15, .int .i64 (i : Nat)), (21, .ro (.ints .i64 nx) 0 nx.length), (22, .int .i64 (nx.length : Nat)), (23, .int .i64 (j : Nat)), (44, .sl 0 0 t.length), (45, .int .i64 (x : Nat)), (50, .sl 2 0 w0.length), (55, .ro (zEG 1 2 [.int .i64 nf, .int .i64 (j : Nat)]) 0 1)]
         · intro fin2
           refine zS 0 Y (by kernel_rfl) (by kernel_rfl) (by kernel_rfl) Y (zH Y) Y ?_
           refine zS 1 Y (by kernel_rfl) (by kernel_rfl) (by kernel_rfl) Y (zH Y) Y ?_
           refine zS 2 Y (by kernel_rfl) (by kernel_rfl) (by kernel_rfl) Y (zH Y) Y ?_
           refine zS 3 Y (by kernel_rfl) (by kernel_rfl) (by kernel_rfl) Y (zH Y) Y ?_
           refine zS 7 Y (by kernel_rfl) (by kernel_rfl) (by kernel_rfl) Y (zP Y Y Y Y Y Y) Y ?_
           refine zS 9 Y (by kernel_rfl) (by kernel_rfl) (by kernel_rfl) Y (zH Y) Y ?_
           refine zS 4 Y (by kernel_rfl) (by kernel_rfl) (by kernel_rfl) Y (zd Y Y Y Y Y (by first | (simp only [Nat.zero_add, Int.toNat_natCast, Int.toNat_zero]; exact Y) | exact Y) (by omega)) Y ?_
           refine zF (is := [5, 8]) (by kernel_rfl) (by simp) Y ⟨fun o ho => ?_, fun o ho => ?_, trivial⟩
           all_goals (cases ho)
           · repeat (first | refine zC ?_ | refine zo ?_ | refine zD (zEy rfl rfl rfl rfl rfl (by first | assumption | omega)) ?_)
             refine zBU 49 (.ro (zBl w0) 0 w0.length) Y (AEq.of_eq (show (zKo ((A.set x w0).getD i [])).getD 0 .any = .ro (zBl w0) 0 w0.length by rw [hA1i]; rfl)) ?_
             refine zF (is := [6, 8]) (by kernel_rfl) (by simp) Y ⟨fun o ho => ?_, fun o ho => ?_, trivial⟩
             all_goals (cases ho)
             · refine zCH Y Y Y (zIY w0 hw0l) ?_
               refine rn1 ?_
               refine zF (is := [8]) (by kernel_rfl) (by simp) Y ⟨fun o ho => ?_, trivial⟩
               all_goals (cases ho)
               refine rn4 ?_
               refine zS 10 Y (by kernel_rfl) (by kernel_rfl) (by kernel_rfl) Y (zAU Y Y Y Y Y Y) Y ?_
               refine zF (is := [11]) (by kernel_rfl) (by simp) Y ⟨fun o ho => ?_, trivial⟩
               all_goals (cases ho)
               refine rn3 ?_
               exact fin2 _ ⟨Y, Y, Y, Y, Y, Y, Y, Y, Y, Y, Y, Y, Y, Y, Y, trivial⟩
             · refine rn4 ?_
               refine zS 10 Y (by kernel_rfl) (by kernel_rfl) (by kernel_rfl) Y (zAU Y Y Y Y Y Y) Y ?_
               refine zF (is := [6, 11]) (by kernel_rfl) (by simp) Y ⟨fun o ho => ?_, fun o ho => ?_, trivial⟩
               all_goals (cases ho)
               · refine zCH Y Y Y (zIY w0 hw0l) ?_
                 refine rn1 ?_
                 refine zF (is := [11]) (by kernel_rfl) (by simp) Y ⟨fun o ho => ?_, trivial⟩
                 all_goals (cases ho)
                 refine rn3 ?_
                 exact fin2 _ ⟨Y, Y, Y, Y, Y, Y, Y, Y, Y, Y, Y, Y, Y, Y, Y, trivial⟩
               · refine rn3 ?_
                 refine zF (is := [6]) (by kernel_rfl) (by simp) Y ⟨fun o ho => ?_, trivial⟩
                 all_goals (cases ho)
                 refine zCH Y Y Y (zIY w0 hw0l) ?_
                 refine rn1 ?_
                 exact fin2 _ ⟨Y, Y, Y, Y, Y, Y, Y, Y, Y, Y, Y, Y, Y, Y, Y, trivial⟩
           · refine rn4 ?_
             refine zS 10 Y (by kernel_rfl) (by kernel_rfl) (by kernel_rfl) Y (zAU Y Y Y Y Y Y) Y ?_
             refine zF (is := [5, 11]) (by kernel_rfl) (by simp) Y ⟨fun o ho => ?_, fun o ho => ?_, trivial⟩
             all_goals (cases ho)
             · repeat (first | refine zC ?_ | refine zo ?_ | refine zD (zEy rfl rfl rfl rfl rfl (by first | assumption | omega)) ?_)
               refine zBU 49 (.ro (zBl w0) 0 w0.length) Y (AEq.of_eq (show (zKo ((A.set x w0).getD i [])).getD 0 .any = .ro (zBl w0) 0 w0.length by rw [hA1i]; rfl)) ?_
               refine zF (is := [6, 11]) (by kernel_rfl) (by simp) Y ⟨fun o ho => ?_, fun o ho => ?_, trivial⟩
               all_goals (cases ho)
               · refine zCH Y Y Y (zIY w0 hw0l) ?_
                 refine rn1 ?_
                 refine zF (is := [11]) (by kernel_rfl) (by simp) Y ⟨fun o ho => ?_, trivial⟩
                 all_goals (cases ho)
                 refine rn3 ?_
                 exact fin2 _ ⟨Y, Y, Y, Y, Y, Y, Y, Y, Y, Y, Y, Y, Y, Y, Y, trivial⟩
               · refine rn3 ?_
                 refine zF (is := [6]) (by kernel_rfl) (by simp) Y ⟨fun o ho => ?_, trivial⟩
                 all_goals (cases ho)
                 refine zCH Y Y Y (zIY w0 hw0l) ?_
                 refine rn1 ?_
                 exact fin2 _ ⟨Y, Y, Y, Y, Y, Y, Y, Y, Y, Y, Y, Y, Y, Y, Y, trivial⟩
             · refine rn3 ?_
               refine zF (is := [5]) (by kernel_rfl) (by simp) Y ⟨fun o ho => ?_, trivial⟩
               all_goals (cases ho)
               repeat (first | refine zC ?_ | refine zo ?_ | refine zD (zEy rfl rfl rfl rfl rfl (by first | assumption | omega)) ?_)
               refine zBU 49 (.ro (zBl w0) 0 w0.length) Y (AEq.of_eq (show (zKo ((A.set x w0).getD i [])).getD 0 .any = .ro (zBl w0) 0 w0.length by rw [hA1i]; rfl)) ?_
               refine zF (is := [6]) (by kernel_rfl) (by simp) Y ⟨fun o ho => ?_, trivial⟩
               all_goals (cases ho)
               refine zCH Y Y Y (zIY w0 hw0l) ?_
               refine rn1 ?_
               exact fin2 _ ⟨Y, Y, Y, Y, Y, Y, Y, Y, Y, Y, Y, Y, Y, Y, Y, trivial⟩
         · refine zF (is := [12]) (by kernel_rfl) (by simp) Y ⟨fun o ho => ?_, trivial⟩
           all_goals (cases ho)
           refine zp Y Y Y Y Y Y Y Y Y Y Y Y (by show 0 + 1 ≤ 1; omega) Y (by show (w0.length + 1) * 16 ≤ _ ∧ _; omega) ?_ (by rw [hfix]; exact fun h => h) ?_
           · intro i' j' hi' hj'
             have q := (zCx (0, 0) 2 zHg w0 (nf, (j : Int)) (zEG 1 2 [.int .i64 nf, .int .i64 (j : Nat)]) (fun j hj => by
               match j, hj with
               | 0, _ => rfl
               | 1, _ => rfl)).2.2 i' j' hi' hj'
             refine (congrArg (AV.forget 2) q.symm).trans (Eq.trans ?_ q)
             match j', hj' with
             | 0, _ => rfl
             | 1, _ => rfl
           refine zAs [some ⟨207, zCJ (A.set x w0)⟩, some ⟨40, .box [.int .i64 kd, .int .i64 pl, .int .i64 nf, .ro (.ints .i64 nx) 0 nx.length, .ro (.strs od) 0 od.length, .str py]⟩, some ⟨208, zBl (w0 ++ [(nf, (j : Int))])⟩] ?_ ?_
           · exact zAB.eqv (zMm (A.set x w0) 2) (zAB.eqv (CEq.refl _) (zAB.eqv (zCx (0, 0) 2 zHg w0 (nf, (j : Int)) (zEG 1 2 [.int .i64 nf, .int .i64 (j : Nat)]) (fun j hj => by
               match j, hj with
               | 0, _ => rfl
               | 1, _ => rfl)) zAB.nil))
           refine zC7 2 56 (w0.length + 1) [(0, .ro (zc t) 0 t.length), (1, .int .i64 p), (5, .sl 0 0 t.length), (6, .int .i64 (i : Nat)), (7, .ptr 1 0 0), (13, .ro (zc t) 0 t.length), (14, .int .i64 (t.length : Nat)), (15, .int .i64 (i : Nat)), (21, .ro (.ints .i64 nx) 0 nx.length), (22, .int .i64 (nx.length : Nat)), (23, .int .i64 (j : Nat)), (44, .sl 0 0 t.length), (45, .int .i64 (x : Nat))] Y (zHU _) Y (by show w0.length + 1 ≤ (w0 ++ [(nf, (j : Int))]).length; rw [List.length_append]; exact Nat.le_refl _) ⟨Y, Y, Y, Y, Y, Y, Y, Y, Y, Y, Y, Y, Y, trivial⟩ ?_
           refine zAd [some ⟨207, zCJ (A.set x w0)⟩, some ⟨40, .box [.int .i64 kd, .int .i64 pl, .int .i64 nf, .ro (.ints .i64 nx) 0 nx.length, .ro (.strs od) 0 od.length, .str py]⟩, none] Y ?_
           have hl9 : (w0 ++ [(nf, (j : Int))]).length = w0.length + 1 := by rw [List.length_append]; rfl
           refine zN 56 (.ro (zBl (w0 ++ [(nf, (j : Int))])) 0 (w0 ++ [(nf, (j : Int))]).length) Y (AEq.of_eq (by rw [hl9])) ?_
           generalize w0 ++ [(nf, (j : Int))] = w1 at *
           refine rn1 ?_
           refine zS 13 Y (by kernel_rfl) (by kernel_rfl) (by kernel_rfl) Y (zd Y Y Y Y Y (by first | (simp only [Nat.zero_add, Int.toNat_natCast, Int.toNat_zero]; exact Y) | exact Y) (by omega)) Y ?_
           refine zF (is := [14]) (by kernel_rfl) (by simp) Y ⟨fun o ho => ?_, trivial⟩
           all_goals (cases ho)
           refine zAp Y Y Y Y Y Y Y gx1 ?_
           refine zAs [some ⟨207, zCJ ((A.set x w0).set x w1)⟩, some ⟨40, .box [.int .i64 kd, .int .i64 pl, .int .i64 nf, .ro (.ints .i64 nx) 0 nx.length, .ro (.strs od) 0 od.length, .str py]⟩, none] (zAB.eqv (zLN [] zKo (A.set x w0) x w1 _ gx1 Y) (zAB.refl _)) ?_
           refine rn1 ?_
           refine zh (by kernel_rfl) ?_
           repeat (refine zf ?_)
           refine zA ?_
           refine zAa [some ⟨207, zCJ ((A.set x w0).set x w1)⟩, some ⟨40, .box [.int .i64 kd, .int .i64 pl, .int .i64 nf, .ro (.ints .i64 nx) 0 nx.length, .ro (.strs od) 0 od.length, .str py]⟩] [none] [(0, .ro (zc t) 0 t.length), (1, .int .i64 p), (5, .sl 0 0 t.length), (6, .int .i64 (i : Nat)), (7, .ptr 1 0 0), (13, .ro (zc t) 0 t.length), (14, .int .i64 (t.length : Nat)), (15, .int .i64 (i : Nat)), (21, .ro (.ints .i64 nx) 0 nx.length), (22, .int .i64 (nx.length : Nat)), (23, .int .i64 (j : Nat))] Y ⟨Y, Y, Y, Y, Y, Y, Y, Y, Y, Y, Y, trivial⟩ (fun h hh => by rw [hfix] at hh; exact absurd hh id) (zK4 (zJ4 _ _) (zPC _ _ _ _ _ _ _)) Y ?_
           refine rn3 ?_
           exact zM ⟨j + 1, by omega, by omega, ⟨Y, Y, Y, Y, Y, Y, Y, Y, Y, Y, Y, trivial⟩, by rw [hA2, hst, hvj, List.set_set]⟩
       · rw [decide_eq_true g1, decide_eq_false g2, if_neg (by decide)] at hvj
         refine rn5 ?_
         exact zM ⟨j + 1, by omega, by omega, ⟨Y, Y, Y, Y, Y, Y, Y, Y, Y, Y, Y, trivial⟩, by rw [hA2, hst, hvj]⟩
     · rw [decide_eq_false g1, Bool.false_and, if_neg (by decide)] at hvj
       refine rn6 ?_
       exact zM ⟨j + 1, by omega, by omega, ⟨Y, Y, Y, Y, Y, Y, Y, Y, Y, Y, Y, trivial⟩, by rw [hA2, hst, hvj]⟩
   · have hje : j = nx.length := by omega
     subst hje
     rw [List.take_length, ← hnx]
     repeat (first | refine zf ?_ | refine zAm ?_ | refine zr ?_ | refine zq ?_ | refine zAD ?_)
     refine zA ?_
     refine zAa [some ⟨207, zCJ W2⟩] [some ⟨40, .box [.int .i64 kd, .int .i64 pl, .int .i64 nf, .ro (.ints .i64 nx) 0 nx.length, .ro (.strs od) 0 od.length, .str py]⟩] [(0, .ro (zc t) 0 t.length), (1, .int .i64 p), (5, .sl 0 0 t.length), (13, .ro (zc t) 0 t.length), (14, .int .i64 (t.length : Nat)), (15, .int .i64 (i : Nat))] Y ⟨Y, Y, Y, Y, Y, Y, trivial⟩ (fun h hh => by rw [hfix] at hh; exact absurd hh id) (zBw (zJ4 _ _)) Y ?_
     refine rn3 ?_
     exact zM ⟨i + 1, by omega, by omega, ⟨Y, Y, Y, Y, Y, Y, trivial⟩, by rw [hW2]⟩
 · have hie : i = t.length := by omega
   subst hie
   repeat (first | refine zA ?_ | refine zX ?_ | refine zAm ?_ | refine zr ?_ | refine zq ?_ | refine zAD ?_)
   refine zAV 0 5 t.length [] Y (zMc _) Y (by show t.length ≤ (zBZ t p t.length).length; rw [zFh]; exact Nat.le_refl _) trivial ?_
   refine rn0 ?_
   exact zI hR Y Y
abbrev zHN (F : List (Int × Nat)) : Cells := .mp (F.map (fun x => .int .i64 x.1)) (F.map (fun x => .int .i64 (x.2 : Nat)))
theorem zI9 (F : List (Int × Nat)) : ∀ x ∈ F.map (fun x : Int × Nat => AV.int .i64 x.1), zDP (.int .i64) x = true := by
 intro x hx
 obtain ⟨e, _, rfl⟩ := List.mem_map.1 hx
 rfl
theorem zDb {m : List (Int × Nat)} {k : Int} {s : Nat} (h : zBb m k = some s) : ∃ j : Nat, (m.map (fun x : Int × Nat => AV.int .i64 x.1))[j]? = some (.int .i64 k) ∧ (m.map (fun x : Int × Nat => AV.int .i64 (x.2 : Nat)))[j]? = some (.int .i64 (s : Nat)) := by
 obtain ⟨j, hj⟩ := List.getElem?_of_mem (zCP h)
 exact ⟨j, by rw [List.getElem?_map, hj]; rfl, by rw [List.getElem?_map, hj]; rfl⟩
theorem zG3 {m : List (Int × Nat)} {k : Int} (h : zBb m k = none) : AV.int .i64 k ∉ m.map (fun x : Int × Nat => AV.int .i64 x.1) := by
 intro hm
 obtain ⟨x, hx, e⟩ := List.mem_map.1 hm
 have := zF5 h
 injection e with e1 e2
 exact this (List.mem_map.2 ⟨x, hx, e2⟩)
theorem zFV (F : List (Int × Nat)) (n : Nat) : zA2 n (zHN F) := ⟨zCX (fun _ => rfl) F, zCX (fun _ => rfl) F⟩
theorem zOo {p : Int} {kd pl nf : Int} {nx : List Int} {od : List zBJ} {py : zBJ} : own p ⟨kd, pl, nf, nx, od, py⟩ = (decide (kd = 2) && decide (pl = p)) := rfl
theorem zLw (t : zQ) (p : Int) (hT : ShortT t) (hv : Valid t) : zW Tryz.prog 72 [.ro (zc t) 0 t.length, .int .i64 p] (.bool (zBd t p)) := by
 have hlen := hT.len
 have h120 := hv.le
 have cw := ways_ok t p hT hv
 have hWl : (zEF t p).length = t.length := zFh t p t.length
 have hWs := zOm hv p
 have hmono : ∀ n i, i ≤ n → zFB t p (zEF t p) i = false → zFB t p (zEF t p) n = false := by
   intro n
   induction n with
   | zero => intro i hi h; obtain rfl : i = 0 := by omega
             exact h
   | succ n ih =>
     intro i hi h
     by_cases e : i = n + 1
     · subst e; exact h
     · rw [zFB, ih i (by omega) h]; rfl
 refine zV.value0 (zG (P := Tryz.prog) (fn := Tryz.f72) Y Y (by kernel_rfl) Y (fun c hR hfix => ?_)) (fix := fun _ => False) (fun _ h => h) Y Y
 have hR : c.R = fun r' _ => r' = .bool (zFB t p (zEF t p) t.length) := hR
 generalize zEF t p = W at *
 refine rn0 ?_
 refine zB Y Y Y cw ?_
 refine rn0 ?_
 refine zEg ?_
 refine rn3 ?_
 refine zi (ι := Nat) (fun i => [(0, .ro (zc t) 0 t.length), (1, .int .i64 p), (5, .ro (zCJ W) 0 t.length), (6, .mp 0), (15, .ro (zc t) 0 t.length), (16, .int .i64 (t.length : Nat)), (17, .int .i64 (i : Nat))]) (fun i => [some ⟨123, zHN (zA6 t p i)⟩])
   (fun i => i ≤ t.length ∧ zFB t p W i = true) (fun i => t.length - i) 0 ⟨⟨rfl, rfl, rfl, rfl, rfl, rfl, rfl, trivial⟩, rfl, Nat.zero_le _, rfl⟩ ?_
 rintro i ⟨hi, hP⟩
 refine rn4 ?_
 refine zE Y (fun h => ?_) (fun h => ?_)
 · have hi' : i < t.length := by omega
   have hfs : zA6 t p (i + 1) = if own p (t.getD i node0) = true ∧ zBb (zA6 t p i) (t.getD i node0).info = none then zA6 t p i ++ [((t.getD i node0).info, i)] else zA6 t p i := rfl
   have hps : zFB t p W (i + 1) = (zFB t p W i && (if own p (t.getD i node0) = true then (match zBb (zA6 t p i) (t.getD i node0).info with | none => true | some k => decide (W.getD i [] = W.getD k [])) else true)) := rfl
   have hff : ∀ x ∈ zA6 t p i, x.2 < i := fun x hx => (zE3 hx).1
   have hno := hmono t.length (i + 1) (by omega)
   rw [hP, Bool.true_and] at hps
   generalize hF2 : zA6 t p (i + 1) = F2 at *
   generalize zA6 t p i = F at *
   generalize hP2 : zFB t p W (i + 1) = P2 at *
   refine rn6 ?_
   refine zN 21 (.agg (zBs (t.getD i node0))) Y (AEq.of_eq Y) ?_
   generalize t.getD i node0 = n at *
   obtain ⟨kd, pl, nf, nx, od, py⟩ := n
   simp only at *
   refine zO (c' := .box [.int .i64 kd, .int .i64 pl, .int .i64 nf, .ro (.ints .i64 nx) 0 nx.length, .ro (.strs od) 0 od.length, .str py]) Y Y Y Y Y Nat.zero_lt_one Y Y (fun i' j' hi' hj' => ?_) ?_
   · rw [if_pos (Nat.lt_one_iff.1 hi')]; rfl
   refine zAd [some ⟨123, zHN F⟩, some ⟨40, .box [.int .i64 kd, .int .i64 pl, .int .i64 nf, .ro (.ints .i64 nx) 0 nx.length, .ro (.strs od) 0 od.length, .str py]⟩] Y ?_
   refine rn5 ?_
   refine zAF Y Y (fun g1 => ?_) (fun g1 => ?_)
   · rw [zOo, decide_eq_false g1, Bool.false_and] at hfs hps
     rw [if_neg (by rintro ⟨q, _⟩; cases q)] at hfs
     rw [if_neg (by decide)] at hps
     repeat (first | refine zC ?_ | refine zAn rfl rfl rfl ?_ | refine zD (zAg rfl rfl) ?_)
     refine zA ?_
     repeat (first | refine zAX rfl ?_ | refine zAm ?_ | refine zr ?_ | refine zq ?_)
     refine zA ?_
     refine zAa [some ⟨123, zHN (F)⟩] [some ⟨40, .box [.int .i64 kd, .int .i64 pl, .int .i64 nf, .ro (.ints .i64 nx) 0 nx.length, .ro (.strs od) 0 od.length, .str py]⟩] [(0, .ro (zc t) 0 t.length), (1, .int .i64 p), (5, .ro (zCJ W) 0 t.length), (6, .mp 0), (15, .ro (zc t) 0 t.length), (16, .int .i64 (t.length : Nat)), (17, .int .i64 (i : Nat))] Y ⟨Y, Y, Y, Y, Y, Y, Y, trivial⟩ (fun h hh => by rw [hfix] at hh; exact absurd hh id) (zBw (zFV _ _)) Y ?_
     refine rn3 ?_
     exact zM ⟨i + 1, ⟨by omega, by rw [hP2, hps]⟩, by omega, ⟨Y, Y, Y, Y, Y, Y, Y, trivial⟩, by rw [hF2, hfs]⟩
   have g1 := Classical.not_not.1 g1
   refine rn5 ?_
   refine zE Y (fun g2 => ?_) (fun g2 => ?_)
   · rw [zOo, decide_eq_true g1, decide_eq_false g2, Bool.true_and] at hfs hps
     rw [if_neg (by rintro ⟨q, _⟩; cases q)] at hfs
     rw [if_neg (by decide)] at hps
     repeat (first | refine zAm ?_ | refine zr ?_ | refine zq ?_)
     refine zA ?_
     refine zAa [some ⟨123, zHN (F)⟩] [some ⟨40, .box [.int .i64 kd, .int .i64 pl, .int .i64 nf, .ro (.ints .i64 nx) 0 nx.length, .ro (.strs od) 0 od.length, .str py]⟩] [(0, .ro (zc t) 0 t.length), (1, .int .i64 p), (5, .ro (zCJ W) 0 t.length), (6, .mp 0), (15, .ro (zc t) 0 t.length), (16, .int .i64 (t.length : Nat)), (17, .int .i64 (i : Nat))] Y ⟨Y, Y, Y, Y, Y, Y, Y, trivial⟩ (fun h hh => by rw [hfix] at hh; exact absurd hh id) (zBw (zFV _ _)) Y ?_
     refine rn3 ?_
     exact zM ⟨i + 1, ⟨by omega, by rw [hP2, hps]⟩, by omega, ⟨Y, Y, Y, Y, Y, Y, Y, trivial⟩, by rw [hF2, hfs]⟩
   have g2 := Classical.not_not.1 g2
   rw [zOo, decide_eq_true g1, decide_eq_true g2, Bool.true_and] at hfs hps
   rw [if_pos rfl] at hps
   refine rn5 ?_
   cases hL : zBb F nf with
   | none =>
     rw [hL, if_pos ⟨rfl, rfl⟩] at hfs
     rw [hL] at hps
     simp only at hps
     refine zD (zFF Y (.int Y) Y Y Y Y Y Y Y Y (zI9 F) (zG3 hL)) ?_
     refine rn5 ?_
     refine zCq Y (.int Y) Y Y Y Y Y (zI9 F) (zG3 hL) ?_
     refine zAd [some ⟨123, zHN (F ++ [(nf, i)])⟩, some ⟨40, .box [.int .i64 kd, .int .i64 pl, .int .i64 nf, .ro (.ints .i64 nx) 0 nx.length, .ro (.strs od) 0 od.length, .str py]⟩] (by unfold zHN; rw [List.map_append, List.map_append]; rfl) ?_
     repeat (refine zC ?_)
     refine zA ?_
     refine zAa [some ⟨123, zHN (F ++ [(nf, i)])⟩] [some ⟨40, .box [.int .i64 kd, .int .i64 pl, .int .i64 nf, .ro (.ints .i64 nx) 0 nx.length, .ro (.strs od) 0 od.length, .str py]⟩] [(0, .ro (zc t) 0 t.length), (1, .int .i64 p), (5, .ro (zCJ W) 0 t.length), (6, .mp 0), (15, .ro (zc t) 0 t.length), (16, .int .i64 (t.length : Nat)), (17, .int .i64 (i : Nat))] Y ⟨Y, Y, Y, Y, Y, Y, Y, trivial⟩ (fun h hh => by rw [hfix] at hh; exact absurd hh id) (zBw (zFV _ _)) Y ?_
     refine rn5 ?_
     exact zM ⟨i + 1, ⟨by omega, by rw [hP2, hps]⟩, by omega, ⟨Y, Y, Y, Y, Y, Y, Y, trivial⟩, by rw [hF2, hfs]⟩
   | some k0 =>
     rw [hL, if_neg (by rintro ⟨_, q⟩; cases q)] at hfs
     rw [hL] at hps
     simp only at hps
     obtain ⟨jj, i1, i2⟩ := zDb hL
     have hk0 := hff _ (zCP hL)
     simp only at hk0
     have hk0' : k0 < t.length := by omega
     have hw0 : ∀ z, (W.getD z []).length ≤ 9223372036854775807 := fun z => zKs (P := fun w : zDL => w.length ≤ 9223372036854775807) (fun w hw => Nat.le_trans (hWs w hw) (by decide)) (Nat.zero_le _) z
     have ceq := equalP (W.getD i []) (W.getD k0 []) (hw0 i) (hw0 k0)
     refine zD (zBk Y (.int Y) Y Y Y Y (zI9 F) jj i1 i2) ?_
     refine rn5 ?_
     refine zk (by kernel_rfl) ?_
     refine zt (fuel := 0) [0, 1, 2, 3, 4, 5, 6, 7, 8, 9] [(0, .ro (zc t) 0 t.length), (1, .int .i64 p), (5, .ro (zCJ W) 0 t.length), (6, .mp 0), (15, .ro (zc t) 0 t.length), (16, .int .i64 (t.length : Nat)), (17, .int .i64 (i : Nat)), (7, .int .i64 (i : Nat)), (8, .ptr 1 0 0), (9, .int .i64 (k0 : Nat))] ⟨Y, Y, Y, Y, Y, Y, Y, Y, Y, Y, trivial⟩ (by kernel_rfl) (by decide) Y Y ?_
     refine zU Y Y (zH Y) ?_
     refine zU Y Y (zH Y) ?_
     refine zU Y Y (ze Y Y Y Y (by first | (simp only [Nat.zero_add, Int.toNat_natCast, Int.toNat_zero]; exact Y) | exact Y) (by omega)) ?_
     refine zU Y Y (zBj Y Y Y Y) ?_
     refine zU Y Y (zH Y) ?_
     refine zU Y Y (zH Y) ?_
     refine zU Y Y (ze Y Y Y Y (by first | (simp only [Nat.zero_add, Int.toNat_natCast, Int.toNat_zero]; exact Y) | exact Y) (by omega)) ?_
     refine zU Y Y (zBj Y Y Y Y) ?_
     refine zBR Y Y Y Y Y ceq ?_
     refine zU Y Y (zDy Y) ?_
     refine zAZ ?_
     refine zh (by kernel_rfl) ?_
     repeat (refine zA ?_)
     by_cases he : W.getD i [] = W.getD k0 []
     · rw [decide_eq_true he] at hps ⊢
       repeat (first | refine z6 rfl ?_ | refine zf ?_ | refine zl ?_)
       refine zA ?_
       refine zAa [some ⟨123, zHN (F)⟩] [some ⟨40, .box [.int .i64 kd, .int .i64 pl, .int .i64 nf, .ro (.ints .i64 nx) 0 nx.length, .ro (.strs od) 0 od.length, .str py]⟩] [(0, .ro (zc t) 0 t.length), (1, .int .i64 p), (5, .ro (zCJ W) 0 t.length), (6, .mp 0), (15, .ro (zc t) 0 t.length), (16, .int .i64 (t.length : Nat)), (17, .int .i64 (i : Nat))] Y ⟨Y, Y, Y, Y, Y, Y, Y, trivial⟩ (fun h hh => by rw [hfix] at hh; exact absurd hh id) (zBw (zFV _ _)) Y ?_
       refine rn3 ?_
       exact zM ⟨i + 1, ⟨by omega, by rw [hP2, hps]⟩, by omega, ⟨Y, Y, Y, Y, Y, Y, Y, trivial⟩, by rw [hF2, hfs]⟩
     · rw [decide_eq_false he] at hps ⊢
       rw [hno hps] at hR
       refine rn6 ?_
       exact zI hR Y Y
 · have hie : i = t.length := by omega
   subst hie
   rw [hP] at hR
   refine rn5 ?_
   exact zI hR Y Y
end Go.Proofs.YtnkealfaldjipaaGreatDoor
