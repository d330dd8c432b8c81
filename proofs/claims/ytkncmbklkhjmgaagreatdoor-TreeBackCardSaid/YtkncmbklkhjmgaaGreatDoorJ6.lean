import Derived.Test.YtkncmbklkhjmgaaGreatDoorJ5
set_option linter.unusedVariables false
set_option linter.unusedSimpArgs false
set_option maxRecDepth 100000
set_option maxHeartbeats 4000000
namespace Go.Proofs.YtkncmbklkhjmgaaGreatDoor
open Go.Ax Go.Ax.Bg Go.Ax.Rt Go.RowKit Go.Ax.Idx Go.Ax.Cd
attribute [local irreducible] Ax zAO QOp zK zAN
def zE0 (t : zm) (p : Int) : (List Int × List Int) × Int := if zFY t p ≠ 0 then (([], []), zFY t p) else ((zEi t p, zGa t p), 0)
theorem infos_ok (t : zm) (p : Int) (hT : ShortT t) : zN Tryz.prog 95 [.ro (zf t) 0 t.length, .int .i64 p] (.tup [.ro (.ints .i64 (zE0 t p).1.1) 0 (zE0 t p).1.1.length, .ro (.ints .i64 (zE0 t p).1.2) 0 (zE0 t p).1.2.length, .int .i64 (zE0 t p).2]) := by
 have cp := zH9 t p hT
 have cs := sets_ok t p hT.len
 refine zK.value0 (zC (P := Tryz.prog) (fn := Tryz.f95) Y Y (by kernel_rfl) Y (fun c hR hfix => ?_)) (fix := fun _ => False) (fun _ h => h) Y Y
 unfold zE0 at hR
 refine rn0 ?_
 refine zA Y Y Y cp ?_
 refine rn3 ?_
 refine zB Y (fun h1 => ?_) (fun h1 => ?_)
 ·rw [if_pos h1] at hR
  refine rn7 ?_
  refine zAS 4 (.ro (.ints .i64 []) 0 0) Y AEq.nil ?_
  refine zAS 5 (.ro (.ints .i64 []) 0 0) Y AEq.nil ?_
  refine rn2 ?_
  exact zE hR Y Y
 rw [if_neg h1] at hR
 refine rn1 ?_
 refine zA Y Y Y cs ?_
 refine rn2 ?_
 exact zE hR Y Y
end Go.Proofs.YtkncmbklkhjmgaaGreatDoor
namespace Go.Proofs.YtkncmbklkhjmgaaGreatDoor
open Go.Ax Go.Ax.Bg Go.Ax.Rt Go.RowKit Go.Ax.Idx Go.Ax.Cd
def cellsC (c : TChoice) : List AV := [.int .i64 c.info, .ro (.strs c.odds) 0 c.odds.length]
theorem rdNode {H : Type} {enc : TypeId × Value → H} {W : World} : Rd enc Tryz.prog W 79 6 ze ShortN :=
 (Rd.struct Tryz.underlying79 (by kernel_rfl) (RdF.cons rfl rfl (Rd.int Tryz.underlying3) (RdF.cons rfl rfl (Rd.int Tryz.underlying3) (RdF.cons rfl rfl (Rd.int Tryz.underlying3) (RdF.cons rfl rfl (Rd.ints Tryz.underlying42 (by kernel_rfl) Tryz.underlying3) (RdF.cons rfl rfl (Rd.strs Tryz.underlying27 (by kernel_rfl) Tryz.underlying26) (RdF.cons rfl rfl (Rd.str Tryz.underlying26) RdF.nil))))))).map
  (fun a => (⟨a.1, a.2.1, a.2.2.1, a.2.2.2.1, a.2.2.2.2.1, a.2.2.2.2.2.1⟩ : TNode)) (fun a h => ⟨h.2.2.2.1.1, h.2.2.2.2.1.1, h.2.2.2.2.1.2, h.2.2.2.2.2.1⟩) (fun a => rfl) (fun a i hi => AEq.rfl')
end Go.Proofs.YtkncmbklkhjmgaaGreatDoor
namespace Go.Proofs.YtkncmbklkhjmgaaGreatDoor
open Go.Ax Go.Ax.Bg Go.Ax.Rt Go.RowKit Go.Ax.Idx Go.Ax.Cd
attribute [local irreducible] Ax zAO QOp zK zAN
end Go.Proofs.YtkncmbklkhjmgaaGreatDoor
namespace Go.Ax.Rt
open Go.Ax.Bg Go.Ax.Dt
def allV : List zc → List Rat → Bool
 | [], [] => true
 | s :: r, q :: t => decide (IsQ s q) && allV r t
 | _, _ => false
theorem zGe : ∀ {s : List zc} {l : List Rat}, allV s l = true → l.map zAM = s ∧ l.all zCJ = true
 | [], [], _ => ⟨rfl, rfl⟩
 | [], _ :: _, h => by cases h
 | _ :: _, [], h => by cases h
 | a :: r, q :: t, h => by
  simp only [allV, Bool.and_eq_true, decide_eq_true_eq] at h
  obtain ⟨h1, h2⟩ := zGe h.2
  refine ⟨by rw [List.map_cons, h.1.text, h1], ?_⟩
  rw [List.all_cons, h.1.fit, h2]; rfl
theorem allV_f {s : List zc} {l : List Rat} (h : allV s l = true) : zBb l = (s, 0) := by
 unfold zBb
 rw [if_pos (zGe h).2, (zGe h).1]
end Go.Ax.Rt
namespace Go.Ax.Rt
open Go.Ax.Bg Go.Ax.Idx
def guessG : zm := [⟨2, 0, 0, [1, 2], [], []⟩, ⟨2, 1, 3, [3, 4], [], []⟩, ⟨2, 1, 3, [5, 6], [], []⟩, ⟨0, 0, 0, [], [], [45, 49]⟩, ⟨0, 0, 0, [], [], [49]⟩, ⟨0, 0, 0, [], [], [49]⟩, ⟨0, 0, 0, [], [], [45, 49]⟩]
end Go.Ax.Rt
namespace Go.Proofs.YtkncmbklkhjmgaaGreatDoor
open Go.Ax Go.Ax.Bg Go.Ax.Rt Go.RowKit Go.Ax.Idx Go.Ax.Cd
attribute [local irreducible] Ax zAO QOp zK zAN
theorem seven {d : Nat} (h : d < 7) : d = 0 ∨ d = 1 ∨ d = 2 ∨ d = 3 ∨ d = 4 ∨ d = 5 ∨ d = 6 := by omega
theorem zGu : zN Tryz.prog 96 [] (.ro (zf guessG) 0 7) := by
 refine zK.value0 (zC (P := Tryz.prog) (fn := Tryz.f96) Y Y (by kernel_rfl) Y (fun c hR hfix => ?_)) (fix := fun _ => False) (fun _ h => h) Y Y
 refine rn15 ?_
 refine zAS 0 (.ro (zf guessG) 0 7) Y (AEq.ro_in Y (fun d j hd hj => ?_)) ?_
 ·have hj : j < 6 := hj
  have hj3 : j = 0 ∨ j = 1 ∨ j = 2 ∨ j = 3 ∨ j = 4 ∨ j = 5 := by omega
  rcases seven hd with rfl | rfl | rfl | rfl | rfl | rfl | rfl <;> rcases hj3 with rfl | rfl | rfl | rfl | rfl | rfl <;> first | exact AEq.rfl' | exact AEq.nil
 repeat (refine zAK ?_)
 exact zE hR Y Y
end Go.Proofs.YtkncmbklkhjmgaaGreatDoor
namespace Go.Ax.Tt
open Go.Ax.Rt Go.Ax.Bg Go.Ax.Cd Go.Ax.Idx Go.Ax.Tb
def noO : zDO := fun _ => none
theorem zK8 : zA6 guessG noO = [1, 1, 1, 1, 1, 1, 1] := by decide +kernel
theorem f_out : zBb [1, 1, 1, 1] = ([[49], [49], [49], [49]], 0) := allV_f (by decide +kernel)
def oneG : zm := [⟨0, 0, 0, [], [], [49, 47, 50]⟩]
theorem f_print : zCS oneG = ([101, 110, 100, 32, 49, 47, 50, 10], 0) := by decide +kernel
/-- chance 1:1/2 2:1/2, end 1, end 3 -/
def textG : zc := [99, 104, 97, 110, 99, 101, 32, 49, 58, 49, 47, 50, 32, 50, 58, 49, 47, 50, 10, 101, 110, 100, 32, 49, 10, 101, 110, 100, 32, 51, 10]
def readG : zm := [⟨1, 0, 0, [1, 2], [[49, 47, 50], [49, 47, 50]], []⟩, ⟨0, 0, 0, [], [], [49]⟩, ⟨0, 0, 0, [], [], [51]⟩]
theorem f_parse : zBD textG = (readG, 0, 0) := by decide +kernel
theorem f_none : zA1 [] = 8 := by decide +kernel
theorem f_player : zFY guessG 2 = 4 := by decide +kernel
end Go.Ax.Tt
namespace Go.Proofs.YtkncmbklkhjmgaaGreatDoor
open Go.Ax Go.RowKit Go.Ax.Rt Go.Ax.Idx Go.Ax.Cd Go.Ax.Tb Go.Ax.Bg Go.Ax.Tt
attribute [local irreducible] Ax zAO QOp zK zAN
theorem zK7 (a b : List (List UInt8)) (hlen : a.length ≤ 9223372036854775807) (hlb : b.length ≤ 9223372036854775807) : zN Tryz.prog 98 [.ro (.strs a) 0 a.length, .ro (.strs b) 0 b.length] (.bool (decide (a = b))) := by
 refine zK.value0 (zC (P := Tryz.prog) (fn := Tryz.f98) Y Y (by kernel_rfl) Y (fun c hR hfix => ?_)) (fix := fun _ => False) (fun _ h => h) Y Y
 refine rn3 ?_
 refine zB Y (fun h => ?_) (fun h => ?_)
 ·refine rn2 ?_
  refine zE hR Y ?_
  have : ¬ a = b := by rintro rfl; exact h rfl
  simp [zAX, this]
 have hab : a.length = b.length := by omega
 refine rn3 ?_
 refine zY (ι := Nat) (fun k => [(0, .ro (.strs a) 0 a.length), (1, .ro (.strs b) 0 b.length), (12, .int .i64 (a.length : Nat)), (13, .int .i64 (k : Nat))]) (fun _ => [])
  (fun k => k ≤ a.length ∧ a.take k = b.take k) (fun k => a.length - k) 0 ⟨⟨rfl, rfl, rfl, rfl, trivial⟩, rfl, Nat.zero_le _, rfl⟩ ?_
 intro k ⟨hk, heq⟩
 refine rn4 ?_
 refine zB Y (fun h2 => ?_) (fun h2 => ?_)
 ·have hk' : k < a.length := by omega
  have ha := zAJ a [] k hk'
  have hb := zAJ b [] k (by omega)
  refine rn1 ?_
  refine zBy (by kernel_rfl) (by kernel_rfl) Y ?_
  refine rn18 ?_
  refine zB Y (fun h3 => ?_) (fun h3 => ?_)
  ·refine rn6 ?_
   refine zE hR Y ?_
   have : ¬ a = b := by rintro rfl; exact h3 rfl
   simp [zAX, this]
  ·refine rn5 ?_
   have h4 : a.getD k [] = b.getD k [] := Classical.not_not.1 h3
   exact zM ⟨k + 1, ⟨by omega, by rw [ha, hb, heq, h4]⟩, by omega, ⟨Y, Y, Y, Y, trivial⟩, Y⟩
 ·have hk' : k = a.length := by omega
  subst hk'
  rw [List.take_length, hab, List.take_length] at heq
  refine rn5 ?_
  refine zE hR Y ?_
  simp [zAX, heq]
theorem zFA {t : zm} (h : t.all (fun n => decide (n.next.length ≤ 100) && (decide (n.odds.length ≤ 100) && (n.odds.all (fun s => decide (s.length ≤ 100)) && decide (n.pay.length ≤ 100)))) = true) (hl : t.length ≤ 100) : ShortT t := by
 refine ⟨by omega, fun n hn => ?_⟩
 have := List.all_eq_true.1 h n hn
 simp only [Bool.and_eq_true, decide_eq_true_eq, List.all_eq_true] at this
 obtain ⟨h1, h2, h3, h4⟩ := this
 exact ⟨by omega, by omega, fun s hs => by have := h3 s hs; omega, by omega⟩
theorem zDG : ShortT guessG := zFA (by decide) (by decide)
theorem ends1_ok (n : TNode) : zN Tryz.prog 172 [.agg (ze n)] .nil := by
 refine zK.value0 (zC (P := Tryz.prog) (fn := Tryz.f172) Y Y (by kernel_rfl) Y (fun c hR hfix => ?_)) (fix := fun _ => False) (fun _ h => h) Y Y
 refine rn6 ?_
 exact zE hR Y Y
theorem zEN : Sz 100000 1 := by
 have h : D 2 1 := ⟨by decide, by decide⟩
 exact sz_D (h.mono (by omega))
theorem zL0 : OddsG guessG noO := by
 refine ⟨fun i hi hk => ?_, fun i _ _ => rfl, fun i _ l h => (by cases h), fun j hj => ?_⟩
 ·exfalso
  have h : ∀ i, i < guessG.length → (guessG.getD i zQ).kind ≠ 1 := by decide
  exact h i hi hk
 ·rw [zK8]
  have hj : j < 7 := hj
  match j, hj with
  | 0, _ => exact zEN
  | 1, _ => exact zEN
  | 2, _ => exact zEN
  | 3, _ => exact zEN
  | 4, _ => exact zEN
  | 5, _ => exact zEN
  | 6, _ => exact zEN
theorem zGH : zA1 guessG = 0 := by decide +kernel
theorem zJ9 : zCp guessG guessG.length = [3, 4, 5, 6] := by decide +kernel
theorem zJ4 : zN Tryz.prog 97 [.ro (zf guessG) 0 7] (.tup [.ro (.ints .i64 [3, 4, 5, 6]) 0 4, .ro (.strs [[49], [49], [49], [49]]) 0 4, .int .i64 0]) := by
 have c0 := zCg guessG zDG
 rw [zGH] at c0
 have hv := zFn zGH
 have c1 := reach_ok guessG noO 172 [] rfl rfl zDG hv zL0 (fun i _ _ => ends1_ok _)
 rw [zK8] at c1
 have c2 := list_ok guessG (by decide)
 rw [zJ9] at c2
 have c3 := zMA (List.replicate 4 1) (by decide) (fun q hq => by rw [(List.mem_replicate.1 hq).2]; exact zEN)
 rw [show zBb (List.replicate 4 1) = _ from f_out] at c3
 obtain ⟨r3, c3, a3⟩ := c3
 have hg : ∀ k, k < 4 → ([3, 4, 5, 6] : List Int).getD k 0 = ((3 + k : Nat) : Int) := by decide
 have hr : ∀ k, k < 4 → ([1, 1, 1, 1, 1, 1, 1] : List Rat).getD (3 + k) 0 = 1 := by decide +kernel
 generalize hRR : ([1, 1, 1, 1, 1, 1, 1] : List Rat) = RR at *
 generalize hLL : ([3, 4, 5, 6] : List Int) = LL at *
 have hRl : RR.length = 7 := by rw [← hRR]; rfl
 refine zK.value0 (zC (P := Tryz.prog) (fn := Tryz.f97) Y Y (by kernel_rfl) Y (fun c hR hfix => ?_)) (fix := fun _ => False) (fun _ h => h) Y Y
 have hLl : LL.length = 4 := by rw [← hLL]; rfl
 refine rn0 ?_
 refine zA Y Y Y c0 ?_
 refine rn4 ?_
 refine zA Y Y Y c1 ?_
 refine rn0 ?_
 refine zA Y Y Y c2 ?_
 refine rn8 ?_
 refine zBN 8 ⟨104, qsC []⟩ Y Y ?_
 repeat (refine zt ?_)
 refine zY (ι := Nat) (fun k => [(6, .ro (qsC RR) 0 7), (7, .ro (.ints .i64 LL) 0 LL.length), (8, .sl 0 0 k), (22, .ro (.ints .i64 LL) 0 LL.length), (23, .int .i64 (LL.length : Nat)), (24, .int .i64 (k : Nat))]) (fun k => [some ⟨104, qsC (List.replicate k 1)⟩])
  (fun k => k ≤ 4) (fun k => 4 - k) 0 ⟨⟨rfl, rfl, rfl, rfl, rfl, rfl, trivial⟩, rfl, Nat.zero_le _⟩ ?_
 intro k hk
 refine rn4 ?_
 refine zB Y (fun h => ?_) (fun h => ?_)
 ·have hk' : k < 4 := by omega
  have hkl : k < LL.length := by omega
  have e1 := hg k hk'
  have e2 := hr k hk'
  have hon : List.replicate (k + 1) (1 : Rat) = List.replicate k 1 ++ [1] := List.replicate_succ'
  have hBl : (List.replicate k (1 : Rat)).length = k := List.length_replicate
  generalize hC2 : List.replicate (k + 1) (1 : Rat) = C2 at *
  generalize List.replicate k (1 : Rat) = C at *
  repeat (first | refine zF (zU rfl) ?_ | refine zF (zT rfl) ?_ | refine zF (zDq rfl rfl rfl) ?_ | refine zV ?_ | refine zO ?_ | refine zAA ?_ | refine zZ rfl ?_ | refine zt ?_ | refine zAc ?_ | refine zF (zx rfl rfl rfl rfl (by first | (simp only [Nat.zero_add, Int.toNat_natCast, Int.toNat_zero]; exact rfl) | exact rfl) (by omega)) ?_ | refine zF (zCb rfl rfl rfl rfl rfl rfl) ?_)
  refine zG 32 (.agg (zw 1)) Y (AEq.of_eq (by rw [e1]; show AV.agg (zw (RR.getD (3 + k) 0)) = _; rw [e2])) ?_
  repeat (refine zd rfl rfl rfl rfl rfl rfl rfl rfl rfl rfl rfl ?_)
  refine zS Y Y Y Y Y Y Y Y Y hBl Y Y (by show 0 + 1 ≤ 1; omega) Y (by show (k + 1) * 56 ≤ _ ∧ _; omega) ?_ (by rw [hfix]; exact fun h => h) ?_
  ·intro i' j' hi hj'
   exact zE6 0 3 zw zFL C 1 _ (rowQ1 _) 0 i' j' hi hj'
  refine zAI [some ⟨104, qsC (C ++ [1])⟩] (zq.eqv (zF5 0 3 zw C 1 _ (rowQ1 _)) zq.nil) ?_
  refine rn5 ?_
  exact zM ⟨k + 1, by omega, by omega, ⟨Y, Y, Y, Y, Y, Y, trivial⟩, by rw [hC2, hon]⟩
 ·have hke : k = 4 := by omega
  subst hke
  refine zDc ?_
  refine zAb 0 8 4 [(7, .ro (.ints .i64 LL) 0 LL.length)] Y (zE5 _) Y (by show 4 ≤ (List.replicate 4 (1 : Rat)).length; decide) ⟨Y, trivial⟩ ?_
  refine rn0 ?_
  refine zA Y Y Y c3 ?_
  refine zG 38 (.tup [.ro (.strs [[49], [49], [49], [49]]) 0 4, .int .i64 0]) Y (AEq.tup2 a3) ?_
  refine rn4 ?_
  refine zE hR Y ?_
  subst hLL
  rfl
theorem zI5 (n : TNode) (hn : ShortN n) : zN Tryz.prog 112 [.agg (ze n), .agg (ze n)] (.bool true) := by
 obtain ⟨kd, pl, nf, nx, od, py⟩ := n
 have v1 := zIX nx nx hn.next hn.next
 have v2 := zK7 od od hn.odds hn.odds
 rw [decide_eq_true rfl] at v1 v2
 refine zK.value0 (zC (P := Tryz.prog) (fn := Tryz.f112) Y Y (by kernel_rfl) Y (fun c hR hfix => ?_)) (fix := fun _ => False) (fun _ h => h) Y Y
 refine rn6 ?_
 refine zW Y Y (fun _ => ?_) (fun q => absurd Y q)
 refine rn5 ?_
 refine zW Y Y (fun _ => ?_) (fun q => absurd Y q)
 refine rn5 ?_
 refine zW Y Y (fun _ => ?_) (fun q => absurd Y q)
 refine rn6 ?_
 refine zW Y Y (fun _ => ?_) (fun q => absurd Y q)
 refine rn5 ?_
 refine zA Y Y Y v1 ?_
 refine rn5 ?_
 refine zA Y Y Y v2 ?_
 refine rn2 ?_
 exact zE hR Y Y
theorem zIW (t : zm) (hlen : t.length ≤ 9223372036854775807) (g : FuncId) (hg : ∀ n ∈ t, zN Tryz.prog g [.agg (ze n), .agg (ze n)] (.bool true)) :
 zN Tryz.prog 111 [.ro (zf t) 0 t.length, .ro (zf t) 0 t.length, .fn g []] (.bool true) := by
 refine zK.value0 (zC (P := Tryz.prog) (fn := Tryz.f111) Y Y (by kernel_rfl) Y (fun c hR hfix => ?_)) (fix := fun _ => False) (fun _ h => h) Y Y
 refine rn3 ?_
 refine zB Y (fun h => absurd Y h) (fun _ => ?_)
 refine rn3 ?_
 refine zY (ι := Nat) (fun k => [(1, .ro (zf t) 0 t.length), (2, .fn g []), (15, .ro (zf t) 0 t.length), (16, .int .i64 (t.length : Nat)), (17, .int .i64 (k : Nat))]) (fun _ => [])
  (fun k => k ≤ t.length) (fun k => t.length - k) 0 ⟨⟨rfl, rfl, rfl, rfl, rfl, trivial⟩, rfl, Nat.zero_le _⟩ ?_
 intro k hk
 refine rn4 ?_
 refine zB Y (fun h2 => ?_) (fun h2 => ?_)
 ·have hk' : k < t.length := by omega
  have hc := hg _ (zCQ zQ hk')
  refine rn6 ?_
  refine zG 21 (.agg (ze (t.getD k zQ))) Y (AEq.of_eq Y) ?_
  refine sa1 (c' := .box (ze (t.getD k zQ))) Y Y Y Y Y Y Y ?_
  refine rn6 ?_
  refine zG 25 (.agg (ze (t.getD k zQ))) Y (AEq.of_eq Y) ?_
  refine sa1 (c' := .box (ze (t.getD k zQ))) Y Y Y Y Y Y Y ?_
  refine rn6 ?_
  refine zG 27 (.agg (ze (t.getD k zQ))) Y (AEq.of_eq Y) ?_
  refine zG 28 (.agg (ze (t.getD k zQ))) Y (AEq.of_eq Y) ?_
  refine zA Y Y Y hc ?_
  refine zCM ?_
  refine zO ?_
  refine zCM ?_
  refine zO ?_
  refine zBa [] [some ⟨79, .box (ze (t.getD k zQ))⟩, some ⟨79, .box (ze (t.getD k zQ))⟩] [(1, .ro (zf t) 0 t.length), (2, .fn g []), (15, .ro (zf t) 0 t.length), (16, .int .i64 (t.length : Nat)), (17, .int .i64 (k : Nat))] Y ⟨Y, Y, Y, Y, Y, trivial⟩ (fun h hh => by rw [hfix] at hh; exact absurd hh id) (fun h o ho => by simp at ho) Y ?_
  refine rn3 ?_
  exact zM ⟨k + 1, by omega, by omega, ⟨Y, Y, Y, Y, Y, trivial⟩, Y⟩
 ·refine rn5 ?_
  exact zE hR Y Y
theorem equal_self (t : zm) (hT : ShortT t) : zN Tryz.prog 37 [.ro (zf t) 0 t.length, .ro (zf t) 0 t.length] (.bool true) := by
 have c1 := zIW t hT.len 112 (fun n hn => zI5 n (hT.node n hn))
 refine zK.value0 (zC (P := Tryz.prog) (fn := Tryz.f37) Y Y (by kernel_rfl) Y (fun c hR hfix => ?_)) (fix := fun _ => False) (fun _ h => h) Y Y
 refine rn0 ?_
 refine zA Y Y Y c1 ?_
 refine rn0 ?_
 exact zE hR Y Y
theorem fineT4 : zN Tryz.prog 25 [.ro (.ints .i64 [0, 0, 0, 0]) 0 4] (.bool true) := fineI [0, 0, 0, 0] (by decide)
theorem zJB : zE0 guessG 1 = (([3], [2]), 0) := by decide +kernel
theorem zHN : zN Tryz.prog 33 [] (.bool true) := by
 have c1 := infos_ok guessG 1 zDG
 rw [zJB] at c1
 have hoT : ShortT oneG := zFA (by decide) (by decide)
 have c2 := zJR oneG hoT
 rw [f_print] at c2
 have c3 : zN Tryz.prog 34 [.str textG] (.tup [.ro (zf readG) 0 3, .int .i64 0, .int .i64 0]) := by
  have c3 := zH6 textG (by decide)
  rw [f_parse] at c3
  exact c3
 have c4 := zCg [] (zFA (by decide) (by decide))
 rw [f_none] at c4
 have c5 := zH9 guessG 2 zDG
 rw [f_player] at c5
 have v1 := zIX [3] [3] (by decide) (by decide)
 have v2 := zIX [2] [2] (by decide) (by decide)
 have v3 := zIX [3, 4, 5, 6] [3, 4, 5, 6] (by decide) (by decide)
 have v4 := zK7 [[49], [49], [49], [49]] [[49], [49], [49], [49]] (by decide) (by decide)
 rw [decide_eq_true rfl] at v1 v2 v3 v4
 refine zK.value0 (zC (P := Tryz.prog) (fn := Tryz.f33) Y Y (by kernel_rfl) Y (fun c hR hfix => ?_)) (fix := fun _ => False) (fun _ h => h) Y Y
 refine rn0 ?_
 refine zA Y Y Y zGu ?_
 refine zA Y Y Y c1 ?_
 refine rn2 ?_
 refine zA Y Y Y zGu ?_
 refine zA Y Y Y zJ4 ?_
 refine rn18 ?_
 refine zG 26 (.ro (zf oneG) 0 1) Y (AEq.ro_in Y (fun d j hd hj => ?_)) ?_
 ·obtain rfl : d = 0 := by omega
  have hj : j < 6 := hj
  match j, hj with
  | 0, _ => exact AEq.rfl'
  | 1, _ => exact AEq.rfl'
  | 2, _ => exact AEq.rfl'
  | 3, _ => exact AEq.nil
  | 4, _ => exact AEq.nil
  | 5, _ => exact AEq.rfl'
 refine zA Y Y Y c2 ?_
 refine rn2 ?_
 refine zA Y Y Y c3 ?_
 refine rn3 ?_
 refine zA Y Y Y fineT4 ?_
 refine rn3 ?_
 refine zA Y Y Y v1 ?_
 refine rn3 ?_
 refine zA Y Y Y v2 ?_
 refine rn3 ?_
 refine zA Y Y Y v3 ?_
 refine rn3 ?_
 refine zA Y Y Y v4 ?_
 refine rn6 ?_
 refine zA Y Y Y (fun H => zK.args (c4 H) ⟨AEq.nil, trivial⟩) ?_
 refine rn4 ?_
 refine zA Y Y Y zGu ?_
 repeat (refine zAF rfl rfl ?_)
 refine zA Y Y Y c5 ?_
 refine rn4 ?_
 exact zE hR Y Y
end Go.Proofs.YtkncmbklkhjmgaaGreatDoor
