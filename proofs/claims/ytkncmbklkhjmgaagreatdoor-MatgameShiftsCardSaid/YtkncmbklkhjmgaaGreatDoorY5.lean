import Derived.Test.YtkncmbklkhjmgaaGreatDoorY4
set_option linter.unusedVariables false
set_option linter.unusedSimpArgs false
set_option maxRecDepth 100000
set_option maxHeartbeats 4000000
namespace Go.Proofs.YtkncmbklkhjmgaaGreatDoor
open Go.Ax Go.Ax.Bg Go.Ax.Rt Go.RowKit
attribute [local irreducible] Ax zBI QOp zP zAl
theorem cols_ok (m : List (List Rat)) (w : Nat) (hlen : m.length ≤ 1000000) (hw : w ≤ 1000000) (hr : ∀ r ∈ m, r.length = w) : zU Tryz.prog 72 [.ro (zY m) 0 m.length, iN w] (.ro (zY (zHe m w)) 0 w) := by
 refine zP.value0 (zE (P := Tryz.prog) (fn := Tryz.f72) Z Z (by kernel_rfl) Z (fun c hR hfix => ?_)) (fix := fun _ => False) (fun _ h => h) Z Z
 refine rn0 ?_
 refine zAo 5 ⟨105, zY []⟩ Z Z ?_
 repeat (refine zAF ?_)
 refine ze (ι := Nat) (fun k => [(0, .ro (zY m) 0 m.length), (5, .sl 0 0 k), (10, iN w), (11, iN k)]) (fun k => [some ⟨105, zY ((List.range k).map (zBt m))⟩])
  (fun k => k ≤ w) (fun k => w - k) 0 ⟨⟨rfl, rfl, rfl, rfl, trivial⟩, rfl, Nat.zero_le _⟩ ?_
 intro k hk
 refine rn4 ?_
 refine zA Z (fun h => ?_) (fun h => ?_)
 ·have hk' : k < w := by omega
  refine rn8 ?_
  refine zAF ?_
  refine rn8 ?_
  refine zAo 7 ⟨104, qsC []⟩ Z Z ?_
  repeat (refine zAF ?_)
  refine ze (ι := Nat) (fun j => [(0, .ro (zY m) 0 m.length), (5, .sl 0 0 k), (6, iN k), (7, .sl 1 0 j), (10, iN w), (11, iN k), (14, .ro (zY m) 0 m.length), (15, iN m.length), (16, iN j)]) (fun j => [some ⟨105, zY ((List.range k).map (zBt m))⟩, some ⟨104, qsC (zBt (m.take j) k)⟩])
   (fun j => j ≤ m.length) (fun j => m.length - j) 0 ⟨⟨rfl, rfl, rfl, rfl, rfl, rfl, rfl, rfl, rfl, trivial⟩, rfl, Nat.zero_le _⟩ ?_
  intro j hj
  refine rn4 ?_
  refine zA Z (fun h2 => ?_) (fun h2 => ?_)
  ·have hj' : j < m.length := by omega
   have hrl := hr _ (zAN [] hj')
   have htk : zBt (m.take (j + 1)) k = zBt (m.take j) k ++ [(m.getD j []).getD k 0] := zCl (fun row : List Rat => row.getD k 0) m [] j hj'
   have hml : (zBt (m.take j) k).length = j := by rw [zCr, List.length_take]; omega
   generalize zBt (m.take j) k = qs at *
   generalize (List.range k).map (zBt m) = rs at *
   have hkr : k < (m.getD j []).length := by omega
   refine rn19 ?_
   refine zD 24 (.agg (zT ((m.getD j []).getD k 0))) Z (AEq.of_eq Z) ?_
   generalize (m.getD j []).getD k 0 = q at *
   repeat (refine zf rfl rfl rfl rfl rfl rfl rfl rfl rfl rfl rfl ?_)
   refine zr Z Z Z Z Z Z Z Z Z hml Z Z (by show 0 + 1 ≤ 1; omega) Z (by show (j + 1) * 56 ≤ _ ∧ _; omega) ?_ (by rw [hfix]; exact fun h => h) ?_
   ·intro i' j' hi hj'
    exact zAM 0 3 zT zAe qs q _ (zCg _) 1 i' j' hi hj'
   refine zEO ?_
   refine zI ?_
   refine zBi [some ⟨105, zY rs⟩, some ⟨104, qsC (zBt (m.take (j + 1)) k)⟩] ?_ ?_
   ·rw [htk]
    exact zQ.eqv ⟨Z, Z, fun i j _ hj => (zBP _ j _ hj).symm⟩ (zQ.eqv (zAX 0 3 zT qs q _ (zCg _)) zQ.nil)
   refine rn3 ?_
   exact zK ⟨j + 1, by omega, by omega, ⟨Z, Z, Z, Z, Z, Z, Z, Z, Z, trivial⟩, Z⟩
  ·have hj' : j = m.length := by omega
   subst hj'
   rw [List.take_length]
   have hcl : (zBt m k).length = m.length := zCr m k
   have hml : ((List.range k).map (zBt m)).length = k := by simp
   have htk : (List.range (k + 1)).map (zBt m) = (List.range k).map (zBt m) ++ [zBt m k] := by rw [List.range_succ, List.map_append]; rfl
   generalize (List.range k).map (zBt m) = rs at *
   generalize zBt m k = col at *
   refine zHb ?_
   refine zAd 1 7 m.length [(0, .ro (zY m) 0 m.length), (5, .sl 0 0 k), (10, iN w), (11, iN k)] Z (zAw _) Z (by show _ ≤ col.length; omega) ⟨Z, Z, Z, Z, trivial⟩ ?_
   refine zAE 7 (.ro (qsC col) 0 col.length) Z (AEq.of_eq (by rw [hcl])) ?_
   refine rn3 ?_
   refine zr Z Z Z Z Z Z Z Z Z hml Z Z (by show 0 + 1 ≤ 1; omega) Z (by show (k + 1) * 24 ≤ _ ∧ _; omega) ?_ (by rw [hfix]; exact fun h => h) ?_
   ·intro i' j hi hj
    exact zAM [] 1 zCd zBP rs col _ (zNs _) 0 i' j hi hj
   refine zEO ?_
   refine zI ?_
   refine zBi ([some ⟨105, zY ((List.range (k + 1)).map (zBt m))⟩] ++ [none]) ?_ ?_
   ·rw [htk]
    exact zQ.eqv (zAX [] 1 zCd rs col _ (zNs _)) (zQ.drop zQ.nil)
   refine zEe (H1 := [some ⟨105, zY ((List.range (k + 1)).map (zBt m))⟩]) Z (by rw [hfix]; exact fun h => h) ?_
   refine zBi [some ⟨105, zY ((List.range (k + 1)).map (zBt m))⟩] ?_ ?_
   ·exact zQ.eqv ⟨Z, Z, fun i j _ hj => (zBP _ j _ hj).symm⟩ zQ.nil
   refine rn3 ?_
   exact zK ⟨k + 1, by omega, by omega, ⟨Z, Z, Z, Z, trivial⟩, Z⟩
 ·have hk' : k = w := by omega
  subst hk'
  refine zHb ?_
  refine zAd 0 5 k [] Z (zFg _) Z (by show _ ≤ (List.map _ _).length; simp) trivial ?_
  refine rn0 ?_
  exact zL hR Z Z
theorem zNb (l : List Rat) (hlen : l.length ≤ 1000000) (hs : ∀ q ∈ l, Sz 100000 q) (hall : l.all zBx = true) : zU Tryz.prog 63 [.ro (qsC l) 0 l.length] (.tup [.ro (.strs (l.map zn)) 0 (l.map zn).length, .int .i64 0]) := by
 have := zOy l hlen hs hall
 rwa [List.length_map]
theorem zQ0 (l : List Rat) (hlen : l.length ≤ 1000000) (hs : ∀ q ∈ l, Sz 100000 q) : ∃ r : AV, zU Tryz.prog 63 [.ro (qsC l) 0 l.length] (.tup [r, .int .i64 (zEB l).2]) ∧ AEq r (.ro (.strs (zEB l).1) 0 (zEB l).1.length) := by
 cases h : l.all zBx
 ·refine ⟨.nil, ?_, ?_⟩
  ·have := zQz l hlen hs h
   unfold zEB; rw [h]; exact this
  ·unfold zEB; rw [h]; exact AEq.nil
 ·refine ⟨_, ?_, AEq.rfl'⟩
  have := zNb l hlen hs h
  unfold zEB; rw [h]; exact this
end Go.Proofs.YtkncmbklkhjmgaaGreatDoor
namespace Go.Proofs.YtkncmbklkhjmgaaGreatDoor
open Go.Ax Go.Ax.Bg Go.Ax.Rt Go.RowKit Go.Ax.Idx Go.Ax.Cd
attribute [local irreducible] Ax zBI QOp zP zAl
theorem zOr (l : List (List UInt8)) (g : FuncId) (caps : List AV) (p : List UInt8 → Bool) (hc : noRef.noRefs caps = true) (hlen : l.length ≤ 9223372036854775807) (hp : ∀ x ∈ l, zU Tryz.prog g ([.str x] ++ caps) (.bool (p x))) :
 zU Tryz.prog 146 [.ro (.strs l) 0 l.length, .fn g caps] (.int .i64 (idxF p l)) := by
 refine zP.value0 (zE (P := Tryz.prog) (fn := Tryz.f146) Z Z (by kernel_rfl) Z (fun c hR hfix => ?_)) (fix := fun _ => False) (fun _ h => h) (by simp [noRef.noRefs, noRef, hc]) Z
 refine rn3 ?_
 refine ze (ι := Nat) (fun k => [(0, .ro (.strs l) 0 l.length), (1, .fn g caps), (7, iN l.length), (8, iN k)]) (fun _ => [])
  (fun k => k ≤ l.length ∧ (l.take k).any p = false) (fun k => l.length - k) 0 ⟨⟨rfl, rfl, rfl, rfl, trivial⟩, rfl, Nat.zero_le _, rfl⟩ ?_
 intro k ⟨hk, hany⟩
 refine rn4 ?_
 refine zA Z (fun h => ?_) (fun h => ?_)
 ·have hk' : k < l.length := by omega
  have hanys := zC7 p l [] k hk'
  refine rn9 ?_
  refine zB Z Z Z (hp _ (zAN [] hk')) ?_
  refine rn0 ?_
  refine zEd Z (fun h2 => ?_) (fun h2 => ?_)
  ·refine rn6 ?_
   refine zL hR Z ?_
   have := idxF_take p l k hany hk
   rw [zCk l [] k hk'] at this
   simp only [idxF, h2, if_true] at this
   rw [this]; simp [zBs]
  ·refine rn5 ?_
   refine zK ⟨k + 1, ⟨by omega, by rw [hanys, hany, h2]; rfl⟩, by omega, ⟨Z, Z, Z, Z, trivial⟩, Z⟩
 ·have hk' : k = l.length := by omega
  subst hk'
  refine rn5 ?_
  refine zL hR Z ?_
  have := idxF_take p l l.length hany hk
  rw [List.drop_length] at this
  rw [this]; rfl
theorem zM4 (l : List (List UInt8)) (g : FuncId) (caps : List AV) (p : List UInt8 → Bool) (hc : noRef.noRefs caps = true) (hlen : l.length ≤ 9223372036854775807) (hp : ∀ x ∈ l, zU Tryz.prog g ([.str x] ++ caps) (.bool (p x))) :
 zU Tryz.prog 59 [.ro (.strs l) 0 l.length, .fn g caps] (.bool (l.any p)) := by
 refine zP.value0 (zE (P := Tryz.prog) (fn := Tryz.f59) Z Z (by kernel_rfl) Z (fun c hR hfix => ?_)) (fix := fun _ => False) (fun _ h => h) (by simp [noRef.noRefs, noRef, hc]) Z
 refine rn0 ?_
 refine zB Z Z Z (zOr l g caps p hc hlen hp) ?_
 refine rn8 ?_
 refine zL hR Z ?_
 simp only [zBs, zIb]
theorem equalV (a b : List (List UInt8)) (hlen : a.length ≤ 9223372036854775807) (hlb : b.length ≤ 9223372036854775807) : zU Tryz.prog 55 [.ro (.strs a) 0 a.length, .ro (.strs b) 0 b.length] (.bool (decide (a = b))) := by
 refine zP.value0 (zE (P := Tryz.prog) (fn := Tryz.f55) Z Z (by kernel_rfl) Z (fun c hR hfix => ?_)) (fix := fun _ => False) (fun _ h => h) Z Z
 refine rn3 ?_
 refine zA Z (fun h => ?_) (fun h => ?_)
 ·refine rn2 ?_
  refine zL hR Z ?_
  have : ¬ a = b := by rintro rfl; exact h rfl
  simp [zBs, this]
 have hab : a.length = b.length := by omega
 refine rn3 ?_
 refine ze (ι := Nat) (fun k => [(0, .ro (.strs a) 0 a.length), (1, .ro (.strs b) 0 b.length), (12, iN a.length), (13, iN k)]) (fun _ => [])
  (fun k => k ≤ a.length ∧ a.take k = b.take k) (fun k => a.length - k) 0 ⟨⟨rfl, rfl, rfl, rfl, trivial⟩, rfl, Nat.zero_le _, rfl⟩ ?_
 intro k ⟨hk, heq⟩
 refine rn4 ?_
 refine zA Z (fun h2 => ?_) (fun h2 => ?_)
 ·have hk' : k < a.length := by omega
  have ha := zBM a [] k hk'
  have hb := zBM b [] k (by omega)
  refine rn1 ?_
  refine zDv (by kernel_rfl) (by kernel_rfl) Z ?_
  refine rn18 ?_
  refine zA Z (fun h3 => ?_) (fun h3 => ?_)
  ·refine rn6 ?_
   refine zL hR Z ?_
   have : ¬ a = b := by rintro rfl; exact h3 rfl
   simp [zBs, this]
  ·refine rn5 ?_
   have h4 : a.getD k [] = b.getD k [] := Classical.not_not.1 h3
   exact zK ⟨k + 1, ⟨by omega, by rw [ha, hb, heq, h4]⟩, by omega, ⟨Z, Z, Z, Z, trivial⟩, Z⟩
 ·have hk' : k = a.length := by omega
  subst hk'
  rw [List.take_length, hab, List.take_length] at heq
  refine rn5 ?_
  refine zL hR Z ?_
  simp [zBs, heq]
theorem zOp (l : List (List zu)) (g : FuncId) (caps : List AV) (p : List zu → Bool) (hc : noRef.noRefs caps = true) (hlen : l.length ≤ 9223372036854775807) (hp : ∀ x ∈ l, zU Tryz.prog g ([.ro (.strs x) 0 x.length] ++ caps) (.bool (p x))) :
 zU Tryz.prog 145 [.ro (zCF l) 0 l.length, .fn g caps] (.int .i64 (idxF p l)) := by
 refine zP.value0 (zE (P := Tryz.prog) (fn := Tryz.f145) Z Z (by kernel_rfl) Z (fun c hR hfix => ?_)) (fix := fun _ => False) (fun _ h => h) (by simp [noRef.noRefs, noRef, hc]) Z
 refine rn3 ?_
 refine ze (ι := Nat) (fun k => [(0, .ro (zCF l) 0 l.length), (1, .fn g caps), (7, iN l.length), (8, iN k)]) (fun _ => [])
  (fun k => k ≤ l.length ∧ (l.take k).any p = false) (fun k => l.length - k) 0 ⟨⟨rfl, rfl, rfl, rfl, trivial⟩, rfl, Nat.zero_le _, rfl⟩ ?_
 intro k ⟨hk, hany⟩
 refine rn4 ?_
 refine zA Z (fun h => ?_) (fun h => ?_)
 ·have hk' : k < l.length := by omega
  have hanys := zC7 p l [] k hk'
  refine rn6 ?_
  refine zB Z Z Z (hp _ (zAN [] hk')) ?_
  refine rn0 ?_
  refine zEd Z (fun h2 => ?_) (fun h2 => ?_)
  ·refine rn6 ?_
   refine zL hR Z ?_
   have := idxF_take p l k hany hk
   rw [zCk l [] k hk'] at this
   simp only [idxF, h2, if_true] at this
   rw [this]; simp [zBs]
  ·refine rn5 ?_
   refine zK ⟨k + 1, ⟨by omega, by rw [hanys, hany, h2]; rfl⟩, by omega, ⟨Z, Z, Z, Z, trivial⟩, Z⟩
 ·have hk' : k = l.length := by omega
  subst hk'
  refine rn5 ?_
  refine zL hR Z ?_
  have := idxF_take p l l.length hany hk
  rw [List.drop_length] at this
  rw [this]; rfl
theorem zQS (l : List (List zu)) (g : FuncId) (caps : List AV) (p : List zu → Bool) (hc : noRef.noRefs caps = true) (hlen : l.length ≤ 9223372036854775807) (hp : ∀ x ∈ l, zU Tryz.prog g ([.ro (.strs x) 0 x.length] ++ caps) (.bool (p x))) :
 zU Tryz.prog 57 [.ro (zCF l) 0 l.length, .fn g caps] (.bool (l.any p)) := by
 refine zP.value0 (zE (P := Tryz.prog) (fn := Tryz.f57) Z Z (by kernel_rfl) Z (fun c hR hfix => ?_)) (fix := fun _ => False) (fun _ h => h) (by simp [noRef.noRefs, noRef, hc]) Z
 refine rn0 ?_
 refine zB Z Z Z (zOp l g caps p hc hlen hp) ?_
 refine rn8 ?_
 refine zL hR Z ?_
 simp only [zBs, zIb]
theorem small11 (s : zu) (hs : s.length ≤ 9223372036854775807) : zU Tryz.prog 60 [.str s] (.bool (decide (12 < (s.length : Int)))) := by
 refine zP.value0 (zE (P := Tryz.prog) (fn := Tryz.f60) Z Z (by kernel_rfl) Z (fun c hR hfix => ?_)) (fix := fun _ => False) (fun _ h => h) Z Z
 refine rn6 ?_
 exact zL hR Z Z
def zLh (n : Int) (v : List zu) : Bool := decide (n < (v.length : Int)) || v.any (fun s => decide (12 < (s.length : Int)))
theorem small1 (n : Int) (v : List zu) (hl : v.length ≤ 9223372036854775807) (hs : ∀ s ∈ v, s.length ≤ 9223372036854775807) : zU Tryz.prog 58 [.ro (.strs v) 0 v.length, .rp (.box [.int .i64 n]) 0 0] (.bool (zLh n v)) := by
 have hc := zM4 v 60 [] (fun s => decide (12 < (s.length : Int))) rfl hl (fun s hm => small11 s (hs s hm))
 unfold zLh
 refine zP.value0 (zE (P := Tryz.prog) (fn := Tryz.f58) Z Z (by kernel_rfl) Z (fun c hR hfix => ?_)) (fix := fun _ => False) (fun _ h => h) Z Z
 refine rn15 ?_
 refine zAh Z Z (fun h => ?_) (fun h => ?_)
 ·rw [decide_eq_true h, Bool.true_or] at hR
  refine rn6 ?_
  exact zL hR Z Z
 ·rw [decide_eq_false h, Bool.false_or] at hR
  refine rn2 ?_
  refine zB Z Z Z hc ?_
  refine rn2 ?_
  exact zL hR Z Z
theorem boxI1 (n : Int) : zAb (.box [.int .i64 n]) := by
 intro i j _ hj
 obtain rfl : j = 0 := by have hj : j < 1 := hj; omega
 rfl
def cellM (m : List (List zu)) : List AV := [.ro (zCF m) 0 m.length]
abbrev zNR (l : List (List (List zu))) : Cells := rowE [] 1 cellM l
theorem zRL (n : Nat) (l : List (List (List zu))) (hn : n ≤ 1000) (hl : l.length ≤ 9223372036854775807) (hm : ∀ m ∈ l, m.length ≤ 9223372036854775807 ∧ ∀ r ∈ m, r.length ≤ 9223372036854775807 ∧ ∀ s ∈ r, s.length ≤ 9223372036854775807) : zU Tryz.prog 16 [iN n, .ro (zNR l) 0 l.length] (.bool (l.all (zJm n 12))) := by
 have hbad : ∀ m : List (List zu), zJm n 12 m = !(decide ((n : Int) < (m.length : Int)) || m.any (zLh n)) := by
  intro m
  unfold zJm zLh
  rw [Bool.not_or, Bool.eq_iff_iff]
  simp only [Bool.and_eq_true, Bool.not_eq_true', decide_eq_true_eq, decide_eq_false_iff_not, List.all_eq_true, List.any_eq_false, Bool.or_eq_true, not_or, List.any_eq_true, not_exists]
  constructor
  ·rintro ⟨h1, h2⟩
   refine ⟨by omega, fun v hv => ?_⟩
   obtain ⟨h3, h4⟩ := h2 v hv
   refine ⟨by omega, fun s hs => ?_⟩
   have := h4 s hs.1
   have := hs.2
   omega
  ·rintro ⟨h1, h2⟩
   refine ⟨by omega, fun v hv => ?_⟩
   obtain ⟨h3, h4⟩ := h2 v hv
   refine ⟨by omega, fun s hs => ?_⟩
   have := h4 s
   simp only [hs, true_and] at this
   omega
 refine zP.value0 (zE (P := Tryz.prog) (fn := Tryz.f16) Z Z (by kernel_rfl) Z (fun c hR hfix => ?_)) (fix := fun _ => False) (fun _ h => h) Z Z
 refine rn6 ?_
 refine ze (ι := Nat) (fun k => [(0, iN n), (1, .ro (zNR l) 0 l.length), (2, .ptr 0 0 0), (7, .ro (zNR l) 0 l.length), (8, iN l.length), (9, iN k)]) (fun _ => [some ⟨3, .box [iN n]⟩])
  (fun k => k ≤ l.length ∧ l.all (zJm n 12) = (l.drop k).all (zJm n 12)) (fun k => l.length - k) 0 ⟨⟨rfl, rfl, rfl, rfl, rfl, rfl, trivial⟩, rfl, Nat.zero_le _, by rw [List.drop_zero]⟩ ?_
 rintro k ⟨hk, hA⟩
 refine rn4 ?_
 refine zA Z (fun h => ?_) (fun h => ?_)
 ·have hk' : k < l.length := by omega
  have hd := zEp (d := []) hk'
  rw [hd, List.all_cons, hbad] at hA
  obtain ⟨g1, g2⟩ := hm _ (zAN [] hk')
  have hc := zQS (l.getD k []) 58 [.rp (.box [iN n]) 0 0] (zLh n) rfl g1 (fun v hv => small1 n v (g2 v hv).1 (g2 v hv).2)
  refine rn6 ?_
  refine zAh Z Z (fun h2 => ?_) (fun h2 => ?_)
  ·rw [decide_eq_true h2, Bool.true_or, Bool.not_true, Bool.false_and] at hA
   rw [hA] at hR
   refine rn6 ?_
   exact zL hR Z Z
  ·rw [decide_eq_false h2, Bool.false_or] at hA
   cases hb : (l.getD k []).any (zLh (n : Nat))
   ·rw [hb] at hA hc
    refine zEO ?_
    refine zIH rfl rfl rfl rfl hc (zKf (o1 := ⟨3, .box [iN n]⟩) (boxI1 _)) ⟨trivial, ⟨fun o ho => by simp at ho; subst ho; exact Nat.zero_lt_one, trivial⟩, trivial⟩ rfl rfl rfl ?_
    refine rn5 ?_
    exact zK ⟨k + 1, ⟨by omega, hA⟩, by omega, ⟨Z, Z, Z, Z, Z, Z, trivial⟩, Z⟩
   ·rw [hb] at hA hc
    rw [Bool.not_true, Bool.false_and] at hA
    rw [hA] at hR
    refine zEO ?_
    refine zIH rfl rfl rfl rfl hc (zKf (o1 := ⟨3, .box [iN n]⟩) (boxI1 _)) ⟨trivial, ⟨fun o ho => by simp at ho; subst ho; exact Nat.zero_lt_one, trivial⟩, trivial⟩ rfl rfl rfl ?_
    refine rn6 ?_
    exact zL hR Z Z
 ·have hk' : k = l.length := by omega
  subst hk'
  rw [List.drop_length] at hA
  rw [hA] at hR
  refine rn5 ?_
  exact zL hR Z Z
end Go.Proofs.YtkncmbklkhjmgaaGreatDoor
namespace Go.Ax.Rt
open Go.Ax.Bg
def zIu : Rat → List Rat → Rat
 | acc, [] => acc
 | acc, q :: r => zIu (acc + q) r
theorem zL1 : ∀ (qs : List Rat) (acc : Rat), (zG7 acc qs).2 = 0 → (zG7 acc qs).1 = zIu acc qs
 | [], acc, _ => rfl
 | q :: r, acc, h => by
  rw [zG7] at h ⊢
  rw [zIu]
  split at h
  ·rename_i hf; rw [if_pos hf]; exact zL1 r _ h
  ·cases h
abbrev zI2 := List (Int × Int)
/-- matgame.Check -/
def zAu (m : List (List zu)) : Int := if 12 < m.length then 2 else if zHu m ≠ 0 then zHu m else if zAC m = 0 then 8 else if 12 < zAC m then 2 else 0
def outside (m : List (List zu)) (x : Int × Int) : Bool := decide (x.1 < 0) || (decide ((m.length : Int) ≤ x.1) || (decide (x.2 < 0) || decide ((zAC m : Int) ≤ x.2)))
/-- regret.Check -/
def histE (m : List (List zu)) (l : zI2) : Int := if zAu m ≠ 0 then zAu m else if 200 < l.length then 2 else if l.any (outside m) = true then 4 else 0
theorem zE3 {m : List (List zu)} (h : zAu m = 0) : zHu m = 0 ∧ m.length ≤ 12 ∧ zAC m ≠ 0 ∧ zAC m ≤ 12 ∧ m ≠ [] := by
 unfold zAu at h
 split at h
 ·cases h
 split at h
 ·rename_i h1; exact absurd h h1
 split at h
 ·cases h
 split at h
 ·cases h
 rename_i h1 h2 h3 h4
 refine ⟨Classical.not_not.1 h2, by omega, h3, by omega, ?_⟩
 rintro rfl
 exact h3 Z
/-- How often a row, a column was played. -/
def cnt (f : Int × Int → Int) (l : zI2) (i : Nat) : Nat := (l.filter (fun x => decide (f x = (i : Int)))).length
def cntQ (f : Int × Int → Int) (l : zI2) (n : Nat) : List Rat := (List.range n).map (fun i => ((cnt f l i : Nat) : Rat))
def rowsS (m : List (List Rat)) (l : zI2) (w : Nat) : List Rat := m.map (fun r => zAK r (cntQ Prod.snd l w))
def colsS (m : List (List Rat)) (l : zI2) (w : Nat) : List Rat := (zHe m w).map (fun c => zAK c (cntQ Prod.fst l m.length))
def elQ (m : List (List Rat)) (x : Int × Int) : Rat := (m.getD x.1.toNat []).getD x.2.toNat 0
def gotQ (m : List (List Rat)) (l : zI2) : Rat := zIu 0 (l.map (elQ m))
def regA (m : List (List Rat)) (l : zI2) (w : Nat) : List Rat := (rowsS m l w).map (fun q => q - gotQ m l)
def regB (m : List (List Rat)) (l : zI2) (w : Nat) : List Rat := (colsS m l w).map (fun q => gotQ m l - q)
def bothR (a b : List Rat) : (List zu × List zu) × Int := if (zEB a).2 ≠ 0 then (([], []), 2) else if (zEB b).2 ≠ 0 then (([], []), 2) else ((a.map zn, b.map zn), 0)
/-- regret.Regrets -/
def regretsR (m : List (List zu)) (l : zI2) : (List zu × List zu) × Int := if histE m l ≠ 0 then (([], []), histE m l) else bothR (regA (inM m) l (zAC m)) (regB (inM m) l (zAC m))
/-- The first greatest number, or the first least one. -/
def bestG (sg : Int) (x : List Rat) : Nat → Nat
 | 0 => 0
 | k + 1 => if 0 < zCG (x.getD k 0) (x.getD (bestG sg x k) 0) * sg then k else bestG sg x k
def lowQ (m : List (List Rat)) (l : zI2) (w : Nat) : Rat := (colsS m l w).getD (bestG (-1) (colsS m l w) w) 0
def highQ (m : List (List Rat)) (l : zI2) (w : Nat) : Rat := (rowsS m l w).getD (bestG 1 (rowsS m l w) m.length) 0
/-- regret.Bounds -/
def boundsR (m : List (List zu)) (l : zI2) : (zu × zu) × Int :=
 if histE m l ≠ 0 then (([], []), histE m l) else if l = [] then (([], []), 8)
 else if zBx (lowQ (inM m) l (zAC m) / (l.length : Nat)) && zBx (highQ (inM m) l (zAC m) / (l.length : Nat)) then ((zn (lowQ (inM m) l (zAC m) / (l.length : Nat)), zn (highQ (inM m) l (zAC m) / (l.length : Nat))), 0) else (([], []), 2)
/-- The law. -/
structure Zero (m : List (List zu)) (l : zI2) (a b : List zu) (lo hi : zu) : Prop where
 reg : regretsR m l = ((a, b), 0)
 bnd : boundsR m l = ((lo, hi), 0)
 ga : ∀ s ∈ a, zCe s = 0
 gb : ∀ s ∈ b, zCe s = 0
 la : a.length = m.length
 lb : b.length = zAC m
 best : ∃ i k s q, bestR a = (((i : Nat) : Int), 0) ∧ bestR b = (((k : Nat) : Int), 0) ∧ i < a.length ∧ k < b.length ∧ zJn (fun x y => x + y) (a.getD i []) (b.getD k []) = (s, 0) ∧ divR s (zn ((l.length : Nat) : Rat)) = (q, 0) ∧ zJn (fun x y => x - y) hi lo = (q, 0)
end Go.Ax.Rt
namespace Go.Proofs.YtkncmbklkhjmgaaGreatDoor
open Go.Ax Go.Ax.Bg Go.Ax.Rt Go.RowKit Go.Ax.Idx Go.Ax.Cd
attribute [local irreducible] Ax zBI QOp zP zAl
theorem zFK (m : List (List zu)) (hlen : m.length ≤ 9223372036854775807) (hr : ∀ r ∈ m, r.length ≤ 9223372036854775807 ∧ ∀ s ∈ r, s.length ≤ 9223372036854775807) : zU Tryz.prog 18 [.ro (zCF m) 0 m.length] (.int .i64 (zAu m)) := by
 have cm := zQt m hlen hr
 have wm := width_ok m hlen
 refine zP.value0 (zE (P := Tryz.prog) (fn := Tryz.f18) Z Z (by kernel_rfl) Z (fun c hR hfix => ?_)) (fix := fun _ => False) (fun _ h => h) Z Z
 refine rn6 ?_
 refine zA Z (fun h1 => ?_) (fun h1 => ?_)
 ·have e : zAu m = 2 := by unfold zAu; rw [if_pos (by omega)]
  rw [e] at hR
  refine rn2 ?_
  exact zL hR Z Z
 have h1' : ¬ 12 < m.length := by omega
 refine rn1 ?_
 refine zB Z Z Z cm ?_
 refine rn3 ?_
 refine zA Z (fun h2 => ?_) (fun h2 => ?_)
 ·have e : zAu m = zHu m := by unfold zAu; rw [if_neg h1', if_pos h2]
  rw [e] at hR
  refine rn2 ?_
  exact zL hR Z Z
 refine rn1 ?_
 refine zB Z Z Z wm ?_
 refine rn4 ?_
 refine zA Z (fun h3 => ?_) (fun h3 => ?_)
 ·have e : zAu m = 8 := by unfold zAu; rw [if_neg h1', if_neg h2, if_pos (by omega)]
  rw [e] at hR
  refine rn2 ?_
  exact zL hR Z Z
 refine rn1 ?_
 refine zB Z Z Z wm ?_
 refine rn6 ?_
 refine zA Z (fun h4 => ?_) (fun h4 => ?_)
 ·have e : zAu m = 2 := by unfold zAu; rw [if_neg h1', if_neg h2, if_neg (by omega), if_pos (by omega)]
  rw [e] at hR
  refine rn2 ?_
  exact zL hR Z Z
 have e : zAu m = 0 := by unfold zAu; rw [if_neg h1', if_neg h2, if_neg (by omega), if_neg (by omega)]
 rw [e] at hR
 refine rn1 ?_
 exact zL hR Z Z
end Go.Proofs.YtkncmbklkhjmgaaGreatDoor
namespace Go.Ax.Dt
def zw (f : Nat → Int) : Nat → Int
 | 0 => 0
 | n + 1 => zw f n + f n
theorem zo {f g : Nat → Int} : ∀ {n : Nat}, (∀ i, i < n → f i = g i) → zw f n = zw g n
 | 0, _ => rfl
 | n + 1, h => by rw [zw, zw, zo (fun i hi => h i (by omega)), h n (by omega)]
theorem zB1 {f : Nat → Int} : ∀ {n : Nat}, (∀ i, i < n → f i = 0) → zw f n = 0
 | 0, _ => rfl
 | n + 1, h => by rw [zw, zB1 (fun i hi => h i (by omega)), h n (by omega)]; rfl
theorem zDJ (f g : Nat → Int) : ∀ n, zw (fun i => f i + g i) n = zw f n + zw g n
 | 0 => rfl
 | n + 1 => by rw [zw, zw, zw, zDJ f g n]; omega
theorem zBL (c : Int) (f : Nat → Int) : ∀ n, zw (fun i => c * f i) n = c * zw f n
 | 0 => by rw [zw, zw, Int.mul_zero]
 | n + 1 => by rw [zw, zw, zBL c f n, Int.mul_add]
theorem zEP {f : Nat → Int} {n : Nat} (k : Nat) (hk : k < n) (h : ∀ i, i < n → i ≠ k → f i = 0) : zw f n = f k := by
 induction n with
 | zero => omega
 | succ n ih =>
  rw [zw]
  by_cases hkn : k = n
  ·subst hkn
   rw [zB1 (fun i hi => h i (by omega) (by omega))]; omega
  ·rw [ih (by omega) (fun i hi hne => h i (by omega) hne), h n (by omega) (fun e => hkn e.symm)]; omega
theorem zN8 {f : Nat → Int} {n : Nat} (k l : Nat) (hk : k < n) (hl : l < n) (hkl : k ≠ l) (h : ∀ i, i < n → i ≠ k → i ≠ l → f i = 0) : zw f n = f k + f l := by
 have e : zw f n = zw (fun i => (if i = k then f k else 0) + (if i = k then 0 else f i)) n := by
  refine zo (fun i hi => ?_)
  by_cases hik : i = k
  ·subst hik; simp
  ·simp [hik]
 rw [e, zDJ]
 rw [zEP k hk (fun i hi hne => by simp [hne]), zEP l hl (fun i hi hne => by
  by_cases hik : i = k
  ·simp [hik]
  ·simp [hik]; exact h i hi hik hne)]
 have : ¬ l = k := fun e => hkl e.symm
 simp [this]
abbrev V := Nat → Int
abbrev Mx := Nat → V
def sg : Nat → Int
 | 0 => 1
 | n + 1 => -sg n
def skip (i : Nat) (D : Mx) : Mx := fun a c => D (if a < i then a else a + 1) (c + 1)
def det : Nat → Mx → Int
 | 0, _ => 1
 | n + 1, D => zw (fun i => sg i * (D i 0 * det n (skip i D))) (n + 1)
def put (D : Mx) (r : Nat) (v : V) : Mx := fun a => if a = r then v else D a
theorem zDY : ∀ {n : Nat} {D E : Mx}, (∀ a c, a < n → c < n → D a c = E a c) → det n D = det n E
 | 0, _, _, _ => rfl
 | n + 1, D, E, h => by
  rw [det, det]
  refine zo (fun i hi => ?_)
  rw [h i 0 hi (by omega), zDY (D := skip i D) (E := skip i E) (fun a c ha hc => ?_)]
  unfold skip
  exact h _ _ (by split <;> omega) (by omega)
theorem zDG (D : Mx) (r : Nat) (v : V) : skip r (put D r v) = skip r D := by
 funext a c
 unfold skip put
 have : ¬ (if a < r then a else a + 1) = r := by split <;> omega
 rw [if_neg this]
theorem zG4 {D : Mx} {i r : Nat} {v : V} (h : i ≠ r) : skip i (put D r v) = put (skip i D) (if r < i then r else r - 1) (fun c => v (c + 1)) := by
 funext a c
 unfold skip put
 by_cases hri : r < i
 ·rw [if_pos hri]
  by_cases ha : a = r
  ·subst ha; rw [if_pos hri]; simp
  ·by_cases hai : a < i
   ·simp [hai, ha]
   ·have : ¬ a + 1 = r := by omega
    simp [hai, ha, this]
 ·rw [if_neg hri]
  by_cases ha : a = r - 1
  ·subst ha
   have h1 : ¬ r - 1 < i := by omega
   have h2 : r - 1 + 1 = r := by omega
   simp [h1, h2]
  ·by_cases hai : a < i
   ·have : ¬ a = r := by omega
    simp [hai, ha, this]
   ·have : ¬ a + 1 = r := by omega
    simp [hai, ha, this]
/-- The determinant is linear in each row. -/
theorem zJt : ∀ (n : Nat) (D : Mx) (r : Nat) (u v : V), r < n → det n (put D r (fun c => u c + v c)) = det n (put D r u) + det n (put D r v)
 | 0, _, _, _, _, h => absurd h (Nat.not_lt_zero _)
 | n + 1, D, r, u, v, h => by
  rw [det, det, det, ← zDJ]
  refine zo (fun i hi => ?_)
  by_cases hir : i = r
  ·subst hir
   rw [zDG, zDG, zDG]
   have e : ∀ w : V, put D i w i 0 = w 0 := fun w => by simp [put]
   rw [e, e, e, Int.add_mul, Int.mul_add]
  ·have e : ∀ w : V, put D r w i 0 = D i 0 := fun w => by simp [put, hir]
   rw [zG4 hir, zG4 hir, zG4 hir, e, e, e, zJt n _ _ _ _ (by split <;> omega), Int.mul_add, Int.mul_add]
theorem zGm : ∀ (n : Nat) (D : Mx) (r : Nat) (k : Int) (v : V), r < n → det n (put D r (fun c => k * v c)) = k * det n (put D r v)
 | 0, _, _, _, _, h => absurd h (Nat.not_lt_zero _)
 | n + 1, D, r, k, v, h => by
  rw [det, det, ← zBL]
  refine zo (fun i hi => ?_)
  by_cases hir : i = r
  ·subst hir
   rw [zDG, zDG]
   have e : ∀ w : V, put D i w i 0 = w 0 := fun w => by simp [put]
   rw [e, e, Int.mul_left_comm k, Int.mul_assoc]
  ·have e : ∀ w : V, put D r w i 0 = D i 0 := fun w => by simp [put, hir]
   rw [zG4 hir, zG4 hir, e, e, zGm n _ _ _ _ (by split <;> omega), Int.mul_left_comm k, Int.mul_left_comm k]
theorem zIR (n : Nat) (D : Mx) (r : Nat) (h : r < n) : det n (put D r (fun _ => 0)) = 0 := by
 have := zGm n D r 0 (fun _ => 0) h
 simpa using this
/-- Two rows beside each other that are equal. -/
theorem zMJ : ∀ (n : Nat) (D : Mx) (r : Nat), r + 1 < n → (∀ c, c < n → D r c = D (r + 1) c) → det n D = 0
 | 0, _, _, h, _ => absurd h (Nat.not_lt_zero _)
 | n + 1, D, r, h, he => by
  rw [det, zN8 r (r + 1) (by omega) h (by omega) (fun i hi h1 h2 => ?_)]
  ·have e : det n (skip r D) = det n (skip (r + 1) D) := zDY (fun a c ha hc => by
    unfold skip
    by_cases h1 : a < r
    ·rw [if_pos h1, if_pos (by omega)]
    ·rw [if_neg h1]
     by_cases h2 : a < r + 1
     ·have : a = r := by omega
      subst this
      rw [if_pos h2]; exact (he _ (by omega)).symm
     ·rw [if_neg h2])
   rw [e, he 0 (by omega), sg, Int.neg_mul]
   omega
  ·have := zMJ n (skip i D) (if r < i then r else r - 1) (by split <;> omega) (fun c hc => by
    unfold skip
    by_cases hri : r < i
    ·rw [if_pos hri, if_pos (show r < i from hri), if_pos (show r + 1 < i by omega)]
     exact he _ (by omega)
    ·have e1 : ¬ r - 1 < i := by omega
     have e2 : ¬ r - 1 + 1 < i := by omega
     rw [if_neg hri, if_neg e1, if_neg e2, show r - 1 + 1 = r by omega]
     exact he _ (by omega))
   rw [this, Int.mul_zero, Int.mul_zero]
theorem zKW (D : Mx) {r s : Nat} (u v : V) (h : r ≠ s) : put (put D r u) s v = put (put D s v) r u := by
 funext a
 unfold put
 by_cases h1 : a = s
 ·have : ¬ a = r := fun e => h (e.symm.trans h1)
  simp [h1]
  intro e; exact absurd e.symm h
 ·simp [h1]
theorem zKX (D : Mx) (r : Nat) : put D r (D r) = D := by
 funext a; unfold put; split
 ·rename_i h; rw [h]
 ·rfl
/-- Exchange of two rows beside each other. -/
theorem det_swap (n : Nat) (D : Mx) (r : Nat) (u v : V) (h : r + 1 < n) : det n (put (put D r u) (r + 1) v) = - det n (put (put D r v) (r + 1) u) := by
 have key : ∀ w : V, det n (put (put D r w) (r + 1) w) = 0 := fun w => zMJ n _ r h (fun c _ => by unfold put; simp)
 have h0 := key (fun c => u c + v c)
 have add0 : ∀ w : V, det n (put (put D r (fun c => u c + v c)) (r + 1) w) = det n (put (put D r u) (r + 1) w) + det n (put (put D r v) (r + 1) w) := fun w => by
  rw [zKW D _ w (by omega), zJt n _ _ _ _ (by omega), zKW D u w (by omega), zKW D v w (by omega)]
 rw [zJt n _ _ _ _ h, add0, add0] at h0
 have h1 := key u
 have h2 := key v
 omega
theorem zOW : ∀ (k : Nat) (n : Nat) (D : Mx) (r : Nat), r + (k + 1) < n → (∀ c, c < n → D r c = D (r + (k + 1)) c) → det n D = 0
 | 0, n, D, r, h, he => zMJ n D r h he
 | k + 1, n, D, r, h, he => by
  have e : D = put (put D (r + (k + 1)) (D (r + (k + 1)))) (r + (k + 1) + 1) (D (r + (k + 1) + 1)) := by
   rw [zKX, zKX]
  rw [e, det_swap n D (r + (k + 1)) _ _ (by omega), zOW k n _ r (by omega) (fun c hc => ?_)]
  ·rfl
  ·have h1 : ¬ r = r + (k + 1) + 1 := by omega
   have h2 : ¬ r = r + (k + 1) := by omega
   have h3 : ¬ r + (k + 1) = r + (k + 1) + 1 := by omega
   unfold put
   rw [if_neg h1, if_neg h2, if_neg h3, if_pos rfl]
   exact he c hc
theorem det_rep (n : Nat) (D : Mx) {r s : Nat} (hr : r < n) (hs : s < n) (hne : r ≠ s) : det n (put D r (D s)) = 0 := by
 rcases Nat.lt_or_gt_of_ne hne with h | h
 ·refine zOW (s - r - 1) n _ r (by omega) (fun c _ => ?_)
  rw [show r + (s - r - 1 + 1) = s by omega]
  have : ¬ s = r := fun e => hne e.symm
  simp [put, this]
 ·refine zOW (r - s - 1) n _ s (by omega) (fun c _ => ?_)
  rw [show s + (r - s - 1 + 1) = r by omega]
  have : ¬ s = r := fun e => hne e.symm
  simp [put, this]
/-- A row that is a sum of multiples of the rows. -/
theorem zM8 (n : Nat) (D : Mx) (r : Nat) (hr : r < n) (t : V) : ∀ k, k ≤ n → det n (put D r (fun c => zw (fun i => t i * D i c) k)) = if r < k then t r * det n D else 0
 | 0, _ => by
  rw [if_neg (Nat.not_lt_zero _)]
  exact zIR n D r hr
 | k + 1, hk => by
  have ih := zM8 n D r hr t k (by omega)
  have e : (fun c => zw (fun i => t i * D i c) (k + 1)) = (fun c => (fun c => zw (fun i => t i * D i c) k) c + (fun c => t k * D k c) c) := rfl
  rw [e, zJt n D r _ _ hr, ih, zGm n D r _ _ hr]
  by_cases hkr : k = r
  ·subst hkr
   rw [if_neg (by omega), if_pos (by omega), zKX]; omega
  ·rw [det_rep n D hr (by omega) (fun e => hkr e.symm), Int.mul_zero, Int.add_zero]
   by_cases h1 : r < k
   ·rw [if_pos h1, if_pos (by omega)]
   ·rw [if_neg h1, if_neg (by omega)]
theorem zEh {n : Nat} {D : Mx} {r : Nat} (hr : r < n) {t w : V} (h : ∀ c, c < n → w c = zw (fun i => t i * D i c) n) : det n (put D r w) = t r * det n D := by
 have := zM8 n D r hr t n (Nat.le_refl _)
 rw [if_pos hr] at this
 rw [← this]
 refine zDY (fun a c _ hc => ?_)
 unfold put
 split
 ·exact h c hc
 ·rfl
def zK1 : Mx := fun a c => if a = c then 1 else 0
theorem zNA : ∀ n : Nat, det n zK1 = 1
 | 0 => rfl
 | n + 1 => by
  rw [det, zEP 0 (by omega) (fun i hi hne => by simp [zK1, hne])]
  have : det n (skip 0 zK1) = det n zK1 := zDY (fun a c _ _ => by simp [skip, zK1])
  rw [this, zNA n]; simp [sg, zK1]
/-- How great a determinant is. -/
theorem zJd {f : Nat → Int} {B : Nat} : ∀ {n : Nat}, (∀ i, i < n → (f i).natAbs ≤ B) → (zw f n).natAbs ≤ n * B
 | 0, _ => by simp [zw]
 | n + 1, h => by
  rw [zw]
  have h1 := zJd (n := n) (fun i hi => h i (by omega))
  have h2 := h n (by omega)
  have h3 := Int.natAbs_add_le (zw f n) (f n)
  rw [Nat.add_mul]; omega
theorem sg_abs : ∀ n, (sg n).natAbs = 1
 | 0 => rfl
 | n + 1 => by rw [sg, Int.natAbs_neg, sg_abs n]
def fct : Nat → Nat
 | 0 => 1
 | n + 1 => (n + 1) * fct n
theorem zI6 {B : Nat} : ∀ {n : Nat} {D : Mx}, (∀ a c, a < n → c < n → (D a c).natAbs ≤ B) → (det n D).natAbs ≤ fct n * B ^ n
 | 0, _, _ => by simp [det, fct]
 | n + 1, D, h => by
  rw [det]
  have := zJd (f := fun i => sg i * (D i 0 * det n (skip i D))) (B := B * (fct n * B ^ n)) (n := n + 1) (fun i hi => by
   rw [Int.natAbs_mul, Int.natAbs_mul, sg_abs, Nat.one_mul]
   refine Nat.mul_le_mul (h i 0 hi (by omega)) (zI6 (fun a c ha hc => ?_))
   unfold skip
   exact h _ _ (by split <;> omega) (by omega))
  refine Nat.le_trans this ?_
  rw [fct, Nat.pow_succ]
  have e : (n + 1) * (B * (fct n * B ^ n)) = (n + 1) * fct n * (B ^ n * B) := by
   rw [Nat.mul_left_comm B, Nat.mul_comm B, Nat.mul_assoc]
  omega
/-- A column of the table, and the column of the beginning that it stands for. -/
def Sol (n : Nat) (D : Mx) (d : Int) (t0 t : V) : Prop := ∀ c, c < n → zw (fun i => t i * D i c) n = d * t0 c
theorem zQC {n : Nat} {D : Mx} {d s : Int} {t0 t : V} (hd : d ≠ 0) (hs : s * s = 1) (hD : det n D = s * d) (h : Sol n D d t0 t) {i : Nat} (hi : i < n) : t i = s * det n (put D i t0) := by
 have h1 := zEh (w := fun c => d * t0 c) hi (fun c hc => (h c hc).symm)
 rw [zGm n D i d t0 hi, hD] at h1
 have h2 : d * det n (put D i t0) = d * (s * t i) := by rw [h1, Int.mul_left_comm, Int.mul_comm (t i) d, Int.mul_left_comm]
 have h3 := Int.eq_of_mul_eq_mul_left hd h2
 rw [h3, ← Int.mul_assoc, hs, Int.one_mul]
/-- The pivot: the determinant of the new rows, and exact quotients. -/
theorem zLm {n : Nat} {D : Mx} {d s : Int} {t0 t : V} (hd : d ≠ 0) (hs : s * s = 1) (hD : det n D = s * d) (h : Sol n D d t0 t) {r : Nat} (hr : r < n) : det n (put D r t0) = s * t r := by
 rw [zQC hd hs hD h hr, ← Int.mul_assoc, hs, Int.one_mul]
theorem sumZ_put {n : Nat} {D : Mx} {r : Nat} (hr : r < n) (v : V) (t : V) (c : Nat) : zw (fun i => t i * put D r v i c) n = zw (fun i => t i * D i c) n - t r * D r c + t r * v c := by
 have e : ∀ i, i < n → t i * put D r v i c = t i * D i c + (if i = r then t r * v c - t r * D r c else 0) := by
  intro i hi
  by_cases hir : i = r
  ·subst hir; simp [put]; omega
  ·simp [put, hir]
 rw [zo e, zDJ, zEP (f := fun i => if i = r then t r * v c - t r * D r c else 0) r hr (fun i hi hne => by simp [hne])]
 simp; omega
theorem zLn {n : Nat} {D : Mx} {d s : Int} {tc0 tc tj0 tj : V} (hd : d ≠ 0) (hs : s * s = 1) (hD : det n D = s * d) (hc : Sol n D d tc0 tc) (hj : Sol n D d tj0 tj) {r : Nat} (hr : r < n) (hp : tc r ≠ 0) :
 (∀ i, i < n → i ≠ r → d ∣ tj i * tc r - tc i * tj r) ∧ Sol n (put D r tc0) (tc r) tj0 (fun i => if i = r then tj r else (tj i * tc r - tc i * tj r) / d) := by
 have hD' := zLm hd hs hD hc hr
 -- the numerators are a solution of d times the new equation
 let N : V := fun i => if i = r then d * tj r else tj i * tc r - tc i * tj r
 have hN : ∀ c, c < n → zw (fun i => N i * put D r tc0 i c) n = d * tc r * tj0 c := by
  intro c hcn
  rw [sumZ_put hr]
  have e : ∀ i, i < n → N i * D i c = (tc r * (tj i * D i c) + (-(tj r)) * (tc i * D i c)) + (if i = r then d * tj r * D r c else 0) := by
   intro i hi
   by_cases hir : i = r
   ·subst hir
    simp only [N, if_true]
    have : tc i * (tj i * D i c) + -tj i * (tc i * D i c) = 0 := by
     rw [Int.neg_mul, Int.mul_left_comm]; omega
    omega
   ·simp only [N, hir, if_false, Int.add_zero]
    rw [Int.sub_mul, Int.neg_mul, Int.mul_comm (tj i) (tc r), Int.mul_assoc, Int.mul_comm (tc i) (tj r), Int.mul_assoc]; omega
  rw [zo e, zDJ, zDJ, zBL, zBL, hj c hcn, hc c hcn, zEP (f := fun i => if i = r then d * tj r * D r c else 0) r hr (fun i hi hne => by simp [hne])]
  simp only [N, if_true]
  have e1 : tc r * (d * tj0 c) = d * tc r * tj0 c := by rw [← Int.mul_assoc, Int.mul_comm (tc r) d]
  have e2 : -tj r * (d * tc0 c) = -(d * tj r * tc0 c) := by rw [Int.neg_mul, ← Int.mul_assoc, Int.mul_comm (tj r) d]
  rw [e1, e2]; omega
 have hex : ∀ i, i < n → N i = d * (s * det n (put (put D r tc0) i tj0)) := by
  intro i hi
  have h1 := zEh (D := put D r tc0) (w := fun c => d * tc r * tj0 c) hi (fun c hcn => (hN c hcn).symm)
  rw [zGm n _ i (d * tc r) tj0 hi, hD'] at h1
  have h2 : tc r * (d * (s * det n (put (put D r tc0) i tj0))) = tc r * N i := by
   have h3 : s * (d * tc r * det n (put (put D r tc0) i tj0)) = s * (N i * (s * tc r)) := by rw [h1]
   have h4 : s * (N i * (s * tc r)) = tc r * N i := by
    rw [Int.mul_left_comm, ← Int.mul_assoc s s, hs, Int.one_mul, Int.mul_comm]
   rw [h4] at h3
   rw [← h3]
   rw [Int.mul_assoc d, Int.mul_left_comm s d, Int.mul_left_comm s (tc r), Int.mul_left_comm d (tc r)]
  exact (Int.eq_of_mul_eq_mul_left hp h2).symm
 refine ⟨fun i hi hne => ?_, ?_⟩
 ·have := hex i hi
  simp only [N, hne, if_false] at this
  exact ⟨_, this⟩
 ·intro c hcn
  have h1 := hN c hcn
  have h2 : ∀ i, i < n → N i * put D r tc0 i c = d * ((fun i => if i = r then tj r else (tj i * tc r - tc i * tj r) / d) i * put D r tc0 i c) := by
   intro i hi
   by_cases hir : i = r
   ·subst hir; simp only [N, if_true]; rw [Int.mul_assoc]
   ·have h3 := hex i hi
    simp only [N, hir, if_false] at h3 ⊢
    have h4 : (tj i * tc r - tc i * tj r) / d = s * det n (put (put D r tc0) i tj0) := by rw [h3, Int.mul_ediv_cancel_left _ hd]
    rw [h4, ← Int.mul_assoc, ← h3]
  rw [zo h2, zBL, Int.mul_assoc d] at h1
  exact Int.eq_of_mul_eq_mul_left hd h1
/-- The quotient of the absolute values, with the sign of the quotient. -/
def zDi (x d : Int) : Int := if (decide (x < 0) != decide (d < 0)) = true then -((x.natAbs / d.natAbs : Nat) : Int) else ((x.natAbs / d.natAbs : Nat) : Int)
theorem zHK {q d : Int} (hd : d ≠ 0) : zDi (d * q) d = q := by
 have hn : (d * q).natAbs / d.natAbs = q.natAbs := by rw [Int.natAbs_mul, Nat.mul_div_cancel_left _ (by omega)]
 unfold zDi
 rw [hn]
 rcases Int.lt_trichotomy q 0 with hq | hq | hq
 ·rcases Int.lt_or_gt_of_ne hd with h | h
  ·have h1 : ¬ d * q < 0 := Int.not_lt.2 (Int.le_of_lt (Int.mul_pos_of_neg_of_neg h hq))
   simp [h, h1]; omega
  ·have h1 : d * q < 0 := Int.mul_neg_of_pos_of_neg h hq
   have h2 : ¬ d < 0 := by omega
   simp [h1, h2]; omega
 ·subst hq; simp
 ·rcases Int.lt_or_gt_of_ne hd with h | h
  ·have h1 : d * q < 0 := Int.mul_neg_of_neg_of_pos h hq
   simp [h, h1]; omega
  ·have h1 : ¬ d * q < 0 := Int.not_lt.2 (Int.le_of_lt (Int.mul_pos h hq))
   have h2 : ¬ d < 0 := by omega
   simp [h1, h2]; omega
theorem zLT {x d : Int} (hd : d ≠ 0) (h : d ∣ x) : zDi x d = x / d := by
 obtain ⟨q, rfl⟩ := h
 rw [zHK hd, Int.mul_ediv_cancel_left _ hd]
abbrev Tab := List (List Int)
def at2 (T : Tab) (i j : Nat) : Int := (T.getD i []).getD j 0
def zFI (R K : List Int) (p f d : Int) : List Int := (List.range R.length).map (fun j => zDi (R.getD j 0 * p - f * K.getD j 0) d)
def zEY (T : Tab) (k c : Nat) (d : Int) : Tab := (List.range T.length).map (fun i => if i = k then T.getD k [] else zFI (T.getD i []) (T.getD k []) (at2 T k c) (at2 T i c) d)
theorem getD_set {α : Type} (l : List α) (d x : α) (i j : Nat) : (l.set i x).getD j d = if j = i ∧ i < l.length then x else l.getD j d := by
 by_cases h : j = i
 ·subst h
  by_cases h2 : j < l.length
  ·simp [List.getD, h2]
  ·have : l.length ≤ j := by omega
   simp [List.getD, h2, this]
 ·have : ¬ i = j := fun e => h e.symm
  simp [List.getD, h, List.getElem?_set, this]
theorem zI8 (T : Tab) (k c : Nat) (d : Int) : (zEY T k c d).length = T.length := by simp [zEY]
theorem zQc (T : Tab) (k c : Nat) (d : Int) {i : Nat} (hi : i < T.length) : (zEY T k c d).getD i [] = if i = k then T.getD k [] else zFI (T.getD i []) (T.getD k []) (at2 T k c) (at2 T i c) d := by
 unfold zEY
 simp [List.getD, hi]
theorem zMw (T : Tab) (k c : Nat) (d : Int) {L : Nat} (hT : ∀ x ∈ T, x.length = L) {i j : Nat} (hi : i < T.length) (hj : j < L) : at2 (zEY T k c d) i j = if i = k then at2 T k j else zDi (at2 T i j * at2 T k c - at2 T i c * at2 T k j) d := by
 unfold at2
 rw [zQc T k c d hi]
 have hl : (T.getD i []).length = L := hT _ (by simp [List.getD, hi])
 by_cases h : i = k
 ·rw [if_pos h, if_pos h]
 ·rw [if_neg h, if_neg h]
  unfold zFI
  rw [hl]
  have : ∀ f : Nat → Int, ((List.range L).map f).getD j 0 = f j := fun f => by simp [List.getD, hj]
  rw [this]; rfl
theorem zNC (R K : List Int) (p f d : Int) : (zFI R K p f d).length = R.length := by simp [zFI]
theorem zI9 (T : Tab) (k c : Nat) (d : Int) {L : Nat} (hk : k < T.length) (hT : ∀ x ∈ T, x.length = L) : ∀ x ∈ zEY T k c d, x.length = L := by
 intro x hx
 obtain ⟨i, hi, rfl⟩ := List.mem_map.1 hx
 have hi : i < T.length := by simpa using hi
 split
 ·exact hT _ (by simp [List.getD, hk])
 ·rw [zNC]; exact hT _ (by simp [List.getD, hi])
end Go.Ax.Dt
namespace Go.Ax.Sx
open Go.Ax.Dt
structure St where
 rows : Tab
 den : Int
 basis : List Nat
def zHm (T : Tab) (j : Nat) : V := fun i => at2 T i j
/-- the columns of the beginning that are in the basis, and one for the costs -/
def zC8 (M : Tab) (m : Nat) (β : List Nat) : Mx := fun a => if a < m then zHm M (β.getD a 0) else fun c => if c = a then 1 else 0
/-- What each table keeps: m conditions and the costs, N unknowns and the right side. -/
structure Inv (m N : Nat) (M : Tab) (s : St) : Prop where
 n : s.rows.length = m + 1
 row : ∀ x ∈ s.rows, x.length = N + 1
 b : s.basis.length = m
 bc : ∀ i, i < m → s.basis.getD i 0 < N
 dp : 0 < s.den
 unit : ∀ i k, i < m + 1 → k < m → at2 s.rows i (s.basis.getD k 0) = if i = k then s.den else 0
 sg : ∃ σ : Int, σ * σ = 1 ∧ det (m + 1) (zC8 M m s.basis) = σ * s.den
 sol : ∀ j, j < N + 1 → Sol (m + 1) (zC8 M m s.basis) s.den (zHm M j) (zHm s.rows j)
def sgZ (p : Int) : Int := if p < 0 then -1 else 1
theorem sgZ_sq (p : Int) : sgZ p * sgZ p = 1 := by unfold sgZ; split <;> rfl
theorem zQB {p : Int} (h : p ≠ 0) : 0 < sgZ p * p := by
 unfold sgZ
 split
 ·omega
 ·omega
def zEl (T : Tab) (r c : Nat) (d : Int) : Tab := if at2 T r c < 0 then (zEY T r c d).map (fun l => l.map (fun x => -x)) else zEY T r c d
def piv (s : St) (r c : Nat) : St := ⟨zEl s.rows r c s.den, if at2 s.rows r c < 0 then -(at2 s.rows r c) else at2 s.rows r c, s.basis.set r c⟩
theorem zIh (s : St) (r c : Nat) : (piv s r c).den = sgZ (at2 s.rows r c) * at2 s.rows r c := by
 show (if at2 s.rows r c < 0 then -(at2 s.rows r c) else at2 s.rows r c) = _
 unfold sgZ
 split <;> omega
theorem at2_neg (T : Tab) (i j : Nat) : at2 (T.map (fun l => l.map (fun x => -x))) i j = -(at2 T i j) := by
 unfold at2
 simp only [List.getD, List.getElem?_map]
 cases h : T[i]? with
 | none => rfl
 | some l =>
  show ((l.map (fun x => -x))[j]?).getD 0 = -((l[j]?).getD 0)
  rw [List.getElem?_map]
  cases l[j]? <;> rfl
theorem zPP (T : Tab) (r c : Nat) (d : Int) {L : Nat} (hT : ∀ x ∈ T, x.length = L) {i j : Nat} (hi : i < T.length) (hj : j < L) :
 at2 (zEl T r c d) i j = sgZ (at2 T r c) * (if i = r then at2 T r j else zDi (at2 T i j * at2 T r c - at2 T i c * at2 T r j) d) := by
 unfold zEl sgZ
 split
 ·rw [at2_neg, zMw T r c d hT hi hj]; omega
 ·rw [zMw T r c d hT hi hj, Int.one_mul]
theorem zKV (T : Tab) (r c : Nat) (d : Int) : (zEl T r c d).length = T.length := by
 unfold zEl
 split
 ·rw [List.length_map, zI8]
 ·rw [zI8]
theorem pivT_row (T : Tab) (r c : Nat) (d : Int) {L : Nat} (hr : r < T.length) (hT : ∀ x ∈ T, x.length = L) : ∀ x ∈ zEl T r c d, x.length = L := by
 unfold zEl
 split
 ·intro x hx
  obtain ⟨y, hy, rfl⟩ := List.mem_map.1 hx
  rw [List.length_map]
  exact zI9 T r c d hr hT y hy
 ·exact zI9 T r c d hr hT
theorem basM_set {M : Tab} {m : Nat} {β : List Nat} (hb : β.length = m) {r : Nat} (hr : r < m) (c : Nat) : zC8 M m (β.set r c) = put (zC8 M m β) r (zHm M c) := by
 funext a
 show (if a < m then zHm M ((β.set r c).getD a 0) else _) = if a = r then zHm M c else (if a < m then zHm M (β.getD a 0) else _)
 by_cases ha : a < m
 ·rw [if_pos ha, if_pos ha, getD_set]
  by_cases h : a = r
  ·rw [if_pos ⟨h.symm ▸ rfl, by omega⟩, if_pos h]
  ·rw [if_neg (fun q => h q.1), if_neg h]
 ·rw [if_neg ha, if_neg ha, if_neg (by omega)]
theorem zRM {n : Nat} {D : Mx} {d : Int} {t0 t t' : V} (h : Sol n D d t0 t) (he : ∀ i, i < n → t' i = t i) : Sol n D d t0 t' := by
 intro c hc
 rw [← h c hc]
 exact zo (fun i hi => by rw [he i hi])
theorem sol_smul {n : Nat} {D : Mx} {d : Int} {t0 t : V} (k : Int) (h : Sol n D d t0 t) : Sol n D (k * d) t0 (fun i => k * t i) := by
 intro c hc
 rw [Int.mul_assoc, ← h c hc, ← zBL]
 exact zo (fun i hi => Int.mul_assoc _ _ _)
/-- A pivot keeps everything. -/
theorem Inv.piv {m N : Nat} {M : Tab} {s : St} (h : Inv m N M s) {r c : Nat} (hr : r < m) (hc : c < N) (hp : at2 s.rows r c ≠ 0) : Inv m N M (piv s r c) := by
 obtain ⟨σ, hs, hD⟩ := h.sg
 have hd : s.den ≠ 0 := by have := h.dp; omega
 have hr1 : r < m + 1 := by omega
 have hrl : r < s.rows.length := by rw [h.n]; omega
 have hb := basM_set (M := M) h.b hr c
 have hpz := zQB hp
 have hat : ∀ i j, i < m + 1 → j < N + 1 → at2 (Sx.piv s r c).rows i j = sgZ (at2 s.rows r c) * (if i = r then at2 s.rows r j else zDi (at2 s.rows i j * at2 s.rows r c - at2 s.rows i c * at2 s.rows r j) s.den) := fun i j hi hj => zPP s.rows r c s.den h.row (by rw [h.n]; exact hi) hj
 refine ⟨?_, ?_, ?_, ?_, ?_, ?_, ?_, ?_⟩
 ·show (zEl _ _ _ _).length = _
  rw [zKV, h.n]
 ·exact pivT_row s.rows r c s.den hrl h.row
 ·show (s.basis.set r c).length = m
  rw [List.length_set, h.b]
 ·intro i hi
  show (s.basis.set r c).getD i 0 < N
  rw [getD_set]
  split
  ·exact hc
  ·exact h.bc i hi
 ·rw [zIh]; exact hpz
 ·intro i k hi hk
  have hbk : (Sx.piv s r c).basis.getD k 0 = if k = r then c else s.basis.getD k 0 := by
   show (s.basis.set r c).getD k 0 = _
   rw [getD_set]
   by_cases e : k = r
   ·rw [if_pos ⟨e, by rw [h.b]; exact hr⟩, if_pos e]
   ·rw [if_neg (fun q => e q.1), if_neg e]
  rw [hbk, zIh]
  by_cases e : k = r
  ·subst e
   rw [if_pos rfl, hat i c hi (by omega)]
   by_cases e2 : i = k
   ·rw [if_pos e2, if_pos e2]
   ·rw [if_neg e2, if_neg e2]
    have : at2 s.rows i c * at2 s.rows k c - at2 s.rows i c * at2 s.rows k c = s.den * 0 := by omega
    rw [this, zHK hd, Int.mul_zero]
  ·have hrk : at2 s.rows r (s.basis.getD k 0) = 0 := by rw [h.unit r k hr1 hk, if_neg (fun q => e q.symm)]
   have hik := h.unit i k hi hk
   rw [if_neg e, hat i _ hi (by have := h.bc k hk; omega), hrk, hik]
   by_cases e2 : i = k
   ·have e5 : ¬ i = r := fun q => e (e2 ▸ q)
    rw [if_neg e5, if_pos e2, if_pos e2, Int.mul_zero, Int.sub_zero, zHK hd]
   ·rw [if_neg e2, if_neg e2]
    by_cases e3 : i = r
    ·rw [if_pos e3, Int.mul_zero]
    ·rw [if_neg e3, Int.mul_zero, Int.sub_zero]
     have : (0 : Int) * at2 s.rows r c = s.den * 0 := by omega
     rw [this, zHK hd, Int.mul_zero]
 ·refine ⟨sgZ (at2 s.rows r c) * σ, ?_, ?_⟩
  ·have := sgZ_sq (at2 s.rows r c)
   rw [Int.mul_assoc, Int.mul_left_comm σ, hs, Int.mul_one, this]
  ·show det (m + 1) (zC8 M m (s.basis.set r c)) = _
   rw [hb, zLm hd hs hD (h.sol c (by omega)) hr1, zIh]
   have := sgZ_sq (at2 s.rows r c)
   show σ * at2 s.rows r c = _
   rw [Int.mul_assoc, Int.mul_left_comm σ, ← Int.mul_assoc, this, Int.one_mul]
 ·intro j hj
  show Sol (m + 1) (zC8 M m (s.basis.set r c)) _ _ _
  rw [hb, zIh]
  obtain ⟨p1, p2⟩ := zLn hd hs hD (h.sol c (by omega)) (h.sol j hj) hr1 hp
  refine zRM (sol_smul (sgZ (at2 s.rows r c)) p2) (fun i hi => ?_)
  show at2 (Sx.piv s r c).rows i j = _
  rw [hat i j hi hj]
  by_cases e : i = r
  ·rw [if_pos e, if_pos e]; rfl
  ·rw [if_neg e, if_neg e]
   have := zLT hd (p1 i hi e)
   show _ * zDi (zHm s.rows j i * zHm s.rows c r - zHm s.rows c i * zHm s.rows j r) s.den = _
   rw [this]
/-- The elements of each table are determinants. -/
theorem Inv.bound {m N B : Nat} {M : Tab} {s : St} (h : Inv m N M s) (h1 : 1 ≤ B) (hB : ∀ i j, i < m + 1 → j < N + 1 → (at2 M i j).natAbs ≤ B) :
 (∀ i j, i < m + 1 → j < N + 1 → (at2 s.rows i j).natAbs ≤ fct (m + 1) * B ^ (m + 1)) ∧ s.den.natAbs ≤ fct (m + 1) * B ^ (m + 1) := by
 obtain ⟨σ, hs, hD⟩ := h.sg
 have hσ : σ.natAbs = 1 := by
  have := congrArg Int.natAbs hs
  rw [Int.natAbs_mul] at this
  exact Nat.eq_one_of_mul_eq_one_right (by simpa using this)
 have hd : s.den ≠ 0 := by have := h.dp; omega
 have hbas : ∀ a c, a < m + 1 → c < m + 1 → (zC8 M m s.basis a c).natAbs ≤ B := by
  intro a c ha hc
  unfold zC8
  split
  ·rename_i h2
   exact hB c _ hc (by have := h.bc a h2; omega)
  ·show (if c = a then (1 : Int) else 0).natAbs ≤ B
   split
   ·exact h1
   ·exact Nat.zero_le _
 refine ⟨fun i j hi hj => ?_, ?_⟩
 ·have h2 := zQC hd hs hD (h.sol j hj) hi
  have h3 : at2 s.rows i j = σ * det (m + 1) (put (zC8 M m s.basis) i (zHm M j)) := h2
  rw [h3, Int.natAbs_mul, hσ, Nat.one_mul]
  refine zI6 (fun a c ha hc => ?_)
  unfold put
  split
  ·exact hB c j hc hj
  ·exact hbas a c ha hc
 ·have h2 : (det (m + 1) (zC8 M m s.basis)).natAbs = s.den.natAbs := by rw [hD, Int.natAbs_mul, hσ, Nat.one_mul]
  rw [← h2]
  exact zI6 hbas
theorem zGU (f : Nat → Nat → Int) (m : Nat) : ∀ n : Nat, zw (fun i => zw (fun j => f i j) m) n = zw (fun j => zw (fun i => f i j) n) m
 | 0 => by
  show (0 : Int) = _
  rw [zB1 (f := fun j => zw (fun i => f i j) 0) (fun i _ => rfl)]
 | n + 1 => by
  show zw (fun i => zw (fun j => f i j) m) n + zw (fun j => f n j) m = _
  rw [zGU f m n, ← zDJ]
  exact zo (fun i _ => rfl)
theorem zRT (c : Int) (f : Nat → Int) (n : Nat) : zw (fun i => f i * c) n = zw f n * c := by
 rw [Int.mul_comm, ← zBL]
 exact zo (fun i _ => Int.mul_comm _ _)
theorem zCM {f : Nat → Int} {n k : Nat} (hk : k < n) : zw (fun j => if j = k then f j else 0) n = f k := by
 rw [zEP k hk (fun i hi hne => by rw [if_neg hne]), if_pos rfl]
theorem zN7 : ∀ {n : Nat} {f : Nat → Int}, 0 < zw f n → ∃ i, i < n ∧ 0 < f i
 | 0, f, h => absurd h (by show ¬ (0 : Int) < 0; omega)
 | n + 1, f, h => by
  have h : 0 < zw f n + f n := h
  by_cases h1 : 0 < f n
  ·exact ⟨n, Nat.lt_succ_self n, h1⟩
  ·obtain ⟨i, hi, h2⟩ := zN7 (n := n) (f := f) (by omega)
   exact ⟨i, by omega, h2⟩
/-- a row of the table times a vector -/
def zBq (T : Tab) (N : Nat) (x : Nat → Int) (i : Nat) : Int := zw (fun j => at2 T i j * x j) (N + 1)
/-- The vectors that satisfy the rows of the beginning satisfy the rows of each table, and the other way round. -/
theorem Inv.ker {m N : Nat} {M : Tab} {s : St} (h : Inv m N M s) (x : Nat → Int) (z : Int) :
 (∀ i, i < m + 1 → zBq M N x i + (if i = m then z else 0) = 0) ↔ (∀ i, i < m + 1 → zBq s.rows N x i + (if i = m then s.den * z else 0) = 0) := by
 obtain ⟨σ, hs, hD⟩ := h.sg
 have hd : s.den ≠ 0 := by have := h.dp; omega
 let t : V := fun i => zBq s.rows N x i + (if i = m then s.den * z else 0)
 have key : ∀ c, c < m + 1 → zw (fun i => t i * zC8 M m s.basis i c) (m + 1) = s.den * (zBq M N x c + (if c = m then z else 0)) := by
  intro c hc
  have e1 : ∀ i, i < m + 1 → t i * zC8 M m s.basis i c = zw (fun j => x j * (at2 s.rows i j * zC8 M m s.basis i c)) (N + 1) + (if i = m then s.den * z * (if c = m then 1 else 0) else 0) := by
   intro i hi
   show (zBq s.rows N x i + _) * _ = _
   rw [Int.add_mul]
   congr 1
   ·unfold zBq
    rw [← zRT]
    exact zo (fun j _ => by rw [Int.mul_comm (at2 s.rows i j), Int.mul_assoc])
   ·by_cases e : i = m
    ·subst e
     rw [if_pos rfl, if_pos rfl]
     congr 1
     unfold zC8
     rw [if_neg (by omega)]
    ·rw [if_neg e, if_neg e, Int.zero_mul]
  rw [zo e1, zDJ, zGU, zCM (f := fun i => s.den * z * (if c = m then 1 else 0)) (Nat.lt_succ_self m)]
  have e2 : ∀ j, j < N + 1 → zw (fun i => x j * (at2 s.rows i j * zC8 M m s.basis i c)) (m + 1) = s.den * (at2 M c j * x j) := by
   intro j hj
   rw [zBL]
   have := h.sol j hj c hc
   have : zw (fun i => at2 s.rows i j * zC8 M m s.basis i c) (m + 1) = s.den * at2 M c j := this
   rw [this, Int.mul_left_comm, Int.mul_comm (x j)]
  rw [zo e2, zBL, Int.mul_add]
  congr 1
  split
  ·rw [Int.mul_one]
  ·rw [Int.mul_zero, Int.mul_zero]
 constructor
 ·intro h0 i hi
  have h1 := zEh (D := zC8 M m s.basis) (t := t) (w := fun _ => 0) hi (fun c hc => by rw [key c hc, h0 c hc, Int.mul_zero])
  rw [zIR (m + 1) _ i hi, hD] at h1
  have hσ : σ ≠ 0 := fun e => by rw [e] at hs; exact absurd hs (by decide)
  rcases Int.mul_eq_zero.1 h1.symm with h2 | h2
  ·exact h2
  ·rcases Int.mul_eq_zero.1 h2 with h3 | h3
   ·exact absurd h3 hσ
   ·exact absurd h3 hd
 ·intro h0 c hc
  have h1 := key c hc
  rw [zB1 (fun i hi => by show t i * _ = 0; rw [show t i = 0 from h0 i hi, Int.zero_mul])] at h1
  rcases Int.mul_eq_zero.1 h1.symm with h2 | h2
  ·exact absurd h2 hd
  ·exact h2
/-- One table told by another one. -/
theorem Inv.cross {m N : Nat} {M : Tab} {s s' : St} (h : Inv m N M s) (h' : Inv m N M s') {i c : Nat} (hi : i < m + 1) (hc : c < N + 1) :
 s.den * at2 s'.rows i c = zw (fun k => at2 s'.rows i (s.basis.getD k 0) * at2 s.rows k c) m + (if i = m then s'.den * at2 s.rows m c else 0) := by
 let x : Nat → Int := fun j => (if j = c then s.den else 0) - zw (fun k => if j = s.basis.getD k 0 then at2 s.rows k c else 0) m
 have hx : ∀ (T : Tab) (i : Nat), zBq T N x i = at2 T i c * s.den - zw (fun k => at2 T i (s.basis.getD k 0) * at2 s.rows k c) m := by
  intro T i
  unfold zBq
  have e1 : ∀ j, j < N + 1 → at2 T i j * x j = (if j = c then at2 T i j * s.den else 0) + zw (fun k => if j = s.basis.getD k 0 then -(at2 T i j * at2 s.rows k c) else 0) m := by
   intro j hj
   show _ * ((if j = c then s.den else 0) - _) = _
   rw [Int.mul_sub, Int.sub_eq_add_neg]
   congr 1
   ·split
    ·rfl
    ·rw [Int.mul_zero]
   ·rw [← Int.mul_neg, show -(zw (fun k => if j = s.basis.getD k 0 then at2 s.rows k c else 0) m) = zw (fun k => -1 * (if j = s.basis.getD k 0 then at2 s.rows k c else 0)) m from by rw [zBL]; omega, ← zBL]
    exact zo (fun k _ => by
     split
     ·rw [Int.neg_mul, Int.one_mul, Int.mul_neg]
     ·rw [Int.mul_zero, Int.mul_zero])
  rw [zo e1, zDJ, zCM (f := fun j => at2 T i j * s.den) hc, zGU, Int.sub_eq_add_neg]
  congr 1
  have e2 : ∀ k, k < m → zw (fun j => if j = s.basis.getD k 0 then -(at2 T i j * at2 s.rows k c) else 0) (N + 1) = -1 * (at2 T i (s.basis.getD k 0) * at2 s.rows k c) := by
   intro k hk
   rw [zCM (f := fun j => -(at2 T i j * at2 s.rows k c)) (by have := h.bc k hk; omega)]
   omega
  rw [zo e2, zBL]
  omega
 have h1 : ∀ i, i < m + 1 → zBq s.rows N x i + (if i = m then s.den * (-(at2 s.rows m c)) else 0) = 0 := by
  intro i hi
  rw [hx]
  by_cases e : i = m
  ·subst e
   rw [if_pos rfl, zB1 (fun k hk => by rw [h.unit i k (by omega) hk, if_neg (by omega), Int.zero_mul]), Int.mul_neg, Int.mul_comm]
   omega
  ·rw [if_neg e]
   have e3 : ∀ k, k < m → at2 s.rows i (s.basis.getD k 0) * at2 s.rows k c = if k = i then s.den * at2 s.rows k c else 0 := by
    intro k hk
    rw [h.unit i k hi hk]
    by_cases e4 : i = k
    ·rw [if_pos e4, if_pos e4.symm]
    ·rw [if_neg e4, if_neg (fun q => e4 q.symm), Int.zero_mul]
   rw [zo e3, zCM (f := fun k => s.den * at2 s.rows k c) (by omega), Int.mul_comm]
   omega
 have h2 := (h'.ker x (-(at2 s.rows m c))).1 ((h.ker x (-(at2 s.rows m c))).2 h1) i hi
 rw [hx, Int.mul_comm] at h2
 by_cases e : i = m
 ·rw [if_pos e] at h2 ⊢
  rw [Int.mul_neg] at h2
  omega
 ·rw [if_neg e] at h2 ⊢
  omega
/-- the first column with a negative cost, or w -/
def zCR (T : Tab) (m : Nat) : Nat → Nat → Nat
 | 0, c => c
 | f + 1, c => if at2 T m c < 0 then c else zCR T m f (c + 1)
theorem zE2 (T : Tab) (m : Nat) : ∀ f c, c ≤ zCR T m f c ∧ zCR T m f c ≤ c + f ∧ (∀ a, c ≤ a → a < zCR T m f c → 0 ≤ at2 T m a) ∧ (zCR T m f c < c + f → at2 T m (zCR T m f c) < 0)
 | 0, c => ⟨Nat.le_refl _, Nat.le_refl _, fun a h1 h2 => absurd h2 (by rw [zCR]; omega), fun h => absurd h (by rw [zCR]; omega)⟩
 | f + 1, c => by
  rw [zCR]
  by_cases h : at2 T m c < 0
  ·rw [if_pos h]
   exact ⟨Nat.le_refl _, by omega, fun a h1 h2 => absurd h2 (by omega), fun _ => h⟩
  ·rw [if_neg h]
   obtain ⟨h1, h2, h3, h4⟩ := zE2 T m f (c + 1)
   refine ⟨by omega, by omega, fun a ha hb => ?_, fun hb => h4 (by omega)⟩
   by_cases e : a = c
   ·subst e; omega
   ·exact h3 a (by omega) hb
/-- the row that leaves -/
def zHl (T : Tab) (β : List Nat) (c e k b : Nat) : Prop := at2 T k e * at2 T b c < at2 T b e * at2 T k c ∨ at2 T k e * at2 T b c = at2 T b e * at2 T k c ∧ β.getD k 0 < β.getD b 0
instance (T : Tab) (β : List Nat) (c e k b : Nat) : Decidable (zHl T β c e k b) := by unfold zHl; infer_instance
def zBZ (T : Tab) (β : List Nat) (c e : Nat) : Nat → Option Nat
 | 0 => none
 | k + 1 => match zBZ T β c e k with
  | none => if at2 T k c ≤ 0 then none else some k
  | some b => if at2 T k c ≤ 0 then some b else if zHl T β c e k b then some k else some b
theorem zHt (T : Tab) (β : List Nat) (c e : Nat) : ∀ n, zBZ T β c e n = none → ∀ i, i < n → at2 T i c ≤ 0
 | 0, _, i, hi => absurd hi (Nat.not_lt_zero _)
 | n + 1, h, i, hi => by
  rw [zBZ] at h
  cases hl : zBZ T β c e n with
  | none =>
   rw [hl] at h
   simp only at h
   split at h
   ·rename_i h1
    by_cases e2 : i = n
    ·rw [e2]; exact h1
    ·exact zHt T β c e n hl i (by omega)
   ·cases h
  | some b =>
   rw [hl] at h
   simp only at h
   split at h
   ·cases h
   ·split at h <;> cases h
theorem zKP {a x y : Int} (ha : 0 < a) (h : a * x ≤ a * y) : x ≤ y := Int.le_of_mul_le_mul_left h ha
/-- what the chosen row is -/
structure Least (T : Tab) (β : List Nat) (c e n b : Nat) : Prop where
 lt : b < n
 pos : 0 < at2 T b c
 le : ∀ i, i < n → 0 < at2 T i c → at2 T b e * at2 T i c ≤ at2 T i e * at2 T b c ∧ (at2 T b e * at2 T i c = at2 T i e * at2 T b c → β.getD b 0 ≤ β.getD i 0)
theorem zGJ (T : Tab) (β : List Nat) (c e : Nat) : ∀ n b, zBZ T β c e n = some b → Least T β c e n b
 | 0, b, h => by rw [zBZ] at h; cases h
 | n + 1, b, h => by
  rw [zBZ] at h
  cases hl : zBZ T β c e n with
  | none =>
   have hn := zHt T β c e n hl
   rw [hl] at h
   simp only at h
   split at h
   ·cases h
   ·rename_i h1
    obtain rfl : n = b := by simpa using h
    refine ⟨Nat.lt_succ_self _, by omega, fun i hi hp => ?_⟩
    by_cases e2 : i = n
    ·subst e2
     exact ⟨Int.le_refl _, fun _ => Nat.le_refl _⟩
    ·exact absurd (hn i (by omega)) (by omega)
  | some d =>
   have hd := zGJ T β c e n d hl
   rw [hl] at h
   simp only at h
   split at h
   ·rename_i h1
    obtain rfl : d = b := by simpa using h
    refine ⟨by have := hd.lt; omega, hd.pos, fun i hi hp => ?_⟩
    by_cases e2 : i = n
    ·subst e2; omega
    ·exact hd.le i (by omega) hp
   ·rename_i h1
    have h1 : 0 < at2 T n c := by omega
    split at h
    ·rename_i h2
     obtain rfl : n = b := by simpa using h
     refine ⟨Nat.lt_succ_self _, h1, fun i hi hp => ?_⟩
     by_cases e2 : i = n
     ·subst e2; exact ⟨Int.le_refl _, fun _ => Nat.le_refl _⟩
     ·obtain ⟨g1, g2⟩ := hd.le i (by omega) hp
      have hdp := hd.pos
      -- n against d, d against i
      have a1 : at2 T n e * at2 T d c ≤ at2 T d e * at2 T n c := by
       rcases h2 with h2 | h2
       ·omega
       ·omega
      have b1 := Int.mul_le_mul_of_nonneg_right a1 (Int.le_of_lt hp)
      have b2 := Int.mul_le_mul_of_nonneg_right g1 (Int.le_of_lt h1)
      have c1 : at2 T d c * (at2 T n e * at2 T i c) = at2 T n e * at2 T d c * at2 T i c := by grind
      have c2 : at2 T d c * (at2 T i e * at2 T n c) = at2 T i e * at2 T d c * at2 T n c := by grind
      have c3 : at2 T d e * at2 T n c * at2 T i c = at2 T d e * at2 T i c * at2 T n c := by grind
      refine ⟨zKP hdp (by omega), fun he => ?_⟩
      have d1 : at2 T d c * (at2 T n e * at2 T i c) = at2 T d c * (at2 T i e * at2 T n c) := by rw [he]
      -- all equal
      have d2 : at2 T n e * at2 T d c * at2 T i c = at2 T d e * at2 T n c * at2 T i c := by omega
      have d3 : at2 T n e * at2 T d c = at2 T d e * at2 T n c := Int.eq_of_mul_eq_mul_right (by omega) d2
      have d4 : at2 T d e * at2 T i c * at2 T n c = at2 T i e * at2 T d c * at2 T n c := by omega
      have d5 : at2 T d e * at2 T i c = at2 T i e * at2 T d c := Int.eq_of_mul_eq_mul_right (by omega) d4
      rcases h2 with h2 | h2
      ·omega
      ·have := g2 d5
       omega
    ·rename_i h2
     obtain rfl : d = b := by simpa using h
     refine ⟨by have := hd.lt; omega, hd.pos, fun i hi hp => ?_⟩
     by_cases e2 : i = n
     ·subst e2
      unfold zHl at h2
      refine ⟨by omega, fun he => ?_⟩
      omega
     ·exact hd.le i (by omega) hp
/-- One step: none if nothing can be improved, or if there is no end. -/
def zBw (m N w : Nat) (s : St) : Option St :=
 if zCR s.rows m w 0 = w then none
 else match zBZ s.rows s.basis (zCR s.rows m w 0) N m with
  | none => none
  | some r => some (piv s r (zCR s.rows m w 0))
def zAa (m N w : Nat) (s : St) : Nat → St
 | 0 => s
 | k + 1 => (zBw m N w (zAa m N w s k)).getD (zAa m N w s k)
def zDf (m N : Nat) (s : St) : Prop := ∀ i, i < m → 0 ≤ at2 s.rows i N
theorem zJO {m N w : Nat} {s s' : St} (h : zBw m N w s = some s') : ∃ c r, c < w ∧ at2 s.rows m c < 0 ∧ (∀ a, a < c → 0 ≤ at2 s.rows m a) ∧ Least s.rows s.basis c N m r ∧ s' = piv s r c := by
 unfold zBw at h
 obtain ⟨e1, e2, e3, e4⟩ := zE2 s.rows m w 0
 split at h
 ·cases h
 ·rename_i h1
  split at h
  ·cases h
  ·rename_i r hr
   refine ⟨_, r, by omega, e4 (by omega), fun a ha => e3 a (Nat.zero_le _) ha, zGJ _ _ _ _ _ _ hr, ?_⟩
   exact (Option.some.inj h).symm
/-- the elements after a pivot, without quotients -/
theorem Inv.entry {m N : Nat} {M : Tab} {s : St} (h : Inv m N M s) {r c : Nat} (hr : r < m) (hc : c < N) (hp : at2 s.rows r c ≠ 0) {i j : Nat} (hi : i < m + 1) (hj : j < N + 1) :
 s.den * at2 (Sx.piv s r c).rows i j = sgZ (at2 s.rows r c) * (if i = r then s.den * at2 s.rows r j else at2 s.rows i j * at2 s.rows r c - at2 s.rows i c * at2 s.rows r j) := by
 obtain ⟨σ, hs, hD⟩ := h.sg
 have hd : s.den ≠ 0 := by have := h.dp; omega
 obtain ⟨p1, _⟩ := zLn hd hs hD (h.sol c (by omega)) (h.sol j hj) (show r < m + 1 by omega) hp
 have := zPP s.rows r c s.den h.row (i := i) (j := j) (by rw [h.n]; exact hi) hj
 have e : at2 (Sx.piv s r c).rows i j = at2 (zEl s.rows r c s.den) i j := rfl
 rw [e, this, Int.mul_left_comm]
 congr 1
 by_cases e : i = r
 ·rw [if_pos e, if_pos e]
 ·have e3 := zLT hd (p1 i hi e)
  have e4 := Int.mul_ediv_cancel' (p1 i hi e)
  rw [← e3] at e4
  rw [if_neg e, if_neg e]
  exact e4
theorem Inv.feas_step {m N : Nat} {M : Tab} {s : St} (h : Inv m N M s) (hf : zDf m N s) {r c : Nat} (hc : c < N) (hl : Least s.rows s.basis c N m r) : zDf m N (Sx.piv s r c) := by
 intro i hi
 have hp := hl.pos
 have h1 := h.entry hl.lt hc (by omega) (i := i) (j := N) (by omega) (by omega)
 have hd := h.dp
 have hsg : sgZ (at2 s.rows r c) = 1 := by unfold sgZ; rw [if_neg (by omega)]
 rw [hsg, Int.one_mul] at h1
 have : 0 ≤ s.den * at2 (Sx.piv s r c).rows i N := by
  rw [h1]
  split
  ·exact Int.mul_nonneg (Int.le_of_lt hd) (hf r hl.lt)
  ·by_cases hpi : 0 < at2 s.rows i c
   ·have := (hl.le i hi hpi).1
    rw [Int.mul_comm (at2 s.rows i c)]
    omega
   ·have h2 := Int.mul_nonneg (hf i hi) (Int.le_of_lt hp)
    have h3 := Int.mul_nonneg (show 0 ≤ -(at2 s.rows i c) by omega) (hf r hl.lt)
    rw [Int.neg_mul] at h3
    omega
 exact Int.le_of_mul_le_mul_left (by rw [Int.mul_zero]; exact this) hd
/-- Pigeons. -/
theorem pig : ∀ (K : Nat) (f : Nat → Nat), (∀ i, i ≤ K → f i < K) → ∃ a b, a < b ∧ b ≤ K ∧ f a = f b
 | 0, f, h => absurd (h 0 (Nat.le_refl _)) (Nat.not_lt_zero _)
 | K + 1, f, h => by
  by_cases hx : ∃ a, a ≤ K ∧ f a = f (K + 1)
  ·obtain ⟨a, h1, h2⟩ := hx
   exact ⟨a, K + 1, by omega, Nat.le_refl _, h2⟩
  ·have hne : ∀ a, a ≤ K → f a ≠ f (K + 1) := fun a ha e => hx ⟨a, ha, e⟩
   obtain ⟨a, b, h1, h2, h3⟩ := pig K (fun i => if f i < f (K + 1) then f i else f i - 1) (fun i hi => by
    have e1 := h i (by omega)
    have e2 := h (K + 1) (Nat.le_refl _)
    have e3 := hne i hi
    show (if f i < f (K + 1) then f i else f i - 1) < K
    split <;> omega)
   refine ⟨a, b, h1, by omega, ?_⟩
   have e1 := hne a (by omega)
   have e2 := hne b h2
   have h3 : (if f a < f (K + 1) then f a else f a - 1) = (if f b < f (K + 1) then f b else f b - 1) := h3
   split at h3 <;> split at h3 <;> omega
def zFH (N : Nat) : List Nat → Nat
 | [] => 0
 | x :: r => x + N * zFH N r
theorem zPX {N : Nat} : ∀ (l : List Nat), (∀ x ∈ l, x < N) → zFH N l < N ^ l.length
 | [], _ => by rw [zFH, List.length_nil, Nat.pow_zero]; exact Nat.one_pos
 | x :: r, h => by
  have h1 := zPX r (fun y hy => h y (by simp [hy]))
  have h2 := h x (by simp)
  rw [zFH, List.length_cons, Nat.pow_succ]
  have h3 : N * (zFH N r + 1) ≤ N * N ^ r.length := Nat.mul_le_mul_left _ h1
  rw [Nat.mul_add, Nat.mul_one] at h3
  rw [Nat.mul_comm (N ^ r.length)]
  omega
theorem zM3 {N : Nat} : ∀ (l l' : List Nat), l.length = l'.length → (∀ x ∈ l, x < N) → (∀ x ∈ l', x < N) → zFH N l = zFH N l' → l = l'
 | [], [], _, _, _, _ => rfl
 | [], _ :: _, h, _, _, _ => by simp at h
 | _ :: _, [], h, _, _, _ => by simp at h
 | x :: r, y :: q, hl, h, h', e => by
  have h1 := h x (by simp)
  have h2 := h' y (by simp)
  rw [zFH, zFH] at e
  have e1 := congrArg (fun n => n % N) e
  simp only [Nat.add_mul_mod_self_left, Nat.mod_eq_of_lt h1, Nat.mod_eq_of_lt h2] at e1
  subst e1
  have e2 : zFH N r = zFH N q := Nat.eq_of_mul_eq_mul_left (by omega) (show N * zFH N r = N * zFH N q by omega)
  rw [zM3 r q (by simpa using hl) (fun z hz => h z (by simp [hz])) (fun z hz => h' z (by simp [hz])) e2]
/-- An endless row of tables. -/
structure Endless (m N : Nat) (M : Tab) (s : Nat → St) (c r : Nat → Nat) : Prop where
 inv : ∀ k, Inv m N M (s k)
 feas : ∀ k, zDf m N (s k)
 cN : ∀ k, c k < N
 neg : ∀ k, at2 (s k).rows m (c k) < 0
 low : ∀ k a, a < c k → 0 ≤ at2 (s k).rows m a
 lea : ∀ k, Least (s k).rows (s k).basis (c k) N m (r k)
 nx : ∀ k, s (k + 1) = piv (s k) (r k) (c k)
def zCa (m : Nat) (s : St) (v : Nat) : Prop := ∃ i, i < m ∧ s.basis.getD i 0 = v
theorem Inv.nodup {m N : Nat} {M : Tab} {s : St} (h : Inv m N M s) {i k : Nat} (hi : i < m) (hk : k < m) (he : s.basis.getD i 0 = s.basis.getD k 0) : i = k := by
 by_cases e : i = k
 ·exact e
 ·have h1 := h.unit i k (by omega) hk
  have h2 := h.unit i i (by omega) hi
  rw [if_neg e] at h1
  rw [if_pos rfl, he] at h2
  have := h.dp
  omega
theorem Inv.cost_basic {m N : Nat} {M : Tab} {s : St} (h : Inv m N M s) {v : Nat} (hb : zCa m s v) : at2 s.rows m v = 0 := by
 obtain ⟨i, hi, rfl⟩ := hb
 rw [h.unit m i (by omega) hi, if_neg (by omega)]
theorem zEt {m N : Nat} {M : Tab} {s : St} (h : Inv m N M s) {r c : Nat} (hr : r < m) (i : Nat) : (Sx.piv s r c).basis.getD i 0 = if i = r then c else s.basis.getD i 0 := by
 show (s.basis.set r c).getD i 0 = _
 rw [getD_set]
 by_cases e : i = r
 ·rw [if_pos ⟨e, by rw [h.b]; exact hr⟩, if_pos e]
 ·rw [if_neg (fun q => e q.1), if_neg e]
section
variable {m N : Nat} {M : Tab} {s : Nat → St} {c r : Nat → Nat}
theorem Endless.den (h : Endless m N M s c r) (k : Nat) : (s (k + 1)).den = at2 (s k).rows (r k) (c k) := by
 rw [h.nx, zIh]
 have := (h.lea k).pos
 unfold sgZ
 rw [if_neg (by omega)]; omega
theorem Endless.entry (h : Endless m N M s c r) (k : Nat) {i j : Nat} (hi : i < m + 1) (hj : j < N + 1) :
 (s k).den * at2 (s (k + 1)).rows i j = if i = r k then (s k).den * at2 (s k).rows (r k) j else at2 (s k).rows i j * at2 (s k).rows (r k) (c k) - at2 (s k).rows i (c k) * at2 (s k).rows (r k) j := by
 have hp := (h.lea k).pos
 rw [h.nx, (h.inv k).entry (h.lea k).lt (h.cN k) (by omega) hi hj]
 have hsg : sgZ (at2 (s k).rows (r k) (c k)) = 1 := by unfold sgZ; rw [if_neg (by omega)]
 rw [hsg, Int.one_mul]
/-- the value -/
def zIw (N m : Nat) (s : St) : Rat := (at2 s.rows m N : Rat) * (s.den : Rat)⁻¹
theorem zEC {x : Int} (h : 0 < x) : (0 : Rat) < (x : Rat) := by
 have := (Rat.intCast_lt_intCast (a := 0) (b := x)).2 h
 exact this
theorem zIx {m N : Nat} {s : St} (hd : 0 < s.den) : zIw N m s * (s.den : Rat) = (at2 s.rows m N : Rat) := by
 unfold zIw
 have : (s.den : Rat) ≠ 0 := fun e => by
  have := zEC hd
  rw [e] at this
  exact absurd this (by decide +kernel)
 rw [Rat.mul_assoc, Rat.inv_mul_cancel _ this, Rat.mul_one]
theorem Endless.value (h : Endless m N M s c r) (k : Nat) : zIw N m (s k) ≤ zIw N m (s (k + 1)) ∧ (zIw N m (s k) = zIw N m (s (k + 1)) → at2 (s k).rows (r k) N = 0) := by
 have hd := (h.inv k).dp
 have hd' := (h.inv (k + 1)).dp
 have hp := (h.lea k).pos
 have h1 := h.entry k (i := m) (j := N) (by omega) (by omega)
 have hrm := (h.lea k).lt
 rw [if_neg (by omega), ← h.den] at h1
 have h2 := zIx (m := m) (N := N) hd
 have h3 := zIx (m := m) (N := N) hd'
 have h4 := congrArg (fun x : Int => (x : Rat)) h1
 simp only [Rat.intCast_mul, Rat.intCast_sub] at h4
 rw [← h2, ← h3] at h4
 have hX : at2 (s k).rows m (c k) * at2 (s k).rows (r k) N ≤ 0 := by
  have := Int.mul_nonneg (show 0 ≤ -(at2 (s k).rows m (c k)) by have := h.neg k; omega) (h.feas k (r k) hrm)
  rw [Int.neg_mul] at this; omega
 have hXr : ((at2 (s k).rows m (c k) : Int) : Rat) * ((at2 (s k).rows (r k) N : Int) : Rat) ≤ 0 := by
  rw [← Rat.intCast_mul]
  exact (Rat.intCast_le_intCast (a := _) (b := 0)).2 hX
 have hpd : (0 : Rat) < ((s k).den : Rat) * ((s (k + 1)).den : Rat) := Rat.mul_pos (zEC hd) (zEC hd')
 constructor
 ·refine Rat.le_of_mul_le_mul_right ?_ hpd
  grind
 ·intro e
  rw [← e] at h4
  have h5 : ((at2 (s k).rows m (c k) : Int) : Rat) * ((at2 (s k).rows (r k) N : Int) : Rat) = 0 := by grind
  rw [← Rat.intCast_mul] at h5
  have h6 : at2 (s k).rows m (c k) * at2 (s k).rows (r k) N = 0 := Rat.intCast_inj.1 h5
  rcases Int.mul_eq_zero.1 h6 with h7 | h7
  ·have := h.neg k; omega
  ·exact h7
theorem Endless.mono (h : Endless m N M s c r) (a : Nat) : ∀ d, zIw N m (s a) ≤ zIw N m (s (a + d))
 | 0 => Rat.le_refl
 | d + 1 => Rat.le_trans (h.mono a d) (h.value (a + d)).1
/-- with the same basis the value is the same -/
theorem Endless.same (h : Endless m N M s c r) {a b : Nat} (he : (s a).basis = (s b).basis) : zIw N m (s a) = zIw N m (s b) := by
 have h1 := (h.inv a).cross (h.inv b) (i := m) (c := N) (by omega) (by omega)
 rw [if_pos rfl, zB1 (fun k hk => by rw [he, (h.inv b).unit m k (by omega) hk, if_neg (by omega), Int.zero_mul])] at h1
 have da := (h.inv a).dp
 have db := (h.inv b).dp
 have h2 := zIx (m := m) (N := N) da
 have h3 := zIx (m := m) (N := N) db
 have h4 := congrArg (fun x : Int => (x : Rat)) h1
 simp only [Rat.intCast_mul, Rat.intCast_add, Rat.intCast_zero] at h4
 rw [← h2, ← h3] at h4
 have hpd : (0 : Rat) < ((s a).den : Rat) * ((s b).den : Rat) := Rat.mul_pos (zEC da) (zEC db)
 have le1 : zIw N m (s a) ≤ zIw N m (s b) := Rat.le_of_mul_le_mul_right (by grind) hpd
 have le2 : zIw N m (s b) ≤ zIw N m (s a) := Rat.le_of_mul_le_mul_right (by grind) hpd
 exact Rat.le_antisymm le1 le2
theorem Endless.still (h : Endless m N M s c r) {a b : Nat} (he : (s a).basis = (s b).basis) {k : Nat} (h1 : a ≤ k) (h2 : k < b) : at2 (s k).rows (r k) N = 0 := by
 refine (h.value k).2 (Rat.le_antisymm (h.value k).1 ?_)
 have g1 := h.mono (k + 1) (b - (k + 1))
 rw [show k + 1 + (b - (k + 1)) = b by omega] at g1
 have g2 := h.mono a (k - a)
 rw [show a + (k - a) = k by omega] at g2
 rw [← h.same he] at g1
 exact Rat.le_trans g1 g2
/-- a variable has the value 0 -/
def Zero (m N : Nat) (s : St) (v : Nat) : Prop := ∀ i, i < m → s.basis.getD i 0 = v → at2 s.rows i N = 0
theorem Endless.zero (h : Endless m N M s c r) {k : Nat} (h0 : at2 (s k).rows (r k) N = 0) (v : Nat) : Zero m N (s k) v ↔ Zero m N (s (k + 1)) v := by
 have hp := (h.lea k).pos
 have hr := (h.lea k).lt
 have hd := (h.inv k).dp
 have hbas : ∀ i, (s (k + 1)).basis.getD i 0 = if i = r k then c k else (s k).basis.getD i 0 := fun i => by rw [h.nx]; exact zEt (h.inv k) hr i
 have hent : ∀ i, i < m → i ≠ r k → (at2 (s (k + 1)).rows i N = 0 ↔ at2 (s k).rows i N = 0) := by
  intro i hi hne
  have h1 := h.entry k (i := i) (j := N) (by omega) (by omega)
  rw [if_neg hne, h0, Int.mul_zero, Int.sub_zero] at h1
  constructor
  ·intro e
   rw [e, Int.mul_zero] at h1
   rcases Int.mul_eq_zero.1 h1.symm with h2 | h2
   ·exact h2
   ·omega
  ·intro e
   rw [e, Int.zero_mul] at h1
   rcases Int.mul_eq_zero.1 h1 with h2 | h2
   ·omega
   ·exact h2
 constructor
 ·intro hz i hi he
  rw [hbas] at he
  by_cases e : i = r k
  ·have h1 := h.entry k (i := i) (j := N) (by omega) (by omega)
   rw [if_pos e, h0, Int.mul_zero] at h1
   rcases Int.mul_eq_zero.1 h1 with h2 | h2
   ·omega
   ·exact h2
  ·rw [if_neg e] at he
   exact (hent i hi e).2 (hz i hi he)
 ·intro hz i hi he
  by_cases e : i = r k
  ·rw [e]; exact h0
  ·exact (hent i hi e).1 (hz i hi (by rw [hbas, if_neg e]; exact he))
theorem Endless.zeros (h : Endless m N M s c r) {a b : Nat} (he : (s a).basis = (s b).basis) (v : Nat) : ∀ d, a + d ≤ b → (Zero m N (s a) v ↔ Zero m N (s (a + d)) v)
 | 0, _ => Iff.rfl
 | d + 1, hd => (h.zeros he v d (by omega)).trans (h.zero (h.still he (by omega) (by omega)) v)
/-- who is in the basis -/
theorem Endless.stays (h : Endless m N M s c r) {k v : Nat} (hb : zCa m (s k) v) (hv : v ≠ (s k).basis.getD (r k) 0) : zCa m (s (k + 1)) v := by
 obtain ⟨i, hi, rfl⟩ := hb
 refine ⟨i, hi, ?_⟩
 rw [h.nx, zEt (h.inv k) (h.lea k).lt, if_neg]
 intro e; rw [e] at hv; exact hv rfl
theorem Endless.was (h : Endless m N M s c r) {k v : Nat} (hb : zCa m (s (k + 1)) v) (hv : v ≠ c k) : zCa m (s k) v := by
 obtain ⟨i, hi, rfl⟩ := hb
 have h1 := zEt (c := c k) (h.inv k) (h.lea k).lt i
 rw [← h.nx] at h1
 rw [h1] at hv ⊢
 by_cases e : i = r k
 ·rw [if_pos e] at hv; exact absurd rfl hv
 ·rw [if_neg e]; exact ⟨i, hi, rfl⟩
theorem Endless.enters (h : Endless m N M s c r) (k : Nat) : ¬ zCa m (s k) (c k) ∧ zCa m (s (k + 1)) (c k) := by
 constructor
 ·intro hb
  have := (h.inv k).cost_basic hb
  have := h.neg k
  omega
 ·refine ⟨r k, (h.lea k).lt, ?_⟩
  rw [h.nx, zEt (h.inv k) (h.lea k).lt, if_pos rfl]
theorem Endless.false (h : Endless m N M s c r) : False := by
 -- a basis comes twice
 obtain ⟨a, b, hab, he⟩ : ∃ a b, a < b ∧ (s a).basis = (s b).basis := by
  have hlt : ∀ k, ∀ x ∈ (s k).basis, x < N := by
   intro k x hx
   obtain ⟨i, hi, rfl⟩ := List.getElem_of_mem hx
   have := (h.inv k).bc i (by rw [← (h.inv k).b]; exact hi)
   simpa [List.getD, hi] using this
  obtain ⟨a, b, h1, h2, h3⟩ := pig (N ^ m) (fun k => zFH N (s k).basis) (fun k _ => by
   have := zPX (s k).basis (hlt k)
   rwa [(h.inv k).b] at this)
  exact ⟨a, b, h1, zM3 _ _ (by rw [(h.inv a).b, (h.inv b).b]) (hlt a) (hlt b) h3⟩
 -- who is in some basis between, and not in another one, enters
 have fick : ∀ v, (∃ k, a ≤ k ∧ k ≤ b ∧ zCa m (s k) v) → (∃ k, a ≤ k ∧ k ≤ b ∧ ¬ zCa m (s k) v) → ∃ k, a ≤ k ∧ k < b ∧ c k = v := by
  rintro v ⟨k1, l1, l2, hb⟩ ⟨k2, l3, l4, hn⟩
  apply Classical.byContradiction
  intro hno
  have hno : ∀ k, a ≤ k → k < b → v ≠ c k := fun k q1 q2 e => hno ⟨k, q1, q2, e.symm⟩
  have back : ∀ d k, a ≤ k → k + d ≤ b → zCa m (s (k + d)) v → zCa m (s k) v := by
   intro d
   induction d with
   | zero => intro k _ _ hb; exact hb
   | succ d ih => intro k q1 q2 hb; exact ih k q1 (by omega) (h.was hb (hno (k + d) (by omega) (by omega)))
  have ha : zCa m (s a) v := back (k1 - a) a (Nat.le_refl _) (by omega) (by rw [show a + (k1 - a) = k1 by omega]; exact hb)
  have hbb : zCa m (s b) v := by unfold zCa at ha ⊢; rw [← he]; exact ha
  exact hn (back (b - k2) k2 l3 (by omega) (by rw [show k2 + (b - k2) = b by omega]; exact hbb))
 -- the greatest one that enters
 obtain ⟨k', q1, q2, hmax⟩ : ∃ k', a ≤ k' ∧ k' < b ∧ ∀ k, a ≤ k → k < b → c k ≤ c k' := by
  have : ∀ d, a + d < b + 0 → ∃ k', a ≤ k' ∧ k' ≤ a + d ∧ ∀ k, a ≤ k → k ≤ a + d → c k ≤ c k' := by
   intro d
   induction d with
   | zero => intro _; exact ⟨a, Nat.le_refl _, Nat.le_refl _, fun k h1 h2 => by rw [show k = a by omega]; exact Nat.le_refl _⟩
   | succ d ih =>
    intro hd
    obtain ⟨k', g1, g2, g3⟩ := ih (by omega)
    by_cases hc : c k' ≤ c (a + (d + 1))
    ·refine ⟨a + (d + 1), by omega, Nat.le_refl _, fun k h1 h2 => ?_⟩
     by_cases e : k = a + (d + 1)
     ·rw [e]; exact Nat.le_refl _
     ·exact Nat.le_trans (g3 k h1 (by omega)) hc
    ·refine ⟨k', g1, by omega, fun k h1 h2 => ?_⟩
     by_cases e : k = a + (d + 1)
     ·rw [e]; omega
     ·exact g3 k h1 (by omega)
  obtain ⟨k', g1, g2, g3⟩ := this (b - 1 - a) (by omega)
  exact ⟨k', g1, by omega, fun k h1 h2 => g3 k h1 (by omega)⟩
 obtain ⟨t1, t2⟩ := h.enters k'
 -- it leaves, too
 obtain ⟨k, l1, l2, l3⟩ : ∃ k, a ≤ k ∧ k < b ∧ (s k).basis.getD (r k) 0 = c k' := by
  apply Classical.byContradiction
  intro hno
  have hno : ∀ k, a ≤ k → k < b → c k' ≠ (s k).basis.getD (r k) 0 := fun k q1 q2 e => hno ⟨k, q1, q2, e.symm⟩
  have fwd : ∀ d k, a ≤ k → k + d ≤ b → zCa m (s k) (c k') → zCa m (s (k + d)) (c k') := by
   intro d
   induction d with
   | zero => intro k _ _ hb; exact hb
   | succ d ih => intro k q1 q2 hb; exact h.stays (ih k q1 (by omega) hb) (hno (k + d) (by omega) (by omega))
  have hb := fwd (b - (k' + 1)) (k' + 1) (by omega) (by omega) t2
  rw [show k' + 1 + (b - (k' + 1)) = b by omega] at hb
  have ha : zCa m (s a) (c k') := by unfold zCa at hb ⊢; rw [he]; exact hb
  have := fwd (k' - a) a (Nat.le_refl _) (by omega) ha
  rw [show a + (k' - a) = k' by omega] at this
  exact t1 this
 have hc1 := hmax k l1 l2
 have hlea := h.lea k
 have hc2 : c k ≠ c k' := by
  intro e
  exact (h.enters k).1 ⟨r k, hlea.lt, by rw [l3, e]⟩
 have hlow := h.low k' (c k) (by omega)
 have hX := (h.inv k).cross (h.inv k') (i := m) (c := c k) (by omega) (by have := h.cN k; omega)
 rw [if_pos rfl] at hX
 have d1 := (h.inv k).dp
 have d2 := (h.inv k').dp
 have n1 := h.neg k
 have p1 := Int.mul_nonneg (Int.le_of_lt d1) hlow
 have p2 := Int.mul_pos d2 (show 0 < -(at2 (s k).rows m (c k)) by omega)
 rw [Int.mul_neg] at p2
 obtain ⟨i, hi, hpos⟩ := zN7 (n := m) (f := fun i => at2 (s k').rows m ((s k).basis.getD i 0) * at2 (s k).rows i (c k)) (by omega)
 have hpos : 0 < at2 (s k').rows m ((s k).basis.getD i 0) * at2 (s k).rows i (c k) := hpos
 have hnb : ¬ zCa m (s k') ((s k).basis.getD i 0) := by
  intro hb
  rw [(h.inv k').cost_basic hb, Int.zero_mul] at hpos
  omega
 obtain ⟨k2, g1, g2, g3⟩ := fick ((s k).basis.getD i 0) ⟨k, l1, by omega, i, hi, rfl⟩ ⟨k', q1, by omega, hnb⟩
 have hle := hmax k2 g1 g2
 rw [g3] at hle
 have hmp : ∀ x y : Int, 0 < x * y → 0 ≤ x → 0 < x ∧ 0 < y := by
  intro x y hxy hx
  by_cases hx0 : x = 0
  ·rw [hx0, Int.zero_mul] at hxy; omega
  ·refine ⟨by omega, ?_⟩
   apply Classical.byContradiction
   intro hy
   have := Int.mul_nonneg hx (show 0 ≤ -y by omega)
   rw [Int.mul_neg] at this
   omega
 by_cases ht : (s k).basis.getD i 0 = c k'
 ·have hir : i = r k := (h.inv k).nodup hi hlea.lt (by rw [ht, l3])
  rw [ht, hir] at hpos
  have h1 := h.neg k'
  have h2 := Int.mul_pos (show 0 < -(at2 (s k').rows m (c k')) by omega) hlea.pos
  rw [Int.neg_mul] at h2
  omega
 ·have hlow2 := h.low k' ((s k).basis.getD i 0) (by omega)
  obtain ⟨w1, w2⟩ := hmp _ _ hpos hlow2
  have z' : Zero m N (s k') ((s k).basis.getD i 0) := fun j hj e => absurd ⟨j, hj, e⟩ hnb
  have za := (h.zeros he ((s k).basis.getD i 0) (k' - a) (by omega)).2 (by rw [show a + (k' - a) = k' by omega]; exact z')
  have zk := (h.zeros he ((s k).basis.getD i 0) (k - a) (by omega)).1 za
  rw [show a + (k - a) = k by omega] at zk
  have h0 := zk i hi rfl
  have hst := h.still he l1 l2
  have := (hlea.le i hi w2).2 (by rw [h0, hst, Int.zero_mul, Int.zero_mul])
  rw [l3] at this
  omega
end
/-- The algorithm ends. -/
theorem ends {m N w : Nat} {M : Tab} {s : St} (hi : Inv m N M s) (hf : zDf m N s) (hw : w ≤ N) : ∃ K, zBw m N w (zAa m N w s K) = none := by
 apply Classical.byContradiction
 intro hno
 have hno : ∀ k, zBw m N w (zAa m N w s k) ≠ none := fun k e => hno ⟨k, e⟩
 have hex : ∀ k, ∃ c r, c < w ∧ at2 (zAa m N w s k).rows m c < 0 ∧ (∀ a, a < c → 0 ≤ at2 (zAa m N w s k).rows m a) ∧ Least (zAa m N w s k).rows (zAa m N w s k).basis c N m r ∧ zAa m N w s (k + 1) = piv (zAa m N w s k) r c := by
  intro k
  cases hs : zBw m N w (zAa m N w s k) with
  | none => exact absurd hs (hno k)
  | some s' =>
   obtain ⟨c, r, h1, h2, h3, h4, h5⟩ := zJO hs
   refine ⟨c, r, h1, h2, h3, h4, ?_⟩
   show (zBw m N w (zAa m N w s k)).getD _ = _
   rw [hs, ← h5]; rfl
 have both : ∀ k, Inv m N M (zAa m N w s k) ∧ zDf m N (zAa m N w s k) := by
  intro k
  induction k with
  | zero => exact ⟨hi, hf⟩
  | succ k ih =>
   obtain ⟨c, r, h1, h2, h3, h4, h5⟩ := hex k
   rw [h5]
   have := h4.pos
   exact ⟨ih.1.piv h4.lt (by omega) (by omega), ih.1.feas_step ih.2 (by omega) h4⟩
 exact Endless.false (m := m) (N := N) (M := M) (s := zAa m N w s) (c := fun k => Classical.choose (hex k)) (r := fun k => Classical.choose (Classical.choose_spec (hex k)))
  { inv := fun k => (both k).1
    feas := fun k => (both k).2
    cN := fun k => by have := (Classical.choose_spec (Classical.choose_spec (hex k))).1; omega
    neg := fun k => (Classical.choose_spec (Classical.choose_spec (hex k))).2.1
    low := fun k => (Classical.choose_spec (Classical.choose_spec (hex k))).2.2.1
    lea := fun k => (Classical.choose_spec (Classical.choose_spec (hex k))).2.2.2.1
    nx := fun k => (Classical.choose_spec (Classical.choose_spec (hex k))).2.2.2.2 }
end Go.Ax.Sx
namespace Go.Ax.Sx
open Go.Ax.Dt
/-- a row in place of the last one -/
def zBH (T : Tab) (m : Nat) (L : List Int) : Tab := T.take m ++ [L]
theorem zJh {T : Tab} {m : Nat} (h : m ≤ T.length) (L : List Int) : (zBH T m L).length = m + 1 := by
 unfold zBH
 rw [List.length_append, List.length_take]
 show min m T.length + 1 = m + 1
 omega
theorem zJg {T : Tab} {m : Nat} (h : m ≤ T.length) (L : List Int) (i : Nat) : (zBH T m L).getD i [] = if i < m then T.getD i [] else if i = m then L else [] := by
 unfold zBH
 simp only [List.getD, List.getElem?_append, List.length_take, Nat.min_eq_left h]
 by_cases h1 : i < m
 ·rw [if_pos h1, if_pos h1, List.getElem?_take, if_pos h1]
 ·rw [if_neg h1, if_neg h1]
  by_cases h2 : i = m
  ·subst h2; simp
  ·rw [if_neg h2]
   have : [L][i - m]? = none := List.getElem?_eq_none (by simp; omega)
   rw [this]; rfl
theorem zGB {T : Tab} {m : Nat} (h : m ≤ T.length) (L : List Int) {i : Nat} (hi : i < m) (j : Nat) : at2 (zBH T m L) i j = at2 T i j := by
 unfold at2; rw [zJg h, if_pos hi]
theorem zIG {T : Tab} {m : Nat} (h : m ≤ T.length) (L : List Int) (j : Nat) : at2 (zBH T m L) m j = L.getD j 0 := by
 unfold at2; rw [zJg h, if_neg (Nat.lt_irrefl _), if_pos rfl]
theorem zA9 {f : Nat → Int} {n j : Nat} (hj : j < n) : ((List.range n).map f).getD j 0 = f j := by simp [List.getD, hj]
/-- Only the last column of the other rows is changed. -/
theorem zM9 {m : Nat} {D E : Mx} (hD : ∀ c, c < m + 1 → D m c = if c = m then 1 else 0) (hE : ∀ c, c < m + 1 → E m c = if c = m then 1 else 0) (h : ∀ a c, a < m → c < m → D a c = E a c) : det (m + 1) E = det (m + 1) D := by
 let F : Nat → Mx := fun k a => if a < k then E a else D a
 have step : ∀ k, k ≤ m → det (m + 1) (F k) = det (m + 1) D := by
  intro k
  induction k with
  | zero =>
   intro _
   exact zDY (fun a c _ _ => by show (if a < 0 then E a else D a) c = D a c; rw [if_neg (Nat.not_lt_zero _)])
  | succ k ih =>
   intro hk
   have e : det (m + 1) (F (k + 1)) = det (m + 1) (put (F k) k (E k)) := by
    refine zDY (fun a c _ _ => ?_)
    show (if a < k + 1 then E a else D a) c = (if a = k then E k else (if a < k then E a else D a)) c
    by_cases e1 : a = k
    ·subst e1; rw [if_pos (Nat.lt_succ_self _), if_pos rfl]
    ·rw [if_neg e1]
     by_cases e2 : a < k
     ·rw [if_pos (by omega), if_pos e2]
     ·rw [if_neg (by omega), if_neg e2]
   rw [e, zEh (t := fun i => if i = k then 1 else if i = m then E k m - D k m else 0) (show k < m + 1 by omega), if_pos rfl, Int.one_mul]
   ·exact ih (by omega)
   ·intro c hc
    rw [zN8 k m (by omega) (by omega) (by omega) (fun i hi h1 h2 => by rw [if_neg h1, if_neg h2, Int.zero_mul])]
    rw [if_pos rfl, if_neg (by omega), if_pos rfl, Int.one_mul]
    show E k c = (if k < k then E k else D k) c + _ * (if m < k then E m else D m) c
    rw [if_neg (Nat.lt_irrefl _), if_neg (by omega), hD c hc]
    by_cases e3 : c = m
    ·subst e3; rw [if_pos rfl]; omega
    ·rw [if_neg e3, Int.mul_zero, Int.add_zero]
     exact (h k c (by omega) (by omega)).symm
 have h2 := step m (Nat.le_refl _)
 rw [← h2]
 refine zDY (fun a c ha hc => ?_)
 show E a c = (if a < m then E a else D a) c
 by_cases e : a < m
 ·rw [if_pos e]
 ·rw [if_neg e]
  obtain rfl : a = m := by omega
  rw [hD c hc, hE c hc]
/-- the costs of a table, for costs of the columns -/
def zHG (k : Nat → Int) (m N : Nat) (s : St) : List Int := (List.range (N + 1)).map (fun j => s.den * k j - zw (fun i => k (s.basis.getD i 0) * at2 s.rows i j) m)
def recost (k : Nat → Int) (m N : Nat) (s : St) : St := ⟨zBH s.rows m (zHG k m N s), s.den, s.basis⟩
def zCP (k : Nat → Int) (m N : Nat) (M : Tab) : Tab := zBH M m ((List.range (N + 1)).map k)
theorem Inv.recost {m N : Nat} {M : Tab} {s : St} (h : Inv m N M s) (k : Nat → Int) (hM : m ≤ M.length) : Inv m N (zCP k m N M) (recost k m N s) := by
 have hT : m ≤ s.rows.length := by rw [h.n]; omega
 have r1 : ∀ i j, i < m → at2 (Sx.recost k m N s).rows i j = at2 s.rows i j := fun i j hi => zGB hT _ hi j
 have r2 : ∀ j, j < N + 1 → at2 (Sx.recost k m N s).rows m j = s.den * k j - zw (fun i => k (s.basis.getD i 0) * at2 s.rows i j) m := fun j hj => by
  show at2 (zBH _ _ _) _ _ = _
  rw [zIG hT]
  exact zA9 hj
 have m1 : ∀ i j, i < m → at2 (zCP k m N M) i j = at2 M i j := fun i j hi => zGB hM _ hi j
 have m2 : ∀ j, j < N + 1 → at2 (zCP k m N M) m j = k j := fun j hj => by
  show at2 (zBH _ _ _) _ _ = _
  rw [zIG hM]
  exact zA9 hj
 have bD : ∀ (M : Tab) c, c < m + 1 → zC8 M m s.basis m c = if c = m then 1 else 0 := fun M c hc => by
  show (if m < m then zHm M _ else fun c => if c = m then (1 : Int) else 0) c = _
  rw [if_neg (Nat.lt_irrefl _)]
 have bA : ∀ (M : Tab) a c, a < m → zC8 M m s.basis a c = at2 M c (s.basis.getD a 0) := fun M a c ha => by
  show (if a < m then zHm M _ else fun c => if c = a then (1 : Int) else 0) c = _
  rw [if_pos ha]; rfl
 have hdet := zM9 (D := zC8 M m s.basis) (E := zC8 (zCP k m N M) m s.basis) (bD M) (bD _) (fun a c ha hc => by rw [bA _ _ _ ha, bA _ _ _ ha, m1 c _ hc])
 refine ⟨zJh hT _, fun x hx => ?_, h.b, h.bc, h.dp, fun i a hi ha => ?_, ?_, fun j hj c hc => ?_⟩
 ·rcases List.mem_append.1 hx with h1 | h1
  ·exact h.row x (List.mem_of_mem_take h1)
  ·rw [List.mem_singleton.1 h1]
   unfold zHG
   rw [List.length_map, List.length_range]
 ·show at2 (Sx.recost k m N s).rows i (s.basis.getD a 0) = if i = a then s.den else 0
  by_cases e : i < m
  ·rw [r1 i _ e, h.unit i a hi ha]
  ·obtain rfl : i = m := by omega
   rw [r2 _ (by have := h.bc a ha; omega), if_neg (by omega)]
   have e2 : ∀ q, q < i → k (s.basis.getD q 0) * at2 s.rows q (s.basis.getD a 0) = if q = a then k (s.basis.getD q 0) * s.den else 0 := by
    intro q hq
    rw [h.unit q a (by omega) ha]
    split
    ·rfl
    ·rw [Int.mul_zero]
   rw [zo e2, zCM (f := fun q => k (s.basis.getD q 0) * s.den) ha, Int.mul_comm]
   omega
 ·obtain ⟨σ, h1, h2⟩ := h.sg
  exact ⟨σ, h1, by show det (m + 1) (zC8 (zCP k m N M) m s.basis) = σ * s.den; rw [hdet, h2]⟩
 ·show zw (fun i => at2 (Sx.recost k m N s).rows i j * zC8 (zCP k m N M) m s.basis i c) (m + 1) = s.den * at2 (zCP k m N M) c j
  show zw (fun i => at2 (Sx.recost k m N s).rows i j * zC8 (zCP k m N M) m s.basis i c) m + at2 (Sx.recost k m N s).rows m j * zC8 (zCP k m N M) m s.basis m c = _
  rw [bD _ c hc]
  have old := h.sol j hj c hc
  have old : zw (fun i => at2 s.rows i j * zC8 M m s.basis i c) m + at2 s.rows m j * zC8 M m s.basis m c = s.den * at2 M c j := old
  rw [bD _ c hc] at old
  by_cases e : c = m
  ·subst e
   rw [if_pos rfl, m2 j hj, r2 j hj]
   have e2 : ∀ i, i < c → at2 (Sx.recost k c N s).rows i j * zC8 (zCP k c N M) c s.basis i c = k (s.basis.getD i 0) * at2 s.rows i j := by
    intro i hi
    rw [r1 i j hi, bA _ _ _ hi, m2 _ (by have := h.bc i hi; omega), Int.mul_comm]
   rw [zo e2]
   omega
  ·rw [if_neg e, Int.mul_zero, Int.add_zero] at *
   rw [m1 c j (by omega), ← old]
   exact zo (fun i hi => by rw [r1 i j hi, bA _ _ _ hi, bA _ _ _ hi, m1 c _ (by omega)])
/-- a row times a vector with few elements -/
theorem zKh {T : Tab} {N m i c : Nat} {d : Int} {p : Nat → Nat} {y : Nat → Int} (hc : c < N + 1) (hp : ∀ k, k < m → p k < N + 1) :
 zBq T N (fun j => (if j = c then d else 0) - zw (fun k => if j = p k then y k else 0) m) i = at2 T i c * d - zw (fun k => at2 T i (p k) * y k) m := by
 unfold zBq
 have e1 : ∀ j, j < N + 1 → at2 T i j * ((if j = c then d else 0) - zw (fun k => if j = p k then y k else 0) m) = (if j = c then at2 T i j * d else 0) + zw (fun k => if j = p k then -(at2 T i j * y k) else 0) m := by
  intro j hj
  rw [Int.mul_sub, Int.sub_eq_add_neg]
  congr 1
  ·split
   ·rfl
   ·rw [Int.mul_zero]
  ·rw [← Int.mul_neg, show -(zw (fun k => if j = p k then y k else 0) m) = zw (fun k => -1 * (if j = p k then y k else 0)) m from by rw [zBL]; omega, ← zBL]
   exact zo (fun k _ => by
    split
    ·rw [Int.neg_mul, Int.one_mul, Int.mul_neg]
    ·rw [Int.mul_zero, Int.mul_zero])
 rw [zo e1, zDJ, zCM (f := fun j => at2 T i j * d) hc, zGU, Int.sub_eq_add_neg]
 congr 1
 have e2 : ∀ k, k < m → zw (fun j => if j = p k then -(at2 T i j * y k) else 0) (N + 1) = -1 * (at2 T i (p k) * y k) := by
  intro k hk
  rw [zCM (f := fun j => -(at2 T i j * y k)) (hp k hk)]
  omega
 rw [zo e2, zBL]
 omega
/-- A column for each condition with a 1 or a -1 there, and nothing else. -/
structure Slack (m N n : Nat) (M : Tab) (e : Nat → Int) : Prop where
 lt : n + m < N + 1
 sq : ∀ i, i < m → e i * e i = 1
 at' : ∀ i k, i < m → k < m → at2 M i (n + k) = if i = k then e i else 0
 cost : ∀ k, k < m → at2 M m (n + k) = 0
/-- Each row is a sum of multiples of the rows of the beginning; the factors stand at the slacks. -/
theorem Inv.combo {m N n : Nat} {M : Tab} {s : St} {e : Nat → Int} (h : Inv m N M s) (hs : Slack m N n M e) {q j : Nat} (hq : q < m + 1) (hj : j < N + 1) :
 at2 s.rows q j = zw (fun k => at2 s.rows q (n + k) * (e k * at2 M k j)) m + (if q = m then s.den * at2 M m j else 0) := by
 have hlt := hs.lt
 have hp : ∀ k, k < m → n + k < N + 1 := fun k hk => by omega
 have hker := (h.ker (fun v => (if v = j then 1 else 0) - zw (fun k => if v = n + k then e k * at2 M k j else 0) m) (-(at2 M m j))).1 (fun i hi => by
  rw [zKh hj hp, Int.mul_one]
  by_cases e1 : i = m
  ·subst e1
   rw [if_pos rfl, zB1 (fun k hk => by rw [hs.cost k hk, Int.zero_mul])]
   omega
  ·rw [if_neg e1]
   have e2 : ∀ k, k < m → at2 M i (n + k) * (e k * at2 M k j) = if k = i then e k * (e k * at2 M k j) else 0 := by
    intro k hk
    rw [hs.at' i k (by omega) hk]
    by_cases e3 : i = k
    ·rw [if_pos e3, if_pos e3.symm, e3]
    ·rw [if_neg e3, if_neg (fun q => e3 q.symm), Int.zero_mul]
   rw [zo e2, zCM (f := fun k => e k * (e k * at2 M k j)) (by omega), ← Int.mul_assoc, hs.sq i (by omega), Int.one_mul]
   omega) q hq
 rw [zKh hj hp, Int.mul_one] at hker
 by_cases e1 : q = m
 ·rw [if_pos e1] at hker ⊢
  rw [Int.mul_neg] at hker
  omega
 ·rw [if_neg e1] at hker ⊢
  omega
/-- The beginning: unit columns in the basis. -/
theorem Inv.init {T : Tab} {β : List Nat} {m N : Nat} (h1 : T.length = m + 1) (h2 : ∀ x ∈ T, x.length = N + 1) (h3 : β.length = m) (h4 : ∀ i, i < m → β.getD i 0 < N) (h5 : ∀ i k, i < m + 1 → k < m → at2 T i (β.getD k 0) = if i = k then 1 else 0) : Inv m N T ⟨T, 1, β⟩ := by
 have hu : ∀ a c, a < m + 1 → c < m + 1 → zC8 T m β a c = zK1 a c := by
  intro a c ha hc
  show (if a < m then zHm T _ else fun c => if c = a then (1 : Int) else 0) c = if a = c then 1 else 0
  by_cases e : a < m
  ·rw [if_pos e]
   show at2 T c _ = _
   rw [h5 c a hc e]
   by_cases e2 : c = a
   ·rw [if_pos e2, if_pos e2.symm]
   ·rw [if_neg e2, if_neg (fun q => e2 q.symm)]
  ·rw [if_neg e]
   by_cases e2 : c = a
   ·rw [if_pos e2]; exact (if_pos e2.symm).symm
   ·rw [if_neg e2]; exact (if_neg (fun q => e2 q.symm)).symm
 refine ⟨h1, h2, h3, h4, by show (0 : Int) < 1; omega, h5, ⟨1, Z, ?_⟩, fun j hj c hc => ?_⟩
 ·show det (m + 1) (zC8 T m β) = 1 * 1
  rw [zDY hu, zNA]; rfl
 ·show zw (fun i => at2 T i j * zC8 T m β i c) (m + 1) = 1 * at2 T c j
  have e : ∀ i, i < m + 1 → at2 T i j * zC8 T m β i c = if i = c then at2 T i j else 0 := by
   intro i hi
   rw [hu i c hi hc]
   show _ * (if i = c then (1 : Int) else 0) = _
   split
   ·rw [Int.mul_one]
   ·rw [Int.mul_zero]
  rw [zo e, zCM (f := fun i => at2 T i j) hc, Int.one_mul]
end Go.Ax.Sx
namespace Go.Ax.Rt
open Go.Ax.Bg Go.Ax.Dt
theorem zDy {α : Type} {l : List α} {j : Nat} (d : α) (h : j < l.length) : l.getD j d = l[j] := by simp [List.getD, h]
theorem zAD {α : Type} {l : List α} {j : Nat} (d : α) (h : j < l.length) : l.getD j d ∈ l := by rw [zDy d h]; exact List.getElem_mem h
theorem zJv {α : Type} {l r : List α} {j : Nat} (d : α) (h : j < l.length) : (l ++ r).getD j d = l.getD j d := by simp [List.getD, List.getElem?_append_left h]
theorem zPm {α : Type} {l : List α} {x d : α} : (l ++ [x]).getD l.length d = x := by simp [List.getD]
theorem zJx (q : Rat) : q * (q.den : Rat) = (q.num : Rat) := by
 have h : ((q.den : Int) : Rat) ≠ 0 := fun e => q.den_nz (by
  have := congrArg Rat.num e
  simpa using this)
 have h2 := Rat.num_divInt_den q
 rw [Rat.divInt_eq_div] at h2
 conv => lhs; lhs; rw [← h2]
 rw [← Rat.intCast_natCast, Rat.div_mul_cancel h]
/-- The factor that makes a row whole. -/
def zCs : Nat → List Rat → Nat
 | f, [] => f
 | f, q :: r => zCs (f * (q.den / Nat.gcd f q.den)) r
theorem fac_step (f d : Nat) : f ∣ f * (d / Nat.gcd f d) ∧ d ∣ f * (d / Nat.gcd f d) := by
 refine ⟨Nat.dvd_mul_right _ _, ?_⟩
 obtain ⟨a, ha⟩ := Nat.gcd_dvd_left f d
 have h2 : Nat.gcd f d * (d / Nat.gcd f d) = d := Nat.mul_div_cancel' (Nat.gcd_dvd_right f d)
 refine ⟨a, ?_⟩
 generalize d / Nat.gcd f d = b at *
 generalize Nat.gcd f d = g at *
 rw [ha, ← h2]
 rw [Nat.mul_assoc, Nat.mul_assoc, Nat.mul_comm a b]
theorem zND : ∀ (l : List Rat) (f : Nat), f ∣ zCs f l ∧ ∀ q ∈ l, q.den ∣ zCs f l
 | [], f => ⟨Nat.dvd_refl _, fun q hq => by simp at hq⟩
 | a :: r, f => by
  rw [zCs]
  obtain ⟨h1, h2⟩ := zND r (f * (a.den / Nat.gcd f a.den))
  obtain ⟨s1, s2⟩ := fac_step f a.den
  refine ⟨Nat.dvd_trans s1 h1, fun q hq => ?_⟩
  rcases List.mem_cons.1 hq with rfl | hq
  ·exact Nat.dvd_trans s2 h1
  ·exact h2 q hq
theorem zIX : ∀ (l : List Rat) (f : Nat), 0 < f → 0 < zCs f l
 | [], f, h => h
 | a :: r, f, h => by
  rw [zCs]
  refine zIX r _ (Nat.mul_pos h ?_)
  have h2 : Nat.gcd f a.den * (a.den / Nat.gcd f a.den) = a.den := Nat.mul_div_cancel' (Nat.gcd_dvd_right f a.den)
  have := a.den_pos
  rcases Nat.eq_zero_or_pos (a.den / Nat.gcd f a.den) with e | e
  ·rw [e, Nat.mul_zero] at h2; omega
  ·exact e
theorem zIW {k : Nat} : ∀ (l : List Rat) (f : Nat), (∀ q ∈ l, q.den < 10 ^ k) → zCs f l ≤ f * 10 ^ (k * l.length)
 | [], f, _ => by rw [zCs, List.length_nil, Nat.mul_zero, Nat.pow_zero, Nat.mul_one]; exact Nat.le_refl _
 | a :: r, f, h => by
  rw [zCs]
  refine Nat.le_trans (zIW r _ (fun q hq => h q (by simp [hq]))) ?_
  have h1 : a.den / Nat.gcd f a.den ≤ 10 ^ k := Nat.le_trans (Nat.div_le_self _ _) (Nat.le_of_lt (h a (by simp)))
  rw [List.length_cons, Nat.mul_add, Nat.mul_one, Nat.add_comm, Nat.pow_add, ← Nat.mul_assoc]
  exact Nat.mul_le_mul_right _ (Nat.mul_le_mul_left _ h1)
def zAj (l : List Rat) : List Int := l.map (fun q => q.num * ((zCs 1 l / q.den : Nat) : Int))
theorem zGX (l : List Rat) : (zAj l).length = l.length := by simp [zAj]
theorem zL8 {l : List Rat} {q : Rat} (h : q ∈ l) : ((q.num * ((zCs 1 l / q.den : Nat) : Int) : Int) : Rat) = ((zCs 1 l : Nat) : Rat) * q := by
 obtain ⟨k, hk⟩ := (zND l 1).2 q h
 rw [hk, Nat.mul_div_cancel_left _ q.den_pos, Rat.intCast_mul, Rat.natCast_mul]
 have h1 : q * (q.den : Rat) = (q.num : Rat) := zJx q
 have h2 : ((k : Int) : Rat) = (k : Rat) := Rat.intCast_natCast k
 rw [h2, ← h1]
 grind
theorem zL7 {l : List Rat} {k : Nat} (h : ∀ q ∈ l, D k q) : ∀ x ∈ zAj l, x.natAbs ≤ 10 ^ (k + k * l.length) := by
 intro x hx
 obtain ⟨q, hq, rfl⟩ := List.mem_map.1 hx
 rw [Int.natAbs_mul, Int.natAbs_natCast, Nat.pow_add]
 refine Nat.mul_le_mul (Nat.le_of_lt (h q hq).1) ?_
 have := zIW l 1 (fun q hq => (h q hq).2)
 rw [Nat.one_mul] at this
 exact Nat.le_trans (Nat.div_le_self _ _) this
theorem fct_le : ∀ {n : Nat}, n ≤ 40 → fct n ≤ 100 ^ n
 | 0, _ => Nat.le_refl _
 | n + 1, h => by
  rw [fct, Nat.pow_succ, Nat.mul_comm]
  exact Nat.mul_le_mul (fct_le (by omega)) (by omega)
theorem zPe {n k : Nat} (h : n ≤ 40) : fct n * (10 ^ k) ^ n ≤ 10 ^ ((k + 2) * n) := by
 refine Nat.le_trans (Nat.mul_le_mul_right _ (fct_le h)) ?_
 rw [← Nat.mul_pow, Nat.pow_mul, Nat.pow_add]
 refine Nat.pow_le_pow_left ?_ n
 rw [Nat.mul_comm]
 exact Nat.le_refl _
theorem zF8 (f : Nat → Int) : ∀ n, ((zw f n : Int) : Rat) = zAV (fun i => ((f i : Int) : Rat)) n
 | 0 => rfl
 | n + 1 => by rw [zw, zAV, Rat.intCast_add, zF8 f n]
theorem zJw {x : Int} (h : x ≠ 0) : (x : Rat) ≠ 0 := fun e => h (by
 have := congrArg Rat.num e
 simpa using this)
end Go.Ax.Rt
namespace Go.Ax.Sx
open Go.Ax.Dt Go.Ax.Rt Go.Ax.Bg
/-- the first conditions that need an artificial unknown -/
def zAU (B : List Rat) : Nat → List Nat
 | 0 => []
 | k + 1 => if (B.getD k 0).num < 0 then zAU B k ++ [k] else zAU B k
abbrev zBc (B : List Rat) (i : Nat) : Nat := (zAU B i).length
abbrev zGZ (B : List Rat) : Nat := zBc B B.length
theorem zIg {B : List Rat} : ∀ {n k : Nat}, k ∈ zAU B n ↔ k < n ∧ (B.getD k 0).num < 0
 | 0, k => by simp [zAU]
 | n + 1, k => by
  rw [zAU]
  split
  ·rename_i h
   rw [List.mem_append, zIg, List.mem_singleton]
   constructor
   ·rintro (h1 | h1)
    ·exact ⟨by omega, h1.2⟩
    ·rw [h1]; exact ⟨by omega, h⟩
   ·rintro ⟨h1, h2⟩
    by_cases e : k = n
    ·exact .inr e
    ·exact .inl ⟨by omega, h2⟩
  ·rename_i h
   rw [zIg]
   constructor
   ·rintro ⟨h1, h2⟩; exact ⟨by omega, h2⟩
   ·rintro ⟨h1, h2⟩
    refine ⟨?_, h2⟩
    by_cases e : k = n
    ·rw [e] at h2; exact absurd h2 h
    ·omega
theorem zMu (B : List Rat) (i : Nat) : ∀ d, zBc B i ≤ zBc B (i + d)
 | 0 => Nat.le_refl _
 | d + 1 => by
  refine Nat.le_trans (zMu B i d) ?_
  show _ ≤ (zAU B (i + d + 1)).length
  rw [zAU]
  split
  ·rw [List.length_append]; exact Nat.le_add_right _ _
  ·exact Nat.le_refl _
theorem zMv {B : List Rat} {i : Nat} (h : (B.getD i 0).num < 0) : zBc B (i + 1) = zBc B i + 1 := by
 show (zAU B (i + 1)).length = _
 rw [zAU, if_pos h, List.length_append]; rfl
theorem zI5 {B : List Rat} {i k : Nat} (h : (B.getD i 0).num < 0) (hk : i < k) : zBc B i < zBc B k := by
 have h1 := zMu B (i + 1) (k - (i + 1))
 rw [show i + 1 + (k - (i + 1)) = k by omega, zMv h] at h1
 omega
theorem art_inj {B : List Rat} {i k : Nat} (h : (B.getD i 0).num < 0) (h' : (B.getD k 0).num < 0) (e : zBc B i = zBc B k) : i = k := by
 by_cases h1 : i < k
 ·have := zI5 h h1; omega
 ·by_cases h2 : k < i
  ·have := zI5 h' h2; omega
  ·omega
theorem zJ9 (B : List Rat) : ∀ i, zBc B i ≤ i
 | 0 => Nat.le_refl _
 | i + 1 => by
  show (zAU B (i + 1)).length ≤ _
  rw [zAU]
  have := zJ9 B i
  split
  ·rw [List.length_append]
   show zBc B i + 1 ≤ _
   omega
  ·show zBc B i ≤ _
   omega
/-- a row before its sign is considered -/
def zIK (n m a : Nat) (l : List Int) (i j : Nat) : Int := if j < n then l.getD j 0 else if j = n + i then 1 else if j = n + m + a then l.getD n 0 else 0
def zG6 (n m a : Nat) (l : List Int) (i : Nat) (neg : Bool) (k j : Nat) : Int := if neg then (if j = n + m + k then 1 else -(zIK n m a l i j)) else zIK n m a l i j
def zDH (n m a : Nat) (l : List Int) (i : Nat) (neg : Bool) (k : Nat) : List Int := (List.range (n + m + a + 1)).map (zG6 n m a l i neg k)
/-- a linear program: the conditions, the right sides, and the costs -/
structure Prog where
 A : List (List Rat)
 B : List Rat
 C : List Rat
abbrev Prog.n (p : Prog) : Nat := p.C.length
abbrev Prog.m (p : Prog) : Nat := p.B.length
abbrev Prog.a (p : Prog) : Nat := zGZ p.B
abbrev Prog.N (p : Prog) : Nat := p.C.length + p.B.length + zGZ p.B
abbrev Prog.neg (p : Prog) (i : Nat) : Bool := decide ((p.B.getD i 0).num < 0)
def Prog.full (p : Prog) (i : Nat) : List Rat := p.A.getD i [] ++ [p.B.getD i 0]
def Prog.whole (p : Prog) (i : Nat) : List Int := zAj (p.full i)
/-- the factor of a row -/
def Prog.fac (p : Prog) (i : Nat) : Nat := zCs 1 (p.full i)
structure Prog.Ok (p : Prog) : Prop where
 rows : p.A.length = p.B.length
 cols : ∀ r ∈ p.A, r.length = p.C.length
def zBA (p : Prog) : Tab := (List.range p.m).map (fun i => zDH p.n p.m p.a (p.whole i) i (p.neg i) (zBc p.B i))
def zBb (p : Prog) : List Nat := (List.range p.m).map (fun i => if p.neg i then p.n + p.m + zBc p.B i else p.n + i)
def zAO (p : Prog) : St := ⟨zBA p ++ [List.replicate (p.N + 1) 0], 1, zBb p⟩
/-- the sign of a row -/
def Prog.eps (p : Prog) (i : Nat) : Int := if p.neg i then -1 else 1
theorem zMO (p : Prog) (i : Nat) : p.eps i * p.eps i = 1 := by unfold Prog.eps; split <;> rfl
theorem zCY (p : Prog) : (zBA p).length = p.m := by simp [zBA]
theorem zGT (p : Prog) : (zBb p).length = p.m := by simp [zBb]
theorem zD2 {α : Type} {f : Nat → α} {n j : Nat} {d : α} (hj : j < n) : ((List.range n).map f).getD j d = f j := by simp [List.getD, hj]
theorem zHB (p : Prog) {i j : Nat} (hi : i < p.m) (hj : j < p.N + 1) : at2 (zAO p).rows i j = zG6 p.n p.m p.a (p.whole i) i (p.neg i) (zBc p.B i) j := by
 unfold at2
 have e : (zAO p).rows.getD i [] = zDH p.n p.m p.a (p.whole i) i (p.neg i) (zBc p.B i) := by
  show (zBA p ++ _).getD i [] = _
  rw [zJv [] (by rw [zCY]; exact hi)]
  exact zD2 hi
 rw [e]
 exact zD2 hj
theorem zGh (p : Prog) (j : Nat) : at2 (zAO p).rows p.m j = 0 := by
 unfold at2
 have e : (zAO p).rows.getD p.m [] = List.replicate (p.N + 1) 0 := by
  show (zBA p ++ [_]).getD p.m [] = _
  rw [← zCY p]
  exact zPm
 rw [e]
 simp only [List.getD, List.getElem?_replicate]
 split <;> rfl
theorem zGS (p : Prog) {i : Nat} (hi : i < p.m) : (zBb p).getD i 0 = if p.neg i then p.n + p.m + zBc p.B i else p.n + i := zD2 hi
/-- the elements of the first table -/
theorem zJ3 (p : Prog) {i j : Nat} (hi : i < p.m) (hj : j < p.n) : at2 (zAO p).rows i j = p.eps i * (p.whole i).getD j 0 := by
 have hjn : j < p.C.length := hj
 have hii : i < p.B.length := hi
 rw [zHB p hi (by show j < p.C.length + p.B.length + zGZ p.B + 1; omega)]
 unfold zG6 Prog.eps zIK
 by_cases e : p.neg i = true
 ·rw [if_pos e, if_pos e, if_pos hj, if_neg (by show ¬ j = p.C.length + p.B.length + zBc p.B i; omega)]; omega
 ·rw [if_neg e, if_neg e, if_pos hj]; omega
theorem zIt (p : Prog) {i k : Nat} (hi : i < p.m) (hk : k < p.m) : at2 (zAO p).rows i (p.n + k) = if i = k then p.eps i else 0 := by
 have hii : i < p.B.length := hi
 have hkk : k < p.B.length := hk
 rw [zHB p hi (by show p.C.length + k < p.C.length + p.B.length + zGZ p.B + 1; omega)]
 unfold zG6 Prog.eps zIK
 have h1 : ¬ p.n + k < p.n := by omega
 have h2 : ¬ p.n + k = p.n + p.m + zBc p.B i := by show ¬ p.C.length + k = p.C.length + p.B.length + zBc p.B i; omega
 have h3 : ¬ p.n + k = p.n + p.m + p.a := by show ¬ p.C.length + k = p.C.length + p.B.length + zGZ p.B; omega
 rw [if_neg h2, if_neg h1, if_neg h3]
 by_cases e : i = k
 ·subst e
  rw [if_pos rfl, if_pos rfl]
 ·rw [if_neg (show ¬ p.n + k = p.n + i by omega), if_neg e]
  split <;> rfl
theorem zMm (p : Prog) {i k : Nat} (hi : i < p.m) (hk : k < p.a) : at2 (zAO p).rows i (p.n + p.m + k) = if p.neg i = true ∧ k = zBc p.B i then 1 else 0 := by
 have hii : i < p.B.length := hi
 have hkk : k < zGZ p.B := hk
 rw [zHB p hi (by show p.C.length + p.B.length + k < p.C.length + p.B.length + zGZ p.B + 1; omega)]
 unfold zG6 zIK
 have h1 : ¬ p.n + p.m + k < p.n := by omega
 have h2 : ¬ p.n + p.m + k = p.n + i := by show ¬ p.C.length + p.B.length + k = p.C.length + i; omega
 have h3 : ¬ p.n + p.m + k = p.n + p.m + p.a := by show ¬ p.C.length + p.B.length + k = p.C.length + p.B.length + zGZ p.B; omega
 rw [if_neg h1, if_neg h2, if_neg h3]
 by_cases e : p.neg i = true
 ·rw [if_pos e]
  by_cases e2 : k = zBc p.B i
  ·rw [if_pos (by omega), if_pos ⟨e, e2⟩]
  ·rw [if_neg (by omega), if_neg (fun q => e2 q.2)]; rfl
 ·rw [if_neg e, if_neg (fun q => e q.1)]
theorem zIs (p : Prog) {i : Nat} (hi : i < p.m) : at2 (zAO p).rows i p.N = p.eps i * (p.whole i).getD p.n 0 := by
 have hii : i < p.B.length := hi
 rw [zHB p hi (by show p.C.length + p.B.length + zGZ p.B < p.C.length + p.B.length + zGZ p.B + 1; omega)]
 unfold zG6 Prog.eps zIK
 have h1 : ¬ p.N < p.n := by show ¬ p.C.length + p.B.length + zGZ p.B < p.C.length; omega
 have h2 : ¬ p.N = p.n + i := by show ¬ p.C.length + p.B.length + zGZ p.B = p.C.length + i; omega
 have h3 : p.N = p.n + p.m + p.a := rfl
 rw [if_neg h1, if_neg h2, if_pos h3]
 by_cases e : p.neg i = true
 ·have e2 : (p.B.getD i 0).num < 0 := by simpa using e
  have h4 : zBc p.B i < zGZ p.B := zI5 e2 hii
  rw [if_pos e, if_pos e, if_neg (by show ¬ p.C.length + p.B.length + zGZ p.B = p.C.length + p.B.length + zBc p.B i; omega)]; omega
 ·rw [if_neg e, if_neg e]; omega
theorem zN3 (p : Prog) : Slack p.m p.N p.n (zAO p).rows p.eps := by
 refine ⟨by show p.C.length + p.B.length < p.C.length + p.B.length + zGZ p.B + 1; omega, fun i _ => zMO p i, fun i k hi hk => zIt p hi hk, fun k _ => zGh p _⟩
theorem zEv (p : Prog) : Inv p.m p.N (zAO p).rows (zAO p) := by
 refine Inv.init ?_ ?_ (zGT p) ?_ ?_
 ·show (zBA p ++ [_]).length = _
  rw [List.length_append, zCY]; rfl
 ·intro x hx
  rcases List.mem_append.1 hx with h | h
  ·obtain ⟨i, _, rfl⟩ := List.mem_map.1 h
   unfold zDH
   rw [List.length_map, List.length_range]
  ·rw [List.mem_singleton.1 h, List.length_replicate]
 ·intro i hi
  have hii : i < p.B.length := hi
  rw [zGS p hi]
  show (if p.neg i = true then p.C.length + p.B.length + zBc p.B i else p.C.length + i) < p.C.length + p.B.length + zGZ p.B
  by_cases e : p.neg i = true
  ·have h3 : zBc p.B i < zGZ p.B := zI5 (by simpa using e) hii
   rw [if_pos e]
   exact Nat.add_lt_add_left h3 _
  ·rw [if_neg e]
   omega
 ·intro i k hi hk
  have hkk : k < p.B.length := hk
  rw [zGS p hk]
  by_cases him : i = p.m
  ·rw [him, zGh, if_neg (by show ¬ p.B.length = k; omega)]
  ·have hi' : i < p.m := Nat.lt_of_le_of_ne (Nat.le_of_lt_succ hi) him
   by_cases e : p.neg k = true
   ·have e2 : (p.B.getD k 0).num < 0 := by simpa using e
    rw [if_pos e, zMm p hi' (zI5 e2 hkk)]
    by_cases e3 : i = k
    ·subst e3; rw [if_pos ⟨e, rfl⟩, if_pos rfl]
    ·rw [if_neg e3, if_neg]
     rintro ⟨q1, q2⟩
     exact e3 (art_inj (by simpa using q1) e2 q2.symm)
   ·rw [if_neg e, zIt p hi' hk]
    by_cases e3 : i = k
    ·subst e3; rw [if_pos rfl, if_pos rfl]; unfold Prog.eps; rw [if_neg e]
    ·rw [if_neg e3, if_neg e3]
theorem zD7 (p : Prog) (hp : p.Ok) {i : Nat} (hi : i < p.m) : (p.full i).length = p.n + 1 := by
 unfold Prog.full
 rw [List.length_append, hp.cols _ (zAD [] (by rw [hp.rows]; exact hi))]; rfl
theorem zJV (p : Prog) (hp : p.Ok) {i j : Nat} (hi : i < p.m) (hj : j < p.n + 1) : (p.whole i).getD j 0 = ((p.full i).getD j 0).num * ((p.fac i / ((p.full i).getD j 0).den : Nat) : Int) := by
 unfold Prog.whole zAj
 rw [zB8 _ _ 0 _ _ (by rw [zD7 p hp hi]; exact hj)]
 rfl
theorem zHY (p : Prog) (hp : p.Ok) {i j : Nat} (hi : i < p.m) (hj : j < p.n + 1) : (((p.whole i).getD j 0 : Int) : Rat) = ((p.fac i : Nat) : Rat) * (p.full i).getD j 0 := by
 rw [zJV p hp hi hj]
 exact zL8 (zAD 0 (by rw [zD7 p hp hi]; exact hj))
theorem full_x (p : Prog) (hp : p.Ok) {i j : Nat} (hi : i < p.m) (hj : j < p.n) : (p.full i).getD j 0 = (p.A.getD i []).getD j 0 := by
 unfold Prog.full
 rw [zJv 0 (by rw [hp.cols _ (zAD [] (by rw [hp.rows]; exact hi))]; exact hj)]
theorem zOj (p : Prog) (hp : p.Ok) {i : Nat} (hi : i < p.m) : (p.full i).getD p.n 0 = p.B.getD i 0 := by
 unfold Prog.full
 have := hp.cols _ (zAD [] (show i < p.A.length by rw [hp.rows]; exact hi))
 show (p.A.getD i [] ++ [_]).getD p.C.length 0 = _
 rw [← this]
 exact zPm
theorem zKp (p : Prog) (hp : p.Ok) : zDf p.m p.N (zAO p) := by
 intro i hi
 rw [zIs p hi, zJV p hp hi (Nat.lt_succ_self _), zOj p hp hi]
 have h2 : (0 : Int) ≤ ((p.fac i / (p.B.getD i 0).den : Nat) : Int) := Int.natCast_nonneg _
 unfold Prog.eps
 split
 ·rename_i e
  have e2 : (p.B.getD i 0).num < 0 := by simpa using e
  have := Int.mul_nonneg (show 0 ≤ -(p.B.getD i 0).num by omega) h2
  rw [Int.neg_mul] at this
  omega
 ·rename_i e
  have e2 : ¬ (p.B.getD i 0).num < 0 := by simpa using e
  have := Int.mul_nonneg (show 0 ≤ (p.B.getD i 0).num by omega) h2
  omega
theorem zE9 (f : Nat → Int) (a : Nat) : ∀ b, zw f (a + b) = zw f a + zw (fun k => f (a + k)) b
 | 0 => by show zw f a = zw f a + 0; omega
 | b + 1 => by
  show zw f (a + b) + f (a + b) = zw f a + (zw (fun k => f (a + k)) b + f (a + b))
  rw [zE9 f a b]; omega
theorem zFV : ∀ {n : Nat} {f : Nat → Int}, (∀ i, i < n → 0 ≤ f i) → 0 ≤ zw f n
 | 0, f, _ => Int.le_refl 0
 | n + 1, f, h => by
  have h1 := zFV (n := n) (f := f) (fun i hi => h i (by omega))
  have h2 := h n (Nat.lt_succ_self n)
  show 0 ≤ zw f n + f n
  omega
theorem zL2 : ∀ {n : Nat} {f : Nat → Int}, (∀ i, i < n → 0 ≤ f i) → zw f n = 0 → ∀ i, i < n → f i = 0
 | 0, f, _, _, i, hi => absurd hi (Nat.not_lt_zero i)
 | n + 1, f, h, h0, i, hi => by
  have h1 := zFV (n := n) (f := f) (fun i hi => h i (by omega))
  have h2 := h n (Nat.lt_succ_self n)
  have h0 : zw f n + f n = 0 := h0
  by_cases e : i = n
  ·rw [e]; omega
  ·exact zL2 (n := n) (fun i hi => h i (by omega)) (by omega) i (by omega)
theorem zEq {m N w : Nat} {M : Tab} {s : St} (hi : Inv m N M s) (hf : zDf m N s) (hw : w ≤ N) : ∀ K, Inv m N M (zAa m N w s K) ∧ zDf m N (zAa m N w s K)
 | 0 => ⟨hi, hf⟩
 | K + 1 => by
  obtain ⟨h1, h2⟩ := zEq hi hf hw K
  show Inv m N M ((zBw m N w (zAa m N w s K)).getD _) ∧ zDf m N ((zBw m N w (zAa m N w s K)).getD _)
  cases hs : zBw m N w (zAa m N w s K) with
  | none => exact ⟨h1, h2⟩
  | some s' =>
   obtain ⟨c, r, g1, g2, g3, g4, rfl⟩ := zJO hs
   have := g4.pos
   exact ⟨h1.piv g4.lt (by omega) (by omega), h1.feas_step h2 (by omega) g4⟩
/-- the column that enters, or w -/
def zCH (m w : Nat) (s : St) : Nat := zCR s.rows m w 0
theorem zLw {m N w : Nat} {s : St} (h : zBw m N w s = none) :
 (zCH m w s = w ∧ ∀ a, a < w → 0 ≤ at2 s.rows m a) ∨ (zCH m w s < w ∧ at2 s.rows m (zCH m w s) < 0 ∧ ∀ i, i < m → at2 s.rows i (zCH m w s) ≤ 0) := by
 unfold zBw at h
 obtain ⟨e1, e2, e3, e4⟩ := zE2 s.rows m w 0
 split at h
 ·rename_i h1
  exact .inl ⟨h1, fun a ha => e3 a (Nat.zero_le _) (by rw [h1]; exact ha)⟩
 ·split at h
  ·rename_i h1 _ hl
   exact .inr ⟨by unfold zCH; omega, e4 (by omega), zHt _ _ _ _ _ hl⟩
  ·cases h
/-- The vector of a column: it satisfies the conditions of the beginning. -/
def zBT (m : Nat) (s : St) (c j : Nat) : Int := (if j = c then s.den else 0) - zw (fun k => if j = s.basis.getD k 0 then at2 s.rows k c else 0) m
section
variable {m N w : Nat} {M : Tab} {s : St}
theorem Inv.vec (h : Inv m N M s) {c : Nat} (hc : c < N + 1) {i : Nat} (hi : i < m + 1) : zBq M N (zBT m s c) i = if i = m then at2 s.rows m c else 0 := by
 have := (h.ker (zBT m s c) (-(at2 s.rows m c))).2 (fun i hi => by
  rw [show zBq s.rows N (zBT m s c) i = at2 s.rows i c * s.den - zw (fun k => at2 s.rows i (s.basis.getD k 0) * at2 s.rows k c) m from zKh hc (fun k hk => by have := h.bc k hk; omega)]
  by_cases e : i = m
  ·subst e
   rw [if_pos rfl, zB1 (fun k hk => by rw [h.unit i k (by omega) hk, if_neg (by omega), Int.zero_mul]), Int.mul_neg, Int.mul_comm]
   omega
  ·rw [if_neg e]
   have e3 : ∀ k, k < m → at2 s.rows i (s.basis.getD k 0) * at2 s.rows k c = if k = i then s.den * at2 s.rows k c else 0 := by
    intro k hk
    rw [h.unit i k hi hk]
    by_cases e4 : i = k
    ·rw [if_pos e4, if_pos e4.symm]
    ·rw [if_neg e4, if_neg (fun q => e4 q.symm), Int.zero_mul]
   rw [zo e3, zCM (f := fun k => s.den * at2 s.rows k c) (by omega), Int.mul_comm]
   omega) i hi
 by_cases e : i = m
 ·rw [if_pos e] at this ⊢; omega
 ·rw [if_neg e] at this ⊢; omega
theorem Inv.vec_basic (h : Inv m N M s) {c k : Nat} (hk : k < m) : zBT m s c (s.basis.getD k 0) = (if s.basis.getD k 0 = c then s.den else 0) - at2 s.rows k c := by
 unfold zBT
 congr 1
 rw [zEP k hk (fun i hi hne => by rw [if_neg (fun e => hne (h.nodup hi hk e.symm))]), if_pos rfl]
theorem zGW {c j : Nat} (hn : ∀ k, k < m → s.basis.getD k 0 ≠ j) : zBT m s c j = if j = c then s.den else 0 := by
 unfold zBT
 rw [zB1 (fun k hk => by rw [if_neg (fun e => hn k hk e.symm)]), Int.sub_zero]
theorem Inv.vec_end (h : Inv m N M s) : zBT m s N N = s.den := by
 rw [zGW (fun k hk => by have := h.bc k hk; omega), if_pos rfl]
/-- the values are not negative -/
theorem Inv.vec_val (h : Inv m N M s) (hf : zDf m N s) {j : Nat} (hj : j < N) : zBT m s N j ≤ 0 := by
 by_cases hb : zCa m s j
 ·obtain ⟨k, hk, rfl⟩ := hb
  rw [h.vec_basic hk, if_neg (by omega)]
  have := hf k hk
  omega
 ·rw [zGW (fun k hk e => hb ⟨k, hk, e⟩), if_neg (by omega)]
  exact Int.le_refl 0
/-- a direction without an end -/
theorem Inv.vec_ray (h : Inv m N M s) {c : Nat} (hle : ∀ i, i < m → at2 s.rows i c ≤ 0) (j : Nat) : 0 ≤ zBT m s c j := by
 have hd := h.dp
 by_cases hb : zCa m s j
 ·obtain ⟨k, hk, rfl⟩ := hb
  rw [h.vec_basic hk]
  have := hle k hk
  split <;> omega
 ·rw [zGW (fun k hk e => hb ⟨k, hk, e⟩)]
  split <;> omega
end
theorem zLE {T : Tab} {m : Nat} (h : m ≤ T.length) (L L' : List Int) : zBH (zBH T m L) m L' = zBH T m L' := by
 unfold zBH
 congr 1
 rw [List.take_append_of_le_length (by rw [List.length_take]; omega), List.take_take, Nat.min_self]
theorem zM6 {T : Tab} {m N : Nat} (h : m ≤ T.length) (k k' : Nat → Int) : zCP k m N (zCP k' m N T) = zCP k m N T := zLE h _ _
theorem zJf {k : Nat → Int} {m N : Nat} {s : St} (hT : m ≤ s.rows.length) (hf : zDf m N s) : zDf m N (recost k m N s) := fun i hi => by
 show 0 ≤ at2 (zBH _ _ _) i N
 rw [zGB hT _ hi]; exact hf i hi
theorem zIQ {k : Nat → Int} {m N : Nat} {T : Tab} (hT : m ≤ T.length) (x : Nat → Int) : zBq (zCP k m N T) N x m = zw (fun j => k j * x j) (N + 1) := by
 unfold zBq
 refine zo (fun j hj => ?_)
 show at2 (zBH _ _ _) m j * _ = _
 rw [zIG hT, zA9 hj]
theorem cost_row {k : Nat → Int} {m N : Nat} {T : Tab} (hT : m ≤ T.length) (x : Nat → Int) {i : Nat} (hi : i < m) : zBq (zCP k m N T) N x i = zBq T N x i := by
 unfold zBq
 refine zo (fun j hj => ?_)
 show at2 (zBH _ _ _) i j * _ = _
 rw [zGB hT _ hi]
theorem zIP {k : Nat → Int} {m N : Nat} {T : Tab} (hT : m ≤ T.length) {j : Nat} (hj : j < N + 1) : at2 (zCP k m N T) m j = k j := by
 show at2 (zBH _ _ _) m j = _
 rw [zIG hT, zA9 hj]
theorem zGj {k : Nat → Int} {m N : Nat} {T : Tab} (hT : m ≤ T.length) {i : Nat} (hi : i < m) (j : Nat) : at2 (zCP k m N T) i j = at2 T i j := by
 show at2 (zBH _ _ _) i j = _
 rw [zGB hT _ hi]
theorem zRN (p : Prog) : (zAO p).rows.length = p.m + 1 := (zEv p).n
theorem zBD (p : Prog) : p.m ≤ (zAO p).rows.length := by rw [zRN]; exact Nat.le_succ _
/-- the costs of the first phase -/
def zCz (p : Prog) (j : Nat) : Int := if p.n + p.m ≤ j ∧ j < p.N then 1 else 0
theorem zKA (p : Prog) (j : Nat) : 0 ≤ zCz p j := by unfold zCz; split <;> omega
def ph1 (p : Prog) : St := recost (zCz p) p.m p.N (zAO p)
def M1 (p : Prog) : Tab := zCP (zCz p) p.m p.N (zAO p).rows
theorem zMd (p : Prog) : Inv p.m p.N (M1 p) (ph1 p) := (zEv p).recost (zCz p) (zBD p)
theorem zKT (p : Prog) (hp : p.Ok) : zDf p.m p.N (ph1 p) := zJf (zBD p) (zKp p hp)
/-- The first phase has no direction without an end. -/
theorem zNc {p : Prog} {s : St} (h : Inv p.m p.N (M1 p) s) {c : Nat} (hc : c < p.N) (hneg : at2 s.rows p.m c < 0) (hle : ∀ i, i < p.m → at2 s.rows i c ≤ 0) : False := by
 have h1 := h.vec (c := c) (i := p.m) (Nat.lt_succ_of_lt hc) (Nat.lt_succ_self _)
 have h2 := zIQ (k := zCz p) (N := p.N) (zBD p) (zBT p.m s c)
 have h2 : zBq (M1 p) p.N (zBT p.m s c) p.m = zw (fun j => zCz p j * zBT p.m s c j) (p.N + 1) := h2
 rw [h1, if_pos rfl] at h2
 have h3 : 0 ≤ zw (fun j => zCz p j * zBT p.m s c j) (p.N + 1) := zFV (fun j _ => Int.mul_nonneg (zKA p j) (h.vec_ray hle j))
 omega
/-- its value -/
theorem zHS {p : Prog} {s : St} (h : Inv p.m p.N (M1 p) s) (hf : zDf p.m p.N s) :
 at2 s.rows p.m p.N ≤ 0 ∧ (at2 s.rows p.m p.N = 0 → ∀ i, i < p.m → p.n + p.m ≤ s.basis.getD i 0 → at2 s.rows i p.N = 0) := by
 have h1 := h.vec (c := p.N) (i := p.m) (Nat.lt_succ_self _) (Nat.lt_succ_self _)
 have h2 : zBq (M1 p) p.N (zBT p.m s p.N) p.m = zw (fun j => zCz p j * zBT p.m s p.N j) (p.N + 1) := zIQ (k := zCz p) (N := p.N) (zBD p) (zBT p.m s p.N)
 rw [h1, if_pos rfl] at h2
 have hz : ∀ j, j < p.N + 1 → 0 ≤ zCz p j * -(zBT p.m s p.N j) := by
  intro j hj
  by_cases e : j = p.N
  ·have : zCz p j = 0 := by unfold zCz; rw [if_neg (by omega)]
   rw [this, Int.zero_mul]; exact Int.le_refl 0
  ·have := h.vec_val hf (j := j) (Nat.lt_of_le_of_ne (Nat.le_of_lt_succ hj) e)
   exact Int.mul_nonneg (zKA p j) (by omega)
 have h3 : zw (fun j => zCz p j * -(zBT p.m s p.N j)) (p.N + 1) = -(at2 s.rows p.m p.N) := by
  have : zw (fun j => zCz p j * -(zBT p.m s p.N j)) (p.N + 1) = zw (fun j => -1 * (zCz p j * zBT p.m s p.N j)) (p.N + 1) := zo (fun j _ => by rw [Int.mul_neg]; omega)
  rw [this, zBL, ← h2]; omega
 have h4 := zFV hz
 refine ⟨by omega, fun h0 i hi hb => ?_⟩
 have hbc := h.bc i hi
 have h5 := zL2 hz (by rw [h3, h0]; rfl) (s.basis.getD i 0) (Nat.lt_succ_of_lt hbc)
 have h6 : zCz p (s.basis.getD i 0) = 1 := by unfold zCz; rw [if_pos ⟨hb, hbc⟩]
 rw [h6, Int.one_mul, h.vec_basic hi, if_neg (Nat.ne_of_lt hbc)] at h5
 omega
/-- the first element of a row that is not 0 -/
def nzN (T : Tab) (i : Nat) : Nat → Nat → Nat
 | 0, c => c
 | f + 1, c => if at2 T i c ≠ 0 then c else nzN T i f (c + 1)
theorem zPv (T : Tab) (i : Nat) : ∀ f c, c ≤ nzN T i f c ∧ nzN T i f c ≤ c + f ∧ (∀ a, c ≤ a → a < nzN T i f c → at2 T i a = 0) ∧ (nzN T i f c < c + f → at2 T i (nzN T i f c) ≠ 0)
 | 0, c => ⟨Nat.le_refl _, Nat.le_refl _, fun a h1 h2 => absurd h2 (by rw [nzN]; omega), fun h => absurd h (by rw [nzN]; omega)⟩
 | f + 1, c => by
  rw [nzN]
  by_cases h : at2 T i c ≠ 0
  ·rw [if_pos h]
   exact ⟨Nat.le_refl _, by omega, fun a h1 h2 => absurd h2 (by omega), fun _ => h⟩
  ·rw [if_neg h]
   obtain ⟨h1, h2, h3, h4⟩ := zPv T i f (c + 1)
   refine ⟨by omega, by omega, fun a ha hb => ?_, fun hb => h4 (by omega)⟩
   by_cases e : a = c
   ·subst e; omega
   ·exact h3 a (by omega) hb
/-- an artificial unknown leaves the basis -/
def zBz (w : Nat) (s : St) (k : Nat) : St := if s.basis.getD k 0 < w then s else if nzN s.rows k w 0 = w then s else piv s k (nzN s.rows k w 0)
def zBR (w : Nat) (s : St) : Nat → St
 | 0 => s
 | k + 1 => zBz w (zBR w s k) k
/-- artificial unknowns are 0; the first k are of no use any more -/
structure Dry (m N w : Nat) (s : St) (k : Nat) : Prop where
 z : ∀ i, i < m → w ≤ s.basis.getD i 0 → at2 s.rows i N = 0
 r : ∀ i, i < k → w ≤ s.basis.getD i 0 → ∀ j, j < w → at2 s.rows i j = 0
theorem zKF {d x y : Int} (hd : 0 < d) (h : d * x = y) (hy : y = 0) : x = 0 := by
 rw [hy] at h
 rcases Int.mul_eq_zero.1 h with h1 | h1
 ·omega
 ·exact h1
theorem zOV {d x y : Int} (hd : 0 < d) (h : d * x = y) (hy : 0 ≤ y) : 0 ≤ x := Int.le_of_mul_le_mul_left (by rw [Int.mul_zero, h]; exact hy) hd
section
variable {m N w : Nat} {M : Tab} {s : St}
theorem Inv.drive (h : Inv m N M s) (hf : zDf m N s) {k : Nat} (hd : Dry m N w s k) (hk : k < m) (hw : w ≤ N) :
 Inv m N M (zBz w s k) ∧ zDf m N (zBz w s k) ∧ Dry m N w (zBz w s k) (k + 1) := by
 unfold zBz
 obtain ⟨e1, e2, e3, e4⟩ := zPv s.rows k w 0
 by_cases hb : s.basis.getD k 0 < w
 ·rw [if_pos hb]
  refine ⟨h, hf, hd.z, fun i hi hb' => ?_⟩
  by_cases e : i = k
  ·rw [e] at hb'; omega
  ·exact hd.r i (by omega) hb'
 ·rw [if_neg hb]
  by_cases hn : nzN s.rows k w 0 = w
  ·rw [if_pos hn]
   refine ⟨h, hf, hd.z, fun i hi hb' => ?_⟩
   by_cases e : i = k
   ·rw [e]; exact fun j hj => e3 j (Nat.zero_le _) (by omega)
   ·exact hd.r i (by omega) hb'
  ·rw [if_neg hn]
   have hp := e4 (by omega)
   have hcw : nzN s.rows k w 0 < w := by omega
   generalize nzN s.rows k w 0 = c at *
   have hz := hd.z k hk (by omega)
   have hpz := zQB hp
   have hbas : ∀ i, (Sx.piv s k c).basis.getD i 0 = if i = k then c else s.basis.getD i 0 := fun i => zEt h hk i
   have hN : ∀ i, i < m → s.den * at2 (Sx.piv s k c).rows i N = at2 s.rows i N * (sgZ (at2 s.rows k c) * at2 s.rows k c) := by
    intro i hi
    rw [h.entry hk (show c < N by omega) hp (show i < m + 1 by omega) (Nat.lt_succ_self N), hz]
    by_cases e : i = k
    ·rw [if_pos e, e, hz, Int.mul_zero, Int.mul_zero, Int.zero_mul]
    ·rw [if_neg e, Int.mul_zero, Int.sub_zero, Int.mul_left_comm]
   refine ⟨h.piv hk (by omega) hp, fun i hi => zOV h.dp (hN i hi) (Int.mul_nonneg (hf i hi) (Int.le_of_lt hpz)), fun i hi hb' => ?_, fun i hi hb' j hj => ?_⟩
   ·rw [hbas] at hb'
    by_cases e : i = k
    ·rw [if_pos e] at hb'; omega
    ·rw [if_neg e] at hb'
     exact zKF h.dp (hN i hi) (by rw [hd.z i hi hb', Int.zero_mul])
   ·rw [hbas] at hb'
    by_cases e : i = k
    ·rw [if_pos e] at hb'; omega
    ·rw [if_neg e] at hb'
     have q1 := hd.r i (by omega) hb' j hj
     have q2 := hd.r i (by omega) hb' c hcw
     refine zKF h.dp (h.entry hk (show c < N by omega) hp (show i < m + 1 by omega) (show j < N + 1 by omega)) ?_
     rw [if_neg e, q1, q2, Int.zero_mul, Int.zero_mul]
     exact Int.mul_zero _
theorem Inv.drives (h : Inv m N M s) (hf : zDf m N s) (hd : ∀ i, i < m → w ≤ s.basis.getD i 0 → at2 s.rows i N = 0) (hw : w ≤ N) :
 ∀ k, k ≤ m → Inv m N M (zBR w s k) ∧ zDf m N (zBR w s k) ∧ Dry m N w (zBR w s k) k
 | 0, _ => ⟨h, hf, hd, fun i hi => absurd hi (Nat.not_lt_zero i)⟩
 | k + 1, hk => by
  obtain ⟨h1, h2, h3⟩ := Inv.drives h hf hd hw k (by omega)
  exact h1.drive h2 h3 (by omega) hw
theorem Inv.dry_step (h : Inv m N M s) (hd : Dry m N w s m) {r c : Nat} (hw : w ≤ N) (hc : c < w) (hl : Least s.rows s.basis c N m r) : Dry m N w (Sx.piv s r c) m := by
 have hp := hl.pos
 have hr := hl.lt
 have hbas : ∀ i, (Sx.piv s r c).basis.getD i 0 = if i = r then c else s.basis.getD i 0 := fun i => zEt h hr i
 have key : ∀ i, i < m → w ≤ (Sx.piv s r c).basis.getD i 0 → ∀ j, (j < w ∨ j = N) → at2 (Sx.piv s r c).rows i j = 0 := by
  intro i hi hb j hj
  rw [hbas] at hb
  by_cases e : i = r
  ·rw [if_pos e] at hb; omega
  ·rw [if_neg e] at hb
   have q1 : at2 s.rows i j = 0 := by
    rcases hj with hj | hj
    ·exact hd.r i hi hb j hj
    ·rw [hj]; exact hd.z i hi hb
   have q2 := hd.r i hi hb c hc
   refine zKF h.dp (h.entry hr (show c < N by omega) (by omega) (show i < m + 1 by omega) (show j < N + 1 by omega)) ?_
   rw [if_neg e, q1, q2, Int.zero_mul, Int.zero_mul]
   exact Int.mul_zero _
 exact ⟨fun i hi hb => key i hi hb N (.inr Z), fun i hi hb j hj => key i hi hb j (.inl hj)⟩
theorem zNM (h : Inv m N M s) (hf : zDf m N s) (hd : Dry m N w s m) (hw : w ≤ N) : ∀ K, Dry m N w (zAa m N w s K) m
 | 0 => hd
 | K + 1 => by
  have h1 := zNM h hf hd hw K
  have h2 := (zEq h hf hw K).1
  show Dry m N w ((zBw m N w (zAa m N w s K)).getD _) m
  cases hs : zBw m N w (zAa m N w s K) with
  | none => exact h1
  | some s' =>
   obtain ⟨c, r, g1, g2, g3, g4, rfl⟩ := zJO hs
   exact h2.dry_step h1 hw g1 g4
theorem zOc {k : Nat → Int} (hT : m ≤ s.rows.length) (hd : Dry m N w s m) : Dry m N w (recost k m N s) m := by
 refine ⟨fun i hi hb => ?_, fun i hi hb j hj => ?_⟩
 ·show at2 (zBH _ _ _) i N = 0
  rw [zGB hT _ hi]; exact hd.z i hi hb
 ·show at2 (zBH _ _ _) i j = 0
  rw [zGB hT _ hi]; exact hd.r i hi hb j hj
end
/-- the costs of the second phase -/
def zBU (p : Prog) (j : Nat) : Int := if j < p.n then -((zAj p.C).getD j 0) else 0
def M2 (p : Prog) : Tab := zCP (zBU p) p.m p.N (zAO p).rows
/-- the table after K steps of the first phase -/
def zCC (p : Prog) (K : Nat) : St := zAa p.m p.N (p.n + p.m) (ph1 p) K
/-- the table before the second phase -/
def mid (p : Prog) (K : Nat) : St := if p.a = 0 then zAO p else zBR (p.n + p.m) (zCC p K) p.m
def ph2 (p : Prog) (K : Nat) : St := recost (zBU p) p.m p.N (mid p K)
def zDe (p : Prog) (K L : Nat) : St := zAa p.m p.N (p.n + p.m) (ph2 p K) L
theorem zFj (p : Prog) : p.n + p.m ≤ p.N := Nat.le_add_right _ _
theorem zEr (p : Prog) (hp : p.Ok) (K : Nat) : Inv p.m p.N (M1 p) (zCC p K) ∧ zDf p.m p.N (zCC p K) := zEq (zMd p) (zKT p hp) (zFj p) K
/-- The second phase begins well. -/
theorem mid_keep (p : Prog) (hp : p.Ok) (K : Nat) (h0 : 0 < p.a → at2 (zCC p K).rows p.m p.N = 0) :
 (∃ M, Inv p.m p.N M (mid p K) ∧ p.m ≤ M.length ∧ zCP (zBU p) p.m p.N M = M2 p) ∧ zDf p.m p.N (mid p K) ∧ Dry p.m p.N (p.n + p.m) (mid p K) p.m := by
 unfold mid
 by_cases e : p.a = 0
 ·rw [if_pos e]
  have hno : ∀ i, i < p.m → ¬ p.n + p.m ≤ (zAO p).basis.getD i 0 := by
   intro i hi
   have h1 := (zEv p).bc i hi
   have h2 : p.N = p.n + p.m + p.a := rfl
   omega
  exact ⟨⟨_, zEv p, zBD p, Z⟩, zKp p hp, fun i hi hb => absurd hb (hno i hi), fun i hi hb => absurd hb (hno i hi)⟩
 ·rw [if_neg e]
  obtain ⟨h1, h2⟩ := zEr p hp K
  obtain ⟨_, hz⟩ := zHS h1 h2
  obtain ⟨g1, g2, g3⟩ := h1.drives h2 (hz (h0 (by omega))) (zFj p) p.m (Nat.le_refl _)
  refine ⟨⟨_, g1, ?_, zM6 (zBD p) _ _⟩, g2, g3⟩
  have : (M1 p).length = p.m + 1 := zJh (zBD p) _
  omega
theorem zKU (p : Prog) (hp : p.Ok) (K : Nat) (h0 : 0 < p.a → at2 (zCC p K).rows p.m p.N = 0) :
 Inv p.m p.N (M2 p) (ph2 p K) ∧ zDf p.m p.N (ph2 p K) ∧ Dry p.m p.N (p.n + p.m) (ph2 p K) p.m := by
 obtain ⟨⟨M, h1, h2, h3⟩, h4, h5⟩ := mid_keep p hp K h0
 have hT : p.m ≤ (mid p K).rows.length := by rw [h1.n]; exact Nat.le_succ _
 have h6 := h1.recost (zBU p) h2
 rw [h3] at h6
 exact ⟨h6, zJf hT h4, zOc hT h5⟩
theorem zHW (p : Prog) (hp : p.Ok) (K L : Nat) (h0 : 0 < p.a → at2 (zCC p K).rows p.m p.N = 0) :
 Inv p.m p.N (M2 p) (zDe p K L) ∧ zDf p.m p.N (zDe p K L) ∧ Dry p.m p.N (p.n + p.m) (zDe p K L) p.m := by
 obtain ⟨h1, h2, h3⟩ := zKU p hp K h0
 obtain ⟨h4, h5⟩ := zEq h1 h2 (zFj p) L
 exact ⟨h4, h5, zNM h1 h2 h3 (zFj p) L⟩
end Go.Ax.Sx
namespace Go.Ax.Sx
open Go.Ax.Dt Go.Ax.Rt Go.Ax.Bg
structure Res where
 kind : Nat
 X : List Rat
 Y : List Rat
 R : List Rat
 V : Rat
/-- elements at the places of the basis -/
def zBu (n : Nat) (β : List Nat) (f : Nat → Rat) (l : List Rat) : Nat → List Rat
 | 0 => l
 | k + 1 => if β.getD k 0 < n then (zBu n β f l k).set (β.getD k 0) (f k) else zBu n β f l k
theorem zDo (n : Nat) (β : List Nat) (f : Nat → Rat) (l : List Rat) : ∀ k, (zBu n β f l k).length = l.length
 | 0 => rfl
 | k + 1 => by
  rw [zBu]
  split
  ·rw [List.length_set, zDo n β f l k]
  ·exact zDo n β f l k
theorem zKY {n : Nat} {β : List Nat} {f : Nat → Rat} {l : List Rat} {j : Nat} : ∀ {K : Nat}, (∀ k, k < K → β.getD k 0 ≠ j) → (zBu n β f l K).getD j 0 = l.getD j 0
 | 0, _ => rfl
 | K + 1, h => by
  have h1 := zKY (n := n) (f := f) (l := l) (K := K) (fun k hk => h k (by omega))
  rw [zBu]
  split
  ·rw [getD_set, if_neg (fun e => h K (Nat.lt_succ_self K) e.1.symm)]; exact h1
  ·exact h1
theorem zHy {n : Nat} {β : List Nat} {f : Nat → Rat} {l : List Rat} {k : Nat} (hl : l.length = n) (hlt : β.getD k 0 < n) :
 ∀ {K : Nat}, (∀ i, i < K → β.getD i 0 = β.getD k 0 → i = k) → k < K → (zBu n β f l K).getD (β.getD k 0) 0 = f k
 | 0, _, hk => absurd hk (Nat.not_lt_zero k)
 | K + 1, hi, hk => by
  rw [zBu]
  by_cases e : k = K
  ·subst e
   rw [if_pos hlt, getD_set, if_pos ⟨rfl, by rw [zDo, hl]; exact hlt⟩]
  ·have h1 := zHy (f := f) hl hlt (K := K) (fun i h => hi i (by omega)) (by omega)
   have hne : β.getD K 0 ≠ β.getD k 0 := fun q => e (hi K (Nat.lt_succ_self K) q).symm
   split
   ·rw [getD_set, if_neg (fun q => hne q.1.symm)]; exact h1
   ·exact h1
def zBj (p : Prog) (s : St) : List Rat := zBu p.n s.basis (fun k => Rat.divInt (at2 s.rows k p.N) s.den) (List.replicate p.n 0) p.m
def zFD (n c : Nat) : List Rat := if c < n then (List.replicate n 0).set c 1 else List.replicate n 0
def zHa (p : Prog) (s : St) (c : Nat) : List Rat := zBu p.n s.basis (fun k => Rat.divInt (-(at2 s.rows k c)) s.den) (zFD p.n c) p.m
def yL (p : Prog) (s : St) (d : Int) : List Rat := (List.range p.m).map (fun i => Rat.divInt (at2 s.rows p.m (p.n + i)) d * ((p.fac i : Nat) : Rat))
/-- the factor of the costs -/
def Prog.fc (p : Prog) : Nat := zCs 1 p.C
/-- what the program returns after K and L steps -/
def zDd (p : Prog) (K L : Nat) : Res :=
 if 0 < p.a ∧ at2 (zCC p K).rows p.m p.N < 0 then ⟨1, [], yL p (zCC p K) (zCC p K).den, [], 0⟩
 else if zCH p.m (p.n + p.m) (zDe p K L) < p.n + p.m then ⟨2, zBj p (zDe p K L), [], zHa p (zDe p K L) (zCH p.m (p.n + p.m) (zDe p K L)), 0⟩
 else ⟨0, zBj p (zDe p K L), yL p (zDe p K L) ((zDe p K L).den * (p.fc : Nat)), [], Rat.divInt (at2 (zDe p K L).rows p.m p.N) ((zDe p K L).den * (p.fc : Nat))⟩
structure Stops (p : Prog) (K L : Nat) : Prop where
 one : 0 < p.a → zBw p.m p.N (p.n + p.m) (zCC p K) = none
 two : ¬ (0 < p.a ∧ at2 (zCC p K).rows p.m p.N < 0) → zBw p.m p.N (p.n + p.m) (zDe p K L) = none
theorem zGw {p : Prog} (hp : p.Ok) {K : Nat} (h : ¬ (0 < p.a ∧ at2 (zCC p K).rows p.m p.N < 0)) : 0 < p.a → at2 (zCC p K).rows p.m p.N = 0 := by
 intro ha
 obtain ⟨h1, h2⟩ := zEr p hp K
 have := (zHS h1 h2).1
 have : ¬ at2 (zCC p K).rows p.m p.N < 0 := fun q => h ⟨ha, q⟩
 omega
/-- The algorithm ends. -/
theorem runs (p : Prog) (hp : p.Ok) : ∃ K L, Stops p K L := by
 obtain ⟨K, hK⟩ := ends (zMd p) (zKT p hp) (zFj p)
 by_cases h : 0 < p.a ∧ at2 (zCC p K).rows p.m p.N < 0
 ·exact ⟨K, 0, fun _ => hK, fun q => absurd h q⟩
 ·obtain ⟨h1, h2, _⟩ := zKU p hp K (zGw hp h)
  obtain ⟨L, hL⟩ := ends h1 h2 (zFj p)
  exact ⟨K, L, fun _ => hK, fun _ => hL⟩
/-- A result with its proof. -/
inductive Good (p : Prog) : Res → Prop
 | best {X Y : List Rat} {V : Rat} (hx : X.length = p.n) (hy : Y.length = p.m) (x0 : ∀ j, j < p.n → 0 ≤ X.getD j 0) (y0 : ∀ i, i < p.m → 0 ≤ Y.getD i 0)
  (ax : ∀ i, i < p.m → zAK (p.A.getD i []) X ≤ p.B.getD i 0) (ya : ∀ j, j < p.n → p.C.getD j 0 ≤ zAK (zBt p.A j) Y) (cx : zAK p.C X = V) (yb : zAK p.B Y = V) : Good p ⟨0, X, Y, [], V⟩
 | none {Y : List Rat} (hm : 0 < p.m) (hy : Y.length = p.m) (y0 : ∀ i, i < p.m → 0 ≤ Y.getD i 0) (ya : ∀ j, j < p.n → 0 ≤ zAK (zBt p.A j) Y) (yb : zAK p.B Y < 0) : Good p ⟨1, [], Y, [], 0⟩
 | free {X R : List Rat} (hn : 0 < p.n) (hx : X.length = p.n) (hr : R.length = p.n) (x0 : ∀ j, j < p.n → 0 ≤ X.getD j 0) (r0 : ∀ j, j < p.n → 0 ≤ R.getD j 0)
  (ax : ∀ i, i < p.m → zAK (p.A.getD i []) X ≤ p.B.getD i 0) (ar : ∀ i, i < p.m → zAK (p.A.getD i []) R ≤ 0) (cr : 0 < zAK p.C R) : Good p ⟨2, X, [], R, 0⟩
theorem mul_le0 {a x : Rat} (ha : 0 < a) (h : a * x ≤ 0) : x ≤ 0 := Rat.le_of_mul_le_mul_right (c := a) (by rw [Rat.zero_mul, Rat.mul_comm]; exact h) ha
theorem zIe {a x : Rat} (ha : 0 < a) (h : 0 ≤ a * x) : 0 ≤ x := Rat.le_of_mul_le_mul_right (c := a) (by rw [Rat.zero_mul, Rat.mul_comm x]; exact h) ha
theorem zFx {k : Nat} (h : 0 < k) : (0 : Rat) < (k : Rat) := by
 have h1 : ((k : Int) : Rat) = (k : Rat) := Rat.intCast_natCast k
 rw [← h1]; exact zEC (by omega)
theorem zJu (p : Prog) (i : Nat) : 0 < p.fac i := zIX _ 1 (by decide)
theorem zHp (p : Prog) : 0 < p.fc := zIX _ 1 (by decide)
theorem zPq {x : Int} (h : x ≤ 0) : (x : Rat) ≤ 0 := (Rat.intCast_le_intCast (a := x) (b := 0)).2 h
theorem zHO {x : Int} (h : 0 ≤ x) : (0 : Rat) ≤ (x : Rat) := (Rat.intCast_le_intCast (a := 0) (b := x)).2 h
theorem zMT {x : Int} (h : x < 0) : (x : Rat) < 0 := (Rat.intCast_lt_intCast (a := x) (b := 0)).2 h
theorem zE1 {x d : Int} (h : d ≠ 0) : Rat.divInt x d * (d : Rat) = (x : Rat) := by rw [Rat.divInt_eq_div, Rat.div_mul_cancel (zJw h)]
section
variable {p : Prog} {k : Nat → Int} {s : St}
/-- the sum of a condition -/
theorem zRO {x : Nat → Int} {i : Nat} (hi : i < p.m) (ha : ∀ q, q < p.a → x (p.n + p.m + q) = 0) :
 zBq (zAO p).rows p.N x i = p.eps i * (zw (fun j => (p.whole i).getD j 0 * x j) p.n + x (p.n + i) + (p.whole i).getD p.n 0 * x p.N) := by
 have e1 : ∀ j, j < p.n → at2 (zAO p).rows i j * x j = p.eps i * ((p.whole i).getD j 0 * x j) := fun j hj => by rw [zJ3 p hi hj, Int.mul_assoc]
 have e2 : ∀ q, q < p.m → at2 (zAO p).rows i (p.n + q) * x (p.n + q) = if q = i then p.eps i * x (p.n + q) else 0 := fun q hq => by
  rw [zIt p hi hq]
  by_cases e : i = q
  ·rw [if_pos e, if_pos e.symm]
  ·rw [if_neg e, if_neg (fun h => e h.symm), Int.zero_mul]
 have e3 : ∀ q, q < p.a → at2 (zAO p).rows i (p.n + p.m + q) * x (p.n + p.m + q) = 0 := fun q hq => by rw [ha q hq, Int.mul_zero]
 show zw (fun j => at2 (zAO p).rows i j * x j) (p.n + p.m + p.a) + at2 (zAO p).rows i p.N * x p.N = _
 rw [zE9 _ (p.n + p.m) p.a, zE9 _ p.n p.m, zB1 e3, zo e1, zo e2, zBL, zCM (f := fun q => p.eps i * x (p.n + q)) hi, zIs p hi, Int.mul_add, Int.mul_add, Int.mul_assoc]
 omega
/-- the conditions, for the vector of a column -/
theorem prim (h : Inv p.m p.N (zCP k p.m p.N (zAO p).rows) s) (hd : Dry p.m p.N (p.n + p.m) s p.m) {c : Nat} (hc : c < p.n + p.m ∨ c = p.N) {i : Nat} (hi : i < p.m) :
 zw (fun j => (p.whole i).getD j 0 * zBT p.m s c j) p.n + zBT p.m s c (p.n + i) + (p.whole i).getD p.n 0 * zBT p.m s c p.N = 0 := by
 have hw := zFj p
 have hcN : c < p.N + 1 := by omega
 have h1 := h.vec hcN (i := i) (by omega)
 rw [if_neg (Nat.ne_of_lt hi), cost_row (zBD p) _ hi, zRO hi] at h1
 ·have h2 := zMO p i
  generalize zw (fun j => (p.whole i).getD j 0 * zBT p.m s c j) p.n + zBT p.m s c (p.n + i) + (p.whole i).getD p.n 0 * zBT p.m s c p.N = z at *
  have h3 : p.eps i * (p.eps i * z) = 0 := by rw [h1, Int.mul_zero]
  rw [← Int.mul_assoc, h2, Int.one_mul] at h3
  exact h3
 ·intro q hq
  have hlt : p.n + p.m + q < p.N := Nat.add_lt_add_left hq _
  by_cases hb : zCa p.m s (p.n + p.m + q)
  ·obtain ⟨b, hbm, hbe⟩ := hb
   have h2 := h.vec_basic (c := c) hbm
   rw [hbe, if_neg (by omega)] at h2
   rw [h2]
   have : at2 s.rows b c = 0 := by
    rcases hc with hc | hc
    ·exact hd.r b hbm (by omega) c hc
    ·rw [hc]; exact hd.z b hbm (by omega)
   omega
  ·rw [zGW (fun b hb' e => hb ⟨b, hb', e⟩), if_neg (by omega)]
/-- the costs, told by the rows -/
theorem zN2 (hk : ∀ i, i < p.m → k (p.n + i) = 0) : Slack p.m p.N p.n (zCP k p.m p.N (zAO p).rows) p.eps := by
 have hs := zN3 p
 refine ⟨hs.lt, hs.sq, fun i q hi hq => ?_, fun q hq => ?_⟩
 ·rw [zGj (zBD p) hi]; exact hs.at' i q hi hq
 ·rw [zIP (zBD p) (by have := hs.lt; omega)]; exact hk q hq
theorem dual_x (h : Inv p.m p.N (zCP k p.m p.N (zAO p).rows) s) (hk : ∀ i, i < p.m → k (p.n + i) = 0) {j : Nat} (hj : j < p.n) :
 at2 s.rows p.m j = zw (fun q => at2 s.rows p.m (p.n + q) * (p.whole q).getD j 0) p.m + s.den * k j := by
 have hw := zFj p
 have hjN : j < p.N + 1 := by omega
 rw [h.combo (zN2 hk) (Nat.lt_succ_self _) hjN, if_pos rfl, zIP (zBD p) hjN]
 congr 1
 refine zo (fun q hq => ?_)
 rw [zGj (zBD p) hq, zJ3 p hq hj, ← Int.mul_assoc (p.eps q), zMO, Int.one_mul]
theorem dual_r (h : Inv p.m p.N (zCP k p.m p.N (zAO p).rows) s) (hk : ∀ i, i < p.m → k (p.n + i) = 0) :
 at2 s.rows p.m p.N = zw (fun q => at2 s.rows p.m (p.n + q) * (p.whole q).getD p.n 0) p.m + s.den * k p.N := by
 rw [h.combo (zN2 hk) (Nat.lt_succ_self _) (Nat.lt_succ_self _), if_pos rfl, zIP (zBD p) (Nat.lt_succ_self _)]
 congr 1
 refine zo (fun q hq => ?_)
 rw [zGj (zBD p) hq, zIs p hq, ← Int.mul_assoc (p.eps q), zMO, Int.one_mul]
theorem a_len (hp : p.Ok) {i : Nat} (hi : i < p.m) : (p.A.getD i []).length = p.n := hp.cols _ (zAD [] (by rw [hp.rows]; exact hi))
theorem zP6 (hp : p.Ok) {i : Nat} (hi : i < p.m) {x : Nat → Int} {X : List Rat} {d : Rat} (hX : ∀ j, j < p.n → X.getD j 0 * d = ((x j : Int) : Rat)) :
 ((zw (fun j => (p.whole i).getD j 0 * x j) p.n : Int) : Rat) = ((p.fac i : Nat) : Rat) * zAK (p.A.getD i []) X * d := by
 rw [zF8, zAy (a_len hp hi), ← zDI, ← zCL]
 refine zAW (fun j hj => ?_)
 have hj' : j < p.n + 1 := by omega
 rw [Rat.intCast_mul, ← hX j hj, zHY p hp hi hj', full_x p hp hi hj]
 grind
theorem zK6 {C : List Rat} {j : Nat} (hj : j < C.length) : (((zAj C).getD j 0 : Int) : Rat) = ((zCs 1 C : Nat) : Rat) * C.getD j 0 := by
 unfold zAj
 rw [zB8 _ _ 0 _ _ hj]
 exact zL8 (zAD 0 hj)
theorem zPa {x : Nat → Int} {X : List Rat} {d : Rat} (hX : ∀ j, j < p.n → X.getD j 0 * d = ((x j : Int) : Rat)) :
 ((zw (fun j => (zAj p.C).getD j 0 * x j) p.n : Int) : Rat) = ((p.fc : Nat) : Rat) * zAK p.C X * d := by
 rw [zF8, zAy (a := p.C) (n := p.n) rfl, ← zDI, ← zCL]
 refine zAW (fun j hj => ?_)
 rw [Rat.intCast_mul, ← hX j hj, zK6 hj]
 show ((p.fc : Nat) : Rat) * _ * _ = _
 grind
theorem zPY (hp : p.Ok) {j : Nat} (hj : j < p.n) {y : Nat → Int} {Y : List Rat} {d : Rat} (hY : ∀ q, q < p.m → Y.getD q 0 * d = ((y q : Int) : Rat) * ((p.fac q : Nat) : Rat)) :
 ((zw (fun q => y q * (p.whole q).getD j 0) p.m : Int) : Rat) = zAK (zBt p.A j) Y * d := by
 rw [zF8, zAy (n := p.m) (by rw [zCr]; exact hp.rows), ← zCL]
 refine zAW (fun q hq => ?_)
 have h1 := hY q hq
 have hj' : j < p.n + 1 := by omega
 rw [Rat.intCast_mul, zHY p hp hq hj', full_x p hp hq hj, zEG]
 grind
theorem zP5 (hp : p.Ok) {y : Nat → Int} {Y : List Rat} {d : Rat} (hY : ∀ q, q < p.m → Y.getD q 0 * d = ((y q : Int) : Rat) * ((p.fac q : Nat) : Rat)) :
 ((zw (fun q => y q * (p.whole q).getD p.n 0) p.m : Int) : Rat) = zAK p.B Y * d := by
 rw [zF8, zAy (a := p.B) (n := p.m) rfl, ← zCL]
 refine zAW (fun q hq => ?_)
 have h1 := hY q hq
 rw [Rat.intCast_mul, zHY p hp hq (Nat.lt_succ_self _), zOj p hp hq]
 grind
theorem zK5 (p : Prog) (s : St) : (zBj p s).length = p.n := by unfold zBj; rw [zDo, List.length_replicate]
theorem zG1 (n c : Nat) : (zFD n c).length = n := by
 unfold zFD
 split
 ·rw [List.length_set, List.length_replicate]
 ·rw [List.length_replicate]
theorem ray_len (p : Prog) (s : St) (c : Nat) : (zHa p s c).length = p.n := by unfold zHa; rw [zDo, zG1]
theorem y_len (p : Prog) (s : St) (d : Int) : (yL p s d).length = p.m := by simp [yL]
theorem zJ1 (n j : Nat) : (List.replicate n (0 : Rat)).getD j 0 = 0 := by
 simp only [List.getD, List.getElem?_replicate]
 split <;> rfl
theorem zIC {M : Tab} (h : Inv p.m p.N M s) {j : Nat} (hj : j < p.n) : (zBj p s).getD j 0 * (s.den : Rat) = ((-(zBT p.m s p.N j) : Int) : Rat) := by
 have hw := zFj p
 have hd : s.den ≠ 0 := by have := h.dp; omega
 unfold zBj
 by_cases hb : zCa p.m s j
 ·obtain ⟨b, hbm, rfl⟩ := hb
  rw [zHy (by rw [List.length_replicate]) hj (fun i hi e => h.nodup hi hbm e) hbm, zE1 hd, h.vec_basic hbm, if_neg (by omega)]
  congr 1; omega
 ·rw [zKY (fun b hb' e => hb ⟨b, hb', e⟩), zJ1, Rat.zero_mul, zGW (fun b hb' e => hb ⟨b, hb', e⟩), if_neg (by omega)]
  rfl
theorem zMh {M : Tab} (h : Inv p.m p.N M s) {c : Nat} (hc : at2 s.rows p.m c < 0) {j : Nat} (hj : j < p.n) : (zHa p s c).getD j 0 * (s.den : Rat) = ((zBT p.m s c j : Int) : Rat) := by
 have hd : s.den ≠ 0 := by have := h.dp; omega
 have hnb : ¬ zCa p.m s c := fun hb => by have := h.cost_basic hb; omega
 unfold zHa
 by_cases hb : zCa p.m s j
 ·have hjc : j ≠ c := fun e => hnb (e ▸ hb)
  obtain ⟨b, hbm, rfl⟩ := hb
  rw [zHy (zG1 _ _) hj (fun i hi e => h.nodup hi hbm e) hbm, zE1 hd, h.vec_basic hbm, if_neg hjc]
  congr 1; omega
 ·rw [zKY (fun b hb' e => hb ⟨b, hb', e⟩), zGW (fun b hb' e => hb ⟨b, hb', e⟩)]
  unfold zFD
  by_cases e : j = c
  ·subst e
   rw [if_pos hj, if_pos rfl, getD_set, if_pos ⟨rfl, by rw [List.length_replicate]; exact hj⟩, Rat.one_mul]
  ·rw [if_neg e]
   have : (if c < p.n then (List.replicate p.n (0 : Rat)).set c 1 else List.replicate p.n 0).getD j 0 = 0 := by
    split
    ·rw [getD_set, if_neg (fun q => e q.1), zJ1]
    ·exact zJ1 _ _
   rw [this, Rat.zero_mul]
   rfl
theorem y_get {d : Int} (hd : d ≠ 0) {i : Nat} (hi : i < p.m) : (yL p s d).getD i 0 * (d : Rat) = ((at2 s.rows p.m (p.n + i) : Int) : Rat) * ((p.fac i : Nat) : Rat) := by
 have : (yL p s d).getD i 0 = Rat.divInt (at2 s.rows p.m (p.n + i)) d * ((p.fac i : Nat) : Rat) := by
  have hi : i < p.B.length := hi
  simp [yL, List.getD, hi]
 rw [this, Rat.mul_assoc, Rat.mul_comm ((p.fac i : Nat) : Rat), ← Rat.mul_assoc, zE1 hd]
/-- the values satisfy the conditions -/
theorem zF9 (hp : p.Ok) (h : Inv p.m p.N (zCP k p.m p.N (zAO p).rows) s) (hf : zDf p.m p.N s) (hd : Dry p.m p.N (p.n + p.m) s p.m) :
 (∀ j, j < p.n → 0 ≤ (zBj p s).getD j 0) ∧ ∀ i, i < p.m → zAK (p.A.getD i []) (zBj p s) ≤ p.B.getD i 0 := by
 have hw := zFj p
 have hdp := zEC h.dp
 refine ⟨fun j hj => ?_, fun i hi => ?_⟩
 ·have h1 := zIC h hj
  have h2 := h.vec_val hf (j := j) (by omega)
  refine zIe hdp ?_
  rw [Rat.mul_comm, h1]
  exact zHO (by omega)
 ·have h1 := prim h hd (c := p.N) (.inr rfl) hi
  rw [h.vec_end] at h1
  have h2 := zP6 hp hi (x := fun j => -(zBT p.m s p.N j)) (X := zBj p s) (fun j hj => zIC h hj)
  have h3 : zw (fun j => (p.whole i).getD j 0 * -(zBT p.m s p.N j)) p.n = -(zw (fun j => (p.whole i).getD j 0 * zBT p.m s p.N j) p.n) := by
   have : zw (fun j => (p.whole i).getD j 0 * -(zBT p.m s p.N j)) p.n = zw (fun j => -1 * ((p.whole i).getD j 0 * zBT p.m s p.N j)) p.n := zo (fun j _ => by rw [Int.mul_neg]; omega)
   rw [this, zBL]; omega
  have h2 : ((zw (fun j => (p.whole i).getD j 0 * -(zBT p.m s p.N j)) p.n : Int) : Rat) = ((p.fac i : Nat) : Rat) * zAK (p.A.getD i []) (zBj p s) * (s.den : Rat) := h2
  rw [h3] at h2
  have h4 := h.vec_val hf (j := p.n + i) (by omega)
  have h5 : -(zw (fun j => (p.whole i).getD j 0 * zBT p.m s p.N j) p.n) = zBT p.m s p.N (p.n + i) + (p.whole i).getD p.n 0 * s.den := by omega
  rw [h5, Rat.intCast_add, Rat.intCast_mul, zHY p hp hi (Nat.lt_succ_self _), zOj p hp hi] at h2
  have h6 := zPq h4
  have hpos : (0 : Rat) < ((p.fac i : Nat) : Rat) * (s.den : Rat) := Rat.mul_pos (zFx (zJu p i)) hdp
  refine Rat.le_of_mul_le_mul_right ?_ hpos
  grind
theorem zQP (hp : p.Ok) (h : Inv p.m p.N (M2 p) s) (hf : zDf p.m p.N s) (hd : Dry p.m p.N (p.n + p.m) s p.m) (hc : ∀ a, a < p.n + p.m → 0 ≤ at2 s.rows p.m a) :
 Good p ⟨0, zBj p s, yL p s (s.den * (p.fc : Nat)), [], Rat.divInt (at2 s.rows p.m p.N) (s.den * (p.fc : Nat))⟩ := by
 have hw := zFj p
 have hdp := zEC h.dp
 have hfp := zFx (zHp p)
 have hD : s.den * (p.fc : Int) ≠ 0 := by
  have h1 := h.dp
  have h2 := zHp p
  have := Int.mul_pos h1 (show (0 : Int) < (p.fc : Int) by omega)
  omega
 have hDr : ((s.den * (p.fc : Nat) : Int) : Rat) = (s.den : Rat) * ((p.fc : Nat) : Rat) := by rw [Rat.intCast_mul]; rfl
 have hpos : (0 : Rat) < (s.den : Rat) * ((p.fc : Nat) : Rat) := Rat.mul_pos hdp hfp
 have hY := fun q (hq : q < p.m) => y_get (p := p) (s := s) hD hq
 have hk : ∀ i, i < p.m → zBU p (p.n + i) = 0 := fun i hi => by unfold zBU; rw [if_neg (by omega)]
 have hkN : zBU p p.N = 0 := by unfold zBU; rw [if_neg (by omega)]
 obtain ⟨v1, v2⟩ := zF9 hp h hf hd
 refine .best (zK5 p s) (y_len p s _) v1 (fun i hi => ?_) v2 (fun j hj => ?_) ?_ ?_
 ·have h1 := hY i hi
  rw [hDr] at h1
  refine zIe hpos ?_
  rw [Rat.mul_comm, h1]
  exact Rat.mul_nonneg (zHO (hc _ (by omega))) (Rat.le_of_lt (zFx (zJu p i)))
 ·have h1 := zPY hp hj hY
  have h2 := dual_x h hk hj
  have hkj : zBU p j = -((zAj p.C).getD j 0) := by unfold zBU; rw [if_pos hj]
  rw [hkj] at h2
  have h3 := hc j (by omega)
  have h4 : zw (fun q => at2 s.rows p.m (p.n + q) * (p.whole q).getD j 0) p.m = at2 s.rows p.m j + s.den * (zAj p.C).getD j 0 := by
   rw [Int.mul_neg] at h2; omega
  rw [h4, hDr, Rat.intCast_add, Rat.intCast_mul, zK6 hj] at h1
  have h5 := zHO h3
  refine Rat.le_of_mul_le_mul_right ?_ hpos
  have e : ((zCs 1 p.C : Nat) : Rat) = ((p.fc : Nat) : Rat) := rfl
  rw [e] at h1
  grind
 ·have h1 := zPa (p := p) (x := fun j => -(zBT p.m s p.N j)) (X := zBj p s) (fun j hj => zIC h hj)
  have h2 := h.vec (c := p.N) (i := p.m) (Nat.lt_succ_self _) (Nat.lt_succ_self _)
  rw [if_pos rfl] at h2
  have h3 : zBq (M2 p) p.N (zBT p.m s p.N) p.m = zw (fun j => zBU p j * zBT p.m s p.N j) (p.N + 1) := zIQ (zBD p) _
  have h4 : zw (fun j => zBU p j * zBT p.m s p.N j) (p.N + 1) = zw (fun j => (zAj p.C).getD j 0 * -(zBT p.m s p.N j)) p.n := by
   rw [show p.N + 1 = p.n + (p.m + p.a + 1) by show p.n + p.m + p.a + 1 = _; omega, zE9, zB1 (f := fun q => zBU p (p.n + q) * zBT p.m s p.N (p.n + q)) (fun q _ => by
    show zBU p (p.n + q) * _ = 0
    unfold zBU
    rw [if_neg (by omega), Int.zero_mul]), Int.add_zero]
   exact zo (fun j hj => by
    show zBU p j * _ = _
    unfold zBU
    rw [if_pos hj, Int.neg_mul, Int.mul_neg])
  rw [h4] at h3
  have h1 : ((zw (fun j => (zAj p.C).getD j 0 * -(zBT p.m s p.N j)) p.n : Int) : Rat) = _ := h1
  rw [← h3, h2] at h1
  have h5 : Rat.divInt (at2 s.rows p.m p.N) (s.den * (p.fc : Nat)) * ((s.den : Rat) * ((p.fc : Nat) : Rat)) = ((at2 s.rows p.m p.N : Int) : Rat) := by rw [← hDr]; exact zE1 hD
  refine Rat.le_antisymm (Rat.le_of_mul_le_mul_right ?_ hpos) (Rat.le_of_mul_le_mul_right ?_ hpos) <;> grind
 ·have h1 := zP5 hp hY
  have h2 := dual_r h hk
  rw [hkN, Int.mul_zero, Int.add_zero] at h2
  rw [← h2, hDr] at h1
  have h5 : Rat.divInt (at2 s.rows p.m p.N) (s.den * (p.fc : Nat)) * ((s.den : Rat) * ((p.fc : Nat) : Rat)) = ((at2 s.rows p.m p.N : Int) : Rat) := by rw [← hDr]; exact zE1 hD
  refine Rat.le_antisymm (Rat.le_of_mul_le_mul_right ?_ hpos) (Rat.le_of_mul_le_mul_right ?_ hpos) <;> grind
theorem zQw (hp : p.Ok) (h : Inv p.m p.N (M1 p) s) (hm : 0 < p.m) (hc : ∀ a, a < p.n + p.m → 0 ≤ at2 s.rows p.m a) (hv : at2 s.rows p.m p.N < 0) : Good p ⟨1, [], yL p s s.den, [], 0⟩ := by
 have hw := zFj p
 have hdp := zEC h.dp
 have hD : s.den ≠ 0 := by have := h.dp; omega
 have hY := fun q (hq : q < p.m) => y_get (p := p) (s := s) hD hq
 have hk : ∀ i, i < p.m → zCz p (p.n + i) = 0 := fun i hi => by unfold zCz; rw [if_neg (by omega)]
 have hkN : zCz p p.N = 0 := by unfold zCz; rw [if_neg (by omega)]
 refine .none hm (y_len p s _) (fun i hi => ?_) (fun j hj => ?_) ?_
 ·refine zIe hdp ?_
  rw [Rat.mul_comm, hY i hi]
  exact Rat.mul_nonneg (zHO (hc _ (by omega))) (Rat.le_of_lt (zFx (zJu p i)))
 ·have h1 := zPY hp hj hY
  have h2 := dual_x h hk hj
  have hkj : zCz p j = 0 := by unfold zCz; rw [if_neg (by omega)]
  rw [hkj, Int.mul_zero, Int.add_zero] at h2
  rw [← h2] at h1
  refine zIe hdp ?_
  rw [Rat.mul_comm, ← h1]
  exact zHO (hc j (by omega))
 ·have h1 := zP5 hp hY
  have h2 := dual_r h hk
  rw [hkN, Int.mul_zero, Int.add_zero] at h2
  rw [← h2] at h1
  have h3 := zMT hv
  refine Rat.not_le.1 (fun h4 => Rat.not_le.2 h3 ?_)
  rw [h1]
  exact Rat.mul_nonneg h4 (Rat.le_of_lt hdp)
theorem zQe (hp : p.Ok) (h : Inv p.m p.N (M2 p) s) (hf : zDf p.m p.N s) (hd : Dry p.m p.N (p.n + p.m) s p.m) {c : Nat} (hcw : c < p.n + p.m) (hneg : at2 s.rows p.m c < 0) (hle : ∀ i, i < p.m → at2 s.rows i c ≤ 0) :
 Good p ⟨2, zBj p s, [], zHa p s c, 0⟩ := by
 have hw := zFj p
 have hdp := zEC h.dp
 obtain ⟨v1, v2⟩ := zF9 hp h hf hd
 have hN : zBT p.m s c p.N = 0 := by rw [zGW (fun b hb => by have := h.bc b hb; omega), if_neg (by omega)]
 have hcost : ((at2 s.rows p.m c : Int) : Rat) = -(((p.fc : Nat) : Rat) * zAK p.C (zHa p s c) * (s.den : Rat)) := by
  have h1 := zPa (p := p) (x := fun j => zBT p.m s c j) (X := zHa p s c) (fun j hj => zMh h hneg hj)
  have h2 := h.vec (c := c) (i := p.m) (by omega) (Nat.lt_succ_self _)
  rw [if_pos rfl] at h2
  have h3 : zBq (M2 p) p.N (zBT p.m s c) p.m = zw (fun j => zBU p j * zBT p.m s c j) (p.N + 1) := zIQ (zBD p) _
  have h4 : zw (fun j => zBU p j * zBT p.m s c j) (p.N + 1) = -(zw (fun j => (zAj p.C).getD j 0 * zBT p.m s c j) p.n) := by
   rw [show p.N + 1 = p.n + (p.m + p.a + 1) by show p.n + p.m + p.a + 1 = _; omega, zE9, zB1 (f := fun q => zBU p (p.n + q) * zBT p.m s c (p.n + q)) (fun q _ => by
    show zBU p (p.n + q) * _ = 0
    unfold zBU
    rw [if_neg (by omega), Int.zero_mul]), Int.add_zero]
   have : zw (fun j => zBU p j * zBT p.m s c j) p.n = zw (fun j => -1 * ((zAj p.C).getD j 0 * zBT p.m s c j)) p.n := zo (fun j hj => by
    unfold zBU
    rw [if_pos hj, Int.neg_mul]; omega)
   rw [this, zBL]; omega
  rw [h4, h2] at h3
  have h1 : ((zw (fun j => (zAj p.C).getD j 0 * zBT p.m s c j) p.n : Int) : Rat) = _ := h1
  rw [← h1, h3, Rat.intCast_neg]
 have hn : 0 < p.n := by
  apply Classical.byContradiction
  intro h0
  have e : zAK p.C (zHa p s c) = 0 := by
   rw [zAy (a := p.C) (n := p.n) rfl, show p.n = 0 by omega]; rfl
  rw [e, Rat.mul_zero, Rat.zero_mul] at hcost
  have := zMT hneg
  rw [hcost] at this
  exact absurd this (by decide +kernel)
 refine .free hn (zK5 p s) (ray_len p s c) v1 (fun j hj => ?_) v2 (fun i hi => ?_) ?_
 ·refine zIe hdp ?_
  rw [Rat.mul_comm, zMh h hneg hj]
  exact zHO (h.vec_ray hle j)
 ·have h1 := prim h hd (c := c) (.inl hcw) hi
  rw [hN, Int.mul_zero, Int.add_zero] at h1
  have h2 := zP6 hp hi (x := fun j => zBT p.m s c j) (X := zHa p s c) (fun j hj => zMh h hneg hj)
  have h4 := h.vec_ray hle (p.n + i)
  have h5 : zw (fun j => (p.whole i).getD j 0 * zBT p.m s c j) p.n ≤ 0 := by omega
  have h2 : ((zw (fun j => (p.whole i).getD j 0 * zBT p.m s c j) p.n : Int) : Rat) = _ := h2
  have h6 := zPq h5
  rw [h2] at h6
  have hpos : (0 : Rat) < ((p.fac i : Nat) : Rat) * (s.den : Rat) := Rat.mul_pos (zFx (zJu p i)) hdp
  refine mul_le0 hpos ?_
  grind
 ·have h1 := zMT hneg
  rw [hcost] at h1
  have hpos : (0 : Rat) < ((p.fc : Nat) : Rat) * (s.den : Rat) := Rat.mul_pos (zFx (zHp p)) hdp
  refine Rat.not_le.1 (fun h4 => Rat.not_le.2 h1 ?_)
  have h5 := Rat.mul_nonneg (show (0 : Rat) ≤ -(zAK p.C (zHa p s c)) by grind) (Rat.le_of_lt hpos)
  grind
end
/-- Each result is proved. -/
theorem zNu {p : Prog} (hp : p.Ok) {K L : Nat} (hs : Stops p K L) : Good p (zDd p K L) := by
 unfold zDd
 by_cases h0 : 0 < p.a ∧ at2 (zCC p K).rows p.m p.N < 0
 ·rw [if_pos h0]
  obtain ⟨h1, h2⟩ := zEr p hp K
  have hm : 0 < p.m := by
   have := zJ9 p.B p.B.length
   have h3 : 0 < zGZ p.B := h0.1
   show 0 < p.B.length
   exact Nat.lt_of_lt_of_le h3 this
  rcases zLw (hs.one h0.1) with ⟨_, h3⟩ | ⟨h3, h4, h5⟩
  ·exact zQw hp h1 hm h3 h0.2
  ·exact (zNc h1 (Nat.lt_of_lt_of_le h3 (zFj p)) h4 h5).elim
 ·rw [if_neg h0]
  obtain ⟨h1, h2, h3⟩ := zHW p hp K L (zGw hp h0)
  rcases zLw (hs.two h0) with ⟨g1, g2⟩ | ⟨g1, g2, g3⟩
  ·rw [if_neg (by omega)]
   exact zQP hp h1 h2 h3 g2
  ·rw [if_pos g1]
   exact zQe hp h1 h2 h3 g1 g2 g3
end Go.Ax.Sx
namespace Go.Ax.Sx
open Go.Ax.Dt Go.Ax.Rt Go.Ax.Bg
/-- numbers of at most k digits -/
structure Prog.Dig (p : Prog) (k : Nat) : Prop where
 a : ∀ r ∈ p.A, ∀ q ∈ r, D k q
 b : ∀ q ∈ p.B, D k q
 c : ∀ q ∈ p.C, D k q
def Prog.E (p : Prog) (k : Nat) : Nat := k + k * (p.n + 1)
def Prog.T (p : Prog) (k : Nat) : Nat := (p.E k + 2) * (p.m + 1)
def Prog.W (p : Prog) (k : Nat) : Nat := p.T k + 2 + 2 * (k * (p.n + 1))
section
variable {p : Prog} {k : Nat}
theorem zOi (hp : p.Ok) (hk : p.Dig k) {i : Nat} (hi : i < p.m) : ∀ q ∈ p.full i, D k q := by
 intro q hq
 rcases List.mem_append.1 hq with h | h
 ·exact hk.a _ (zAD [] (by rw [hp.rows]; exact hi)) q h
 ·rw [List.mem_singleton.1 h]; exact hk.b _ (zAD 0 hi)
theorem zOE (hp : p.Ok) (hk : p.Dig k) {i j : Nat} (hi : i < p.m) (hj : j < p.n + 1) : ((p.whole i).getD j 0).natAbs ≤ 10 ^ p.E k := by
 have h1 := zL7 (zOi hp hk hi)
 rw [zD7 p hp hi] at h1
 exact h1 _ (zAD 0 (by rw [zGX, zD7 p hp hi]; exact hj))
theorem zJU (hk : p.Dig k) {j : Nat} (hj : j < p.n) : ((zAj p.C).getD j 0).natAbs ≤ 10 ^ p.E k := by
 refine Nat.le_trans (zL7 hk.c _ (zAD 0 (by rw [zGX]; exact hj))) (Nat.pow_le_pow_right (by decide) ?_)
 exact Nat.add_le_add_left (Nat.mul_le_mul_left k (Nat.le_succ p.n)) k
theorem zHJ (p : Prog) (i : Nat) : (p.eps i).natAbs = 1 := by unfold Prog.eps; split <;> rfl
theorem zBo (n : Nat) : 1 ≤ 10 ^ n := Nat.pow_pos (by decide)
theorem zLv (hp : p.Ok) (hk : p.Dig k) {i j : Nat} (hi : i < p.m) (hj : j < p.N + 1) : (at2 (zAO p).rows i j).natAbs ≤ 10 ^ p.E k := by
 have h1 := zBo (p.E k)
 by_cases c1 : j < p.n
 ·rw [zJ3 p hi c1, Int.natAbs_mul, zHJ, Nat.one_mul]
  exact zOE hp hk hi (by omega)
 ·by_cases c2 : j < p.n + p.m
  ·obtain ⟨q, rfl⟩ : ∃ q, j = p.n + q := ⟨j - p.n, by omega⟩
   rw [zIt p hi (by omega)]
   split
   ·rw [zHJ]; exact h1
   ·exact Nat.zero_le _
  ·by_cases c3 : j < p.N
   ·obtain ⟨q, rfl⟩ : ∃ q, j = p.n + p.m + q := ⟨j - (p.n + p.m), by omega⟩
    rw [zMm p hi (Nat.lt_of_add_lt_add_left (show p.n + p.m + q < p.n + p.m + p.a from c3))]
    split
    ·exact h1
    ·exact Nat.zero_le _
   ·obtain rfl : j = p.N := by omega
    rw [zIs p hi, Int.natAbs_mul, zHJ, Nat.one_mul]
    exact zOE hp hk hi (Nat.lt_succ_self _)
theorem M_abs (hp : p.Ok) (hk : p.Dig k) {f : Nat → Int} (hf : ∀ j, j < p.N + 1 → (f j).natAbs ≤ 10 ^ p.E k) : ∀ i j, i < p.m + 1 → j < p.N + 1 → (at2 (zCP f p.m p.N (zAO p).rows) i j).natAbs ≤ 10 ^ p.E k := by
 intro i j hi hj
 by_cases e : i = p.m
 ·rw [e, zIP (zBD p) hj]; exact hf j hj
 ·have hi' : i < p.m := Nat.lt_of_le_of_ne (Nat.le_of_lt_succ hi) e
  rw [zGj (zBD p) hi']; exact zLv hp hk hi' hj
theorem zOH (hp : p.Ok) (hk : p.Dig k) : ∀ i j, i < p.m + 1 → j < p.N + 1 → (at2 (M1 p) i j).natAbs ≤ 10 ^ p.E k :=
 M_abs hp hk (fun j _ => by
  have h1 := zBo (p.E k)
  unfold zCz
  split
  ·exact h1
  ·exact Nat.zero_le _)
theorem zGc (hp : p.Ok) (hk : p.Dig k) : ∀ i j, i < p.m + 1 → j < p.N + 1 → (at2 (M2 p) i j).natAbs ≤ 10 ^ p.E k :=
 M_abs hp hk (fun j _ => by
  unfold zBU
  split
  ·rename_i h
   rw [Int.natAbs_neg]; exact zJU hk h
  ·exact Nat.zero_le _)
/-- the elements of each table -/
theorem zEn {M : Tab} {s : St} (h : Inv p.m p.N M s) (hm : p.m + 1 ≤ 40) (hM : ∀ i j, i < p.m + 1 → j < p.N + 1 → (at2 M i j).natAbs ≤ 10 ^ p.E k) :
 (∀ i j, i < p.m + 1 → j < p.N + 1 → (at2 s.rows i j).natAbs ≤ 10 ^ p.T k) ∧ s.den.natAbs ≤ 10 ^ p.T k := by
 obtain ⟨h1, h2⟩ := h.bound (zBo (p.E k)) hM
 have h3 := zPe (k := p.E k) hm
 exact ⟨fun i j hi hj => Nat.le_trans (h1 i j hi hj) h3, Nat.le_trans h2 h3⟩
theorem zCx {x n : Nat} (h : x ≤ 10 ^ n) : x < 10 ^ (n + 1) := Nat.lt_of_le_of_lt h (Nat.pow_lt_pow_right (by decide) (Nat.lt_succ_self n))
theorem nat_D {x n : Nat} (h : x ≤ 10 ^ n) : D (n + 1) ((x : Nat) : Rat) := by
 refine ⟨?_, ?_⟩
 ·have : (((x : Nat) : Rat)).num = (x : Int) := rfl
  rw [this, Int.natAbs_natCast]; exact zCx h
 ·have : (((x : Nat) : Rat)).den = 1 := rfl
  rw [this]
  exact Nat.lt_of_lt_of_le (show 1 < 10 ^ 1 by decide) (Nat.pow_le_pow_right (by decide) (Nat.le_add_left 1 n))
theorem zOg (hp : p.Ok) (hk : p.Dig k) {i : Nat} (hi : i < p.m) : p.fac i ≤ 10 ^ (k * (p.n + 1)) := by
 have := zIW (p.full i) 1 (fun q hq => (zOi hp hk hi q hq).2)
 rw [Nat.one_mul, zD7 p hp hi] at this
 exact this
theorem fc_le (hk : p.Dig k) : p.fc ≤ 10 ^ (k * p.n) := by
 have := zIW p.C 1 (fun q hq => (hk.c q hq).2)
 rw [Nat.one_mul] at this
 exact this
theorem zIj {P : Rat → Prop} {n : Nat} {β : List Nat} {f : Nat → Rat} {l : List Rat} (hl : ∀ q ∈ l, P q) : ∀ {K : Nat}, (∀ i, i < K → P (f i)) → ∀ q ∈ zBu n β f l K, P q
 | 0, _, q, hq => hl q hq
 | K + 1, hf, q, hq => by
  have h1 := zIj (n := n) (β := β) hl (K := K) (fun i hi => hf i (by omega))
  rw [zBu] at hq
  split at hq
  ·rcases List.mem_or_eq_of_mem_set hq with h | h
   ·exact h1 q h
   ·rw [h]; exact hf K (Nat.lt_succ_self K)
  ·exact h1 q hq
theorem zMo (n : Nat) : D (n + 1) 0 := nat_D (x := 0) (Nat.zero_le _)
theorem zHf (n : Nat) : D (n + 1) 1 := nat_D (x := 1) (zBo n)
theorem zOC {M : Tab} {s : St} (h : Inv p.m p.N M s) (hm : p.m + 1 ≤ 40) (hM : ∀ i j, i < p.m + 1 → j < p.N + 1 → (at2 M i j).natAbs ≤ 10 ^ p.E k) : ∀ q ∈ zBj p s, D (p.T k + 1) q := by
 obtain ⟨h1, h2⟩ := zEn h hm hM
 have hd := h.dp
 refine zIj (fun q hq => ?_) (fun i hi => zER (by omega) (zCx (h1 i p.N (by omega) (Nat.lt_succ_self _))) (zCx h2))
 rw [List.eq_of_mem_replicate hq]; exact zMo _
theorem ray_D {M : Tab} {s : St} (h : Inv p.m p.N M s) (hm : p.m + 1 ≤ 40) (hM : ∀ i j, i < p.m + 1 → j < p.N + 1 → (at2 M i j).natAbs ≤ 10 ^ p.E k) {c : Nat} (hc : c < p.N) : ∀ q ∈ zHa p s c, D (p.T k + 1) q := by
 obtain ⟨h1, h2⟩ := zEn h hm hM
 have hd := h.dp
 have h0 : ∀ q ∈ List.replicate p.n (0 : Rat), D (p.T k + 1) q := fun q hq => by rw [List.eq_of_mem_replicate hq]; exact zMo _
 refine zIj (fun q hq => ?_) (fun i hi => zER (by omega) (by rw [Int.natAbs_neg]; exact zCx (h1 i c (by omega) (by omega))) (zCx h2))
 unfold zFD at hq
 split at hq
 ·rcases List.mem_or_eq_of_mem_set hq with h' | h'
  ·exact h0 q h'
  ·rw [h']; exact zHf _
 ·exact h0 q hq
theorem y_D {M : Tab} {s : St} (hp : p.Ok) (hk : p.Dig k) (h : Inv p.m p.N M s) (hm : p.m + 1 ≤ 40) (hM : ∀ i j, i < p.m + 1 → j < p.N + 1 → (at2 M i j).natAbs ≤ 10 ^ p.E k) {f : Nat} (hf0 : 0 < f) (hf : f ≤ 10 ^ (k * p.n)) : ∀ q ∈ yL p s (s.den * (f : Nat)), D (p.W k) q := by
 obtain ⟨h1, h2⟩ := zEn h hm hM
 have hd := h.dp
 intro q hq
 obtain ⟨i, hi, rfl⟩ := List.mem_map.1 hq
 have hi : i < p.m := by simpa using hi
 have hD : s.den * (f : Nat) ≠ 0 := by
  have := Int.mul_pos hd (show (0 : Int) < ((f : Nat) : Int) by omega)
  omega
 have hw := zFj p
 have hden : (s.den * (f : Nat)).natAbs ≤ 10 ^ (p.T k + k * p.n) := by
  rw [Int.natAbs_mul, Int.natAbs_natCast, Nat.pow_add]
  exact Nat.mul_le_mul h2 hf
 have a1 : D (p.T k + k * p.n + 1) (Rat.divInt (at2 s.rows p.m (p.n + i)) (s.den * (f : Nat))) :=
  zER hD (zCx (Nat.le_trans (h1 p.m (p.n + i) (Nat.lt_succ_self _) (by omega)) (Nat.pow_le_pow_right (by decide) (Nat.le_add_right _ _)))) (zCx hden)
 refine (a1.mul (nat_D (zOg hp hk hi))).mono ?_
 unfold Prog.W
 have : k * p.n ≤ k * (p.n + 1) := Nat.mul_le_mul_left k (Nat.le_succ p.n)
 omega
theorem v_D {M : Tab} {s : St} (h : Inv p.m p.N M s) (hm : p.m + 1 ≤ 40) (hM : ∀ i j, i < p.m + 1 → j < p.N + 1 → (at2 M i j).natAbs ≤ 10 ^ p.E k) {f : Nat} (hf0 : 0 < f) (hf : f ≤ 10 ^ (k * p.n)) : D (p.W k) (Rat.divInt (at2 s.rows p.m p.N) (s.den * (f : Nat))) := by
 obtain ⟨h1, h2⟩ := zEn h hm hM
 have hd := h.dp
 have hD : s.den * (f : Nat) ≠ 0 := by
  have := Int.mul_pos hd (show (0 : Int) < ((f : Nat) : Int) by omega)
  omega
 have hden : (s.den * (f : Nat)).natAbs ≤ 10 ^ (p.T k + k * p.n) := by
  rw [Int.natAbs_mul, Int.natAbs_natCast, Nat.pow_add]
  exact Nat.mul_le_mul h2 hf
 have a1 : D (p.T k + k * p.n + 1) (Rat.divInt (at2 s.rows p.m p.N) (s.den * (f : Nat))) :=
  zER hD (zCx (Nat.le_trans (h1 p.m p.N (Nat.lt_succ_self _) (Nat.lt_succ_self _)) (Nat.pow_le_pow_right (by decide) (Nat.le_add_right _ _)))) (zCx hden)
 refine a1.mono ?_
 unfold Prog.W
 have : k * p.n ≤ k * (p.n + 1) := Nat.mul_le_mul_left k (Nat.le_succ p.n)
 omega
/-- All numbers of a result are short. -/
theorem run_D (hp : p.Ok) (hk : p.Dig k) (hm : p.m + 1 ≤ 40) {K L : Nat} (hs : Stops p K L) :
 (∀ q ∈ (zDd p K L).X, D (p.W k) q) ∧ (∀ q ∈ (zDd p K L).Y, D (p.W k) q) ∧ (∀ q ∈ (zDd p K L).R, D (p.W k) q) ∧ D (p.W k) (zDd p K L).V := by
 have hTW : p.T k + 1 ≤ p.W k := by unfold Prog.W; omega
 have h0 : D (p.W k) 0 := (zMo (p.T k)).mono hTW
 have hnil : ∀ q ∈ ([] : List Rat), D (p.W k) q := fun q hq => by simp at hq
 unfold zDd
 by_cases h : 0 < p.a ∧ at2 (zCC p K).rows p.m p.N < 0
 ·rw [if_pos h]
  obtain ⟨h1, h2⟩ := zEr p hp K
  have h3 := y_D hp hk h1 hm (zOH hp hk) (f := 1) (by decide) (zBo _)
  have e : (zCC p K).den * ((1 : Nat) : Int) = (zCC p K).den := by omega
  rw [e] at h3
  exact ⟨hnil, h3, hnil, h0⟩
 ·rw [if_neg h]
  obtain ⟨h1, h2, h3⟩ := zHW p hp K L (zGw hp h)
  by_cases h4 : zCH p.m (p.n + p.m) (zDe p K L) < p.n + p.m
  ·rw [if_pos h4]
   exact ⟨fun q hq => (zOC h1 hm (zGc hp hk) q hq).mono hTW, hnil, fun q hq => (ray_D h1 hm (zGc hp hk) (Nat.lt_of_lt_of_le h4 (zFj p)) q hq).mono hTW, h0⟩
  ·rw [if_neg h4]
   exact ⟨fun q hq => (zOC h1 hm (zGc hp hk) q hq).mono hTW, y_D hp hk h1 hm (zGc hp hk) (zHp p) (fc_le hk), hnil, v_D h1 hm (zGc hp hk) (zHp p) (fc_le hk)⟩
end
end Go.Ax.Sx
namespace Go.Ax.Sx
open Go.Ax.Dt Go.Ax.Rt Go.Ax.Bg
theorem zFT {f g : Nat → Rat} : ∀ {n : Nat}, (∀ i, i < n → f i ≤ g i) → zAV f n ≤ zAV g n
 | 0, _ => Rat.le_refl
 | n + 1, h => by
  have h1 := zFT (n := n) (fun i hi => h i (by omega))
  have h2 := h n (Nat.lt_succ_self n)
  show zAV f n + f n ≤ zAV g n + g n
  grind
section
variable {p : Prog}
/-- the columns times the rows -/
theorem zIv (hp : p.Ok) (x y : List Rat) : zAV (fun j => zAK (zBt p.A j) y * x.getD j 0) p.n = zAV (fun i => y.getD i 0 * zAK (p.A.getD i []) x) p.m := by
 have e1 : ∀ j, j < p.n → zAK (zBt p.A j) y * x.getD j 0 = zAV (fun i => (p.A.getD i []).getD j 0 * y.getD i 0 * x.getD j 0) p.m := fun j hj => by
  rw [zAy (n := p.m) (by rw [zCr]; exact hp.rows), ← zCL]
  exact zAW (fun i hi => by rw [zEG])
 have e2 : ∀ i, i < p.m → y.getD i 0 * zAK (p.A.getD i []) x = zAV (fun j => (p.A.getD i []).getD j 0 * y.getD i 0 * x.getD j 0) p.n := fun i hi => by
  rw [zAy (a_len hp hi), ← zDI]
  exact zAW (fun j hj => by grind)
 rw [zAW e1, zAW e2]
 exact zLz _ _ _
def Prim (p : Prog) (x : List Rat) : Prop := (∀ j, j < p.n → 0 ≤ x.getD j 0) ∧ ∀ i, i < p.m → zAK (p.A.getD i []) x ≤ p.B.getD i 0
def Dual (p : Prog) (y : List Rat) : Prop := (∀ i, i < p.m → 0 ≤ y.getD i 0) ∧ ∀ j, j < p.n → p.C.getD j 0 ≤ zAK (zBt p.A j) y
def RayP (p : Prog) (x : List Rat) : Prop := (∀ j, j < p.n → 0 ≤ x.getD j 0) ∧ (∀ i, i < p.m → zAK (p.A.getD i []) x ≤ 0) ∧ 0 < zAK p.C x
def RayD (p : Prog) (y : List Rat) : Prop := (∀ i, i < p.m → 0 ≤ y.getD i 0) ∧ (∀ j, j < p.n → 0 ≤ zAK (zBt p.A j) y) ∧ zAK p.B y < 0
theorem zCt {a b c : Rat} (hc : 0 ≤ c) (h : a ≤ b) : a * c ≤ b * c := Rat.mul_le_mul_of_nonneg_right h hc
theorem c_dot (p : Prog) (x : List Rat) : zAK p.C x = zAV (fun j => p.C.getD j 0 * x.getD j 0) p.n := zAy rfl
theorem b_dot (p : Prog) (y : List Rat) : zAK p.B y = zAV (fun i => p.B.getD i 0 * y.getD i 0) p.m := zAy rfl
/-- Weak duality. -/
theorem weak (hp : p.Ok) {x y : List Rat} (hx : Prim p x) (hy : Dual p y) : zAK p.C x ≤ zAK p.B y := by
 have h1 : zAK p.C x ≤ zAV (fun j => zAK (zBt p.A j) y * x.getD j 0) p.n := by
  rw [c_dot]
  exact zFT (fun j hj => zCt (hx.1 j hj) (hy.2 j hj))
 rw [zIv hp] at h1
 refine Rat.le_trans h1 ?_
 rw [b_dot]
 exact zFT (fun i hi => by rw [Rat.mul_comm]; exact zCt (hy.1 i hi) (hx.2 i hi))
theorem weak_ray (hp : p.Ok) {x y : List Rat} (hx : RayP p x) (hy : Dual p y) : False := by
 have h1 : zAK p.C x ≤ zAV (fun j => zAK (zBt p.A j) y * x.getD j 0) p.n := by
  rw [c_dot]
  exact zFT (fun j hj => zCt (hx.1 j hj) (hy.2 j hj))
 rw [zIv hp] at h1
 have h2 : zAV (fun i => y.getD i 0 * zAK (p.A.getD i []) x) p.m ≤ zAV (fun _ => 0) p.m :=
  zFT (fun i hi => by
   have := zCt (hy.1 i hi) (hx.2.1 i hi)
   rw [Rat.mul_comm]; rwa [Rat.zero_mul] at this)
 rw [zF7] at h2
 exact Rat.not_le.2 hx.2.2 (Rat.le_trans h1 h2)
theorem zRa (hp : p.Ok) {x y : List Rat} (hx : Prim p x) (hy : RayD p y) : False := by
 have h1 : 0 ≤ zAV (fun j => zAK (zBt p.A j) y * x.getD j 0) p.n := zFU (fun j hj => Rat.mul_nonneg (hy.2.1 j hj) (hx.1 j hj))
 rw [zIv hp] at h1
 have h2 : zAV (fun i => y.getD i 0 * zAK (p.A.getD i []) x) p.m ≤ zAK p.B y := by
  rw [b_dot]
  exact zFT (fun i hi => by rw [Rat.mul_comm]; exact zCt (hy.1 i hi) (hx.2 i hi))
 exact Rat.not_le.2 hy.2.2 (Rat.le_trans h1 h2)
end
section
variable {p : Prog}
/-- No vector that satisfies the conditions has a greater value. -/
theorem bounds (hp : p.Ok) {r : Res} (hr : Good p r) {x : List Rat} (hx : Prim p x) : (r.kind = 0 → zAK p.C x ≤ r.V) ∧ (r.kind = 0 ∨ r.kind = 2) := by
 cases hr with
 | best hx' hy x0 y0 ax ya cx yb =>
  refine ⟨fun _ => ?_, .inl Z⟩
  have := weak hp hx ⟨y0, ya⟩
  rw [yb] at this
  exact this
 | none hm hy y0 ya yb => exact (zRa hp hx ⟨y0, ya, yb⟩).elim
 | free hn hx' hr x0 r0 ax ar cr => exact ⟨fun h => absurd h (by show ¬ (2 : Nat) = 0; omega), .inr rfl⟩
end
end Go.Ax.Sx
namespace Go.Ax.Rt
open Go.Ax.Bg Go.Ax.Dt
theorem dig_D {k : Nat} {q : Rat} (h1 : (Lib.decDigits q.num.natAbs).length ≤ k) (h2 : (Lib.decDigits q.den).length ≤ k) : D k q :=
 ⟨Nat.lt_of_lt_of_le (zEo _) (Nat.pow_le_pow_right (by decide) h1), Nat.lt_of_lt_of_le (zEo _) (Nat.pow_le_pow_right (by decide) h2)⟩
theorem zIy {m : List (List zu)} (h : zHu m = 0) : ∀ r ∈ inM m, r.length = zAC m ∧ ∀ q ∈ r, D 2000 q := by
 have hM := zFw h
 intro r hr
 refine ⟨zNL hM r hr, ?_⟩
 obtain ⟨x, hx, rfl⟩ := List.mem_map.1 hr
 intro q hq
 obtain ⟨s, hs, rfl⟩ := List.mem_map.1 hq
 have hf := (IsQ.self (hM.ok x hx s hs)).fit
 unfold zBx at hf
 rw [Bool.and_eq_true, decide_eq_true_eq, decide_eq_true_eq] at hf
 exact dig_D hf.1 hf.2
end Go.Ax.Rt
namespace Go.Ax.Sx
open Go.Ax.Dt Go.Ax.Rt Go.Ax.Bg
structure Prob where
 A : List (List zu)
 B : List zu
 C : List zu
def Prob.prog (P : Prob) : Prog := ⟨inM P.A, P.B.map zt, P.C.map zt⟩
/-- the form of a result -/
def lensP (P : Prob) (k x y r : Nat) : Prop := x = (if k = 1 then 0 else P.C.length) ∧ y = (if k = 2 then 0 else P.B.length) ∧ r = (if k = 2 then P.C.length else 0)
instance (P : Prob) (k x y r : Nat) : Decidable (lensP P k x y r) := inferInstanceAs (Decidable (_ ∧ _))
def zPt (l : List Rat) : Bool := l.all (fun q => decide (0 ≤ q))
theorem zJG {l : List Rat} {n : Nat} (hl : l.length = n) (h : ∀ j, j < n → 0 ≤ l.getD j 0) : zPt l = true := by
 unfold zPt
 rw [List.all_eq_true]
 intro q hq
 obtain ⟨i, hi, rfl⟩ := List.getElem_of_mem hq
 have := h i (by omega)
 rw [zDy 0 hi] at this
 exact decide_eq_true this
section
variable {P : Prob}
end
end Go.Ax.Sx
namespace Go.Ax.Sx
open Go.Ax.Dt Go.Ax.Rt Go.Ax.Bg
theorem cmp_of {a b : Rat} (h : a ≤ b) : zCG a b ≤ 0 := by
 unfold zCG
 split
 ·omega
 ·split
  ·omega
  ·rename_i h1 h2
   rcases Rat.le_iff_lt_or_eq.1 h with q | q
   ·exact absurd q h1
   ·exact absurd q h2
section
variable {P : Prob}
end
end Go.Ax.Sx
namespace Go.Ax.Mg
open Go.Ax.Dt Go.Ax.Rt Go.Ax.Bg Go.Ax.Sx
/-- Mixed strategies x of the rows and y of the columns with the value v. -/
structure Sad (M : List (List Rat)) (w : Nat) (v : Rat) (x y : List Rat) : Prop where
 xl : x.length = M.length
 yl : y.length = w
 x0 : ∀ i, i < M.length → 0 ≤ x.getD i 0
 y0 : ∀ j, j < w → 0 ≤ y.getD j 0
 xs : zAV (fun i => x.getD i 0) M.length = 1
 ys : zAV (fun j => y.getD j 0) w = 1
 up : ∀ i, i < M.length → zAK (M.getD i []) y ≤ v
 lo : ∀ j, j < w → v ≤ zAK (zBt M j) x
theorem zCf {n i : Nat} {c : Rat} (h : i < n) : (List.replicate n c).getD i 0 = c := by simp [List.getD, h]
def oneP (M : List (List Rat)) (w : Nat) : Prog := ⟨M, List.replicate M.length 1, List.replicate w 1⟩
theorem oneP_n (M : List (List Rat)) (w : Nat) : (oneP M w).n = w := List.length_replicate ..
theorem oneP_m (M : List (List Rat)) (w : Nat) : (oneP M w).m = M.length := List.length_replicate ..
theorem oneP_Ok {M : List (List Rat)} {w : Nat} (hM : ∀ r ∈ M, r.length = w) : (oneP M w).Ok :=
 ⟨(List.length_replicate ..).symm, fun r hr => by rw [hM r hr]; exact (List.length_replicate ..).symm⟩
/-- what the rows receive -/
def payN (M : List (List Rat)) (x y : List Rat) : Rat := zAV (fun i => x.getD i 0 * zAK (M.getD i []) y) M.length
theorem zO1 {M : List (List Rat)} {x : List Rat} (hx : x.length = M.length) (y : List Rat) : zAK x (M.map (fun row => zAK row y)) = payN M x y := by
 rw [zAy hx]
 exact zAW (fun i hi => by rw [zB8 (fun row => zAK row y) M [] 0 i hi])
section
variable {M : List (List Rat)} {w : Nat} {v v' : Rat} {x y x' y' : List Rat}
theorem pay_cols (hM : ∀ r ∈ M, r.length = w) (x y : List Rat) : zAV (fun j => zAK (zBt M j) x * y.getD j 0) w = payN M x y := by
 have h := zIv (oneP_Ok hM) y x
 rw [oneP_n, oneP_m] at h
 exact h
theorem Sad.low (h : Sad M w v x y) (hM : ∀ r ∈ M, r.length = w) {z : List Rat} (z0 : ∀ j, j < w → 0 ≤ z.getD j 0) (zs : zAV (fun j => z.getD j 0) w = 1) : v ≤ payN M x z := by
 rw [← pay_cols hM]
 have h1 : zAV (fun j => v * z.getD j 0) w ≤ zAV (fun j => zAK (zBt M j) x * z.getD j 0) w := zFT (fun j hj => zCt (z0 j hj) (h.lo j hj))
 rw [zDI, zs, Rat.mul_one] at h1
 exact h1
theorem Sad.high (h : Sad M w v x y) {z : List Rat} (z0 : ∀ i, i < M.length → 0 ≤ z.getD i 0) (zs : zAV (fun i => z.getD i 0) M.length = 1) : payN M z y ≤ v := by
 have h1 : payN M z y ≤ zAV (fun i => v * z.getD i 0) M.length := zFT (fun i hi => by
  rw [Rat.mul_comm]; exact zCt (z0 i hi) (h.up i hi))
 rw [zDI, zs, Rat.mul_one] at h1
 exact h1
theorem Sad.pay (h : Sad M w v x y) (hM : ∀ r ∈ M, r.length = w) : payN M x y = v := Rat.le_antisymm (h.high h.x0 h.xs) (h.low hM h.y0 h.ys)
/-- the value is unique -/
theorem Sad.uniq (h : Sad M w v x y) (h' : Sad M w v' x' y') (hM : ∀ r ∈ M, r.length = w) : v = v' :=
 Rat.le_antisymm (Rat.le_trans (h.low hM h'.y0 h'.ys) (h'.high h.x0 h.xs)) (Rat.le_trans (h'.low hM h.y0 h.ys) (h.high h'.x0 h'.xs))
end
def zAv (a : Rat) (l : List Rat) : Rat := l.foldl (fun a q => if zCG q a < 0 then q else a) a
def zGI (M : List (List Rat)) : Rat := M.foldl zAv ((M.getD 0 []).getD 0 0)
theorem zJr {a b : Rat} : zCG a b < 0 ↔ a < b := by
 unfold zCG
 split
 ·rename_i h; exact ⟨fun _ => h, fun _ => by omega⟩
 ·rename_i h
  split
  ·exact ⟨fun h2 => absurd h2 (by omega), fun h2 => absurd h2 h⟩
  ·exact ⟨fun h2 => absurd h2 (by omega), fun h2 => absurd h2 h⟩
theorem zLf : ∀ (l : List Rat) (a : Rat), zAv a l ≤ a ∧ ∀ q ∈ l, zAv a l ≤ q
 | [], a => ⟨Rat.le_refl, fun q hq => absurd hq (List.not_mem_nil)⟩
 | b :: l, a => by
  obtain ⟨h1, h2⟩ := zLf l (if zCG b a < 0 then b else a)
  have e : zAv a (b :: l) = zAv (if zCG b a < 0 then b else a) l := rfl
  rw [e]
  by_cases hc : zCG b a < 0
  ·rw [if_pos hc] at h1 h2 ⊢
   have hba := Rat.le_of_lt (zJr.1 hc)
   refine ⟨Rat.le_trans h1 hba, fun q hq => ?_⟩
   rcases List.mem_cons.1 hq with rfl | hq
   ·exact h1
   ·exact h2 q hq
  ·rw [if_neg hc] at h1 h2 ⊢
   have hab : a ≤ b := Rat.not_lt.1 (fun q => hc (zJr.2 q))
   refine ⟨h1, fun q hq => ?_⟩
   rcases List.mem_cons.1 hq with rfl | hq
   ·exact Rat.le_trans h1 hab
   ·exact h2 q hq
theorem zLe : ∀ (M : List (List Rat)) (a : Rat), M.foldl zAv a ≤ a ∧ ∀ r ∈ M, ∀ q ∈ r, M.foldl zAv a ≤ q
 | [], a => ⟨Rat.le_refl, fun q hq => absurd hq (List.not_mem_nil)⟩
 | r :: M, a => by
  obtain ⟨h1, h2⟩ := zLe M (zAv a r)
  obtain ⟨h3, h4⟩ := zLf r a
  refine ⟨Rat.le_trans h1 h3, fun s hs q hq => ?_⟩
  rcases List.mem_cons.1 hs with rfl | hs
  ·exact Rat.le_trans h1 (h4 q hq)
  ·exact h2 s hs q hq
theorem least_le (M : List (List Rat)) : ∀ r ∈ M, ∀ q ∈ r, zGI M ≤ q := (zLe M _).2
theorem zJE {P : Rat → Prop} : ∀ (l : List Rat) (a : Rat), P a → (∀ q ∈ l, P q) → P (zAv a l)
 | [], a, ha, _ => ha
 | b :: l, a, ha, h => by
  have e : zAv a (b :: l) = zAv (if zCG b a < 0 then b else a) l := rfl
  rw [e]
  refine zJE l _ ?_ (fun q hq => h q (List.mem_cons_of_mem _ hq))
  split
  ·exact h b (List.mem_cons_self ..)
  ·exact ha
theorem zHP {P : Rat → Prop} : ∀ (M : List (List Rat)) (a : Rat), P a → (∀ r ∈ M, ∀ q ∈ r, P q) → P (M.foldl zAv a)
 | [], a, ha, _ => ha
 | r :: M, a, ha, h => zHP M _ (zJE r a ha (h r (List.mem_cons_self ..))) (fun s hs => h s (List.mem_cons_of_mem _ hs))
def zDs (M : List (List Rat)) : Rat := 1 - zGI M
/-- the linear program of a game -/
def zAT (M : List (List Rat)) (w : Nat) : Prog := ⟨M.map (fun r => r.map (fun q => q + zDs M)), List.replicate M.length 1, List.replicate w 1⟩
/-- value, rows, columns -/
def zAL (M : List (List Rat)) (w K L : Nat) : Rat × List Rat × List Rat :=
 let r := zDd (zAT M w) K L
 (1 / r.V - zDs M, r.Y.map (fun q => q / r.V), r.X.map (fun q => q / r.V))
section
variable {M : List (List Rat)} {w : Nat}
theorem zIa (M : List (List Rat)) (w : Nat) : (zAT M w).n = w := List.length_replicate ..
theorem zIZ (M : List (List Rat)) (w : Nat) : (zAT M w).m = M.length := List.length_replicate ..
theorem zFu (hM : ∀ r ∈ M, r.length = w) : (zAT M w).Ok := by
 refine ⟨?_, fun r hr => ?_⟩
 ·show (M.map _).length = (List.replicate _ _).length
  rw [List.length_map, List.length_replicate]
 ·obtain ⟨s, hs, rfl⟩ := List.mem_map.1 hr
  show (s.map _).length = (List.replicate _ _).length
  rw [List.length_map, List.length_replicate, hM s hs]
theorem zJC {i : Nat} (hi : i < M.length) : (zAT M w).A.getD i [] = (M.getD i []).map (fun q => q + zDs M) := zB8 _ M [] [] i hi
theorem zKK (hM : ∀ r ∈ M, r.length = w) {i j : Nat} (hi : i < M.length) (hj : j < w) : ((zAT M w).A.getD i []).getD j 0 = (M.getD i []).getD j 0 + zDs M := by
 rw [zJC hi]
 exact zB8 _ _ 0 0 j (by rw [hM _ (zAD [] hi)]; exact hj)
theorem zNH (hM : ∀ r ∈ M, r.length = w) {i j : Nat} (hi : i < M.length) (hj : j < w) : 1 ≤ ((zAT M w).A.getD i []).getD j 0 := by
 rw [zKK hM hi hj]
 have hr := zAD (l := M) [] hi
 have h := least_le M _ hr ((M.getD i []).getD j 0) (zAD 0 (by rw [hM _ hr]; exact hj))
 unfold zDs
 grind
theorem zQg (hM : ∀ r ∈ M, r.length = w) {i : Nat} (hi : i < M.length) (x : List Rat) :
 zAK ((zAT M w).A.getD i []) x = zAK (M.getD i []) x + zDs M * zAV (fun j => x.getD j 0) w := by
 have hl : (M.getD i []).length = w := hM _ (zAD [] hi)
 have hl' : ((zAT M w).A.getD i []).length = w := by rw [zJC hi, List.length_map, hl]
 rw [zAy hl', zAy hl, ← zDI, ← zF6]
 exact zAW (fun j hj => by rw [zKK hM hi hj]; grind)
theorem zQf (hM : ∀ r ∈ M, r.length = w) {j : Nat} (hj : j < w) (y : List Rat) :
 zAK (zBt (zAT M w).A j) y = zAK (zBt M j) y + zDs M * zAV (fun i => y.getD i 0) M.length := by
 have hl : (zBt M j).length = M.length := zCr M j
 have hl' : (zBt (zAT M w).A j).length = M.length := by
  rw [zCr]; exact List.length_map ..
 rw [zAy hl', zAy hl, ← zDI, ← zF6]
 exact zAW (fun i hi => by rw [zEG, zEG, zKK hM hi hj]; grind)
theorem zKr : ∀ {n : Nat} {f : Nat → Rat}, (∀ i, i < n → 0 ≤ f i) → zAV f n ≤ 0 → ∀ i, i < n → f i = 0
 | 0, f, _, _, i, hi => absurd hi (Nat.not_lt_zero i)
 | n + 1, f, h, hs, i, hi => by
  have h1 : 0 ≤ zAV f n := zFU (fun i hi => h i (by omega))
  have h2 := h n (Nat.lt_succ_self n)
  have h3 : zAV f n + f n ≤ 0 := hs
  by_cases e : i = n
  ·subst e; grind
  ·exact zKr (n := n) (fun i hi => h i (by omega)) (by grind) i (by omega)
theorem sum_ge : ∀ {n : Nat} {f : Nat → Rat}, (∀ i, i < n → 0 ≤ f i) → ∀ i, i < n → f i ≤ zAV f n
 | 0, f, _, i, hi => absurd hi (Nat.not_lt_zero i)
 | n + 1, f, h, i, hi => by
  have h1 : 0 ≤ zAV f n := zFU (fun i hi => h i (by omega))
  have h2 := h n (Nat.lt_succ_self n)
  show f i ≤ zAV f n + f n
  by_cases e : i = n
  ·subst e; grind
  ·have := sum_ge (n := n) (fun i hi => h i (by omega)) i (by omega)
   grind
theorem zNZ (n : Nat) (x : List Rat) : zAK (List.replicate n 1) x = zAV (fun j => x.getD j 0) n := by
 rw [zAy List.length_replicate]
 exact zAW (fun j hj => by rw [zCf hj, Rat.one_mul])
theorem zIS (l : List Rat) (V : Rat) (i : Nat) : (l.map (fun q => q / V)).getD i 0 = l.getD i 0 * V⁻¹ := by
 by_cases h : i < l.length
 ·rw [zB8 (fun q => q / V) l 0 0 i h, Rat.div_def]
 ·have e1 : (l.map (fun q => q / V)).getD i 0 = 0 := by simp [List.getD, h]
  have e2 : l.getD i 0 = 0 := by simp [List.getD, h]
  rw [e1, e2, Rat.zero_mul]
theorem zPh (a l : List Rat) (V : Rat) : zAK a (l.map (fun q => q / V)) = zAK a l * V⁻¹ := by
 unfold zAK
 rw [← zCL]
 exact zAW (fun i _ => by rw [zIS]; grind)
/-- The linear program of a game has a best solution; it gives strategies with the value. -/
theorem zLY (hM : ∀ r ∈ M, r.length = w) (hw : 0 < w) (hm : 0 < M.length) {r : Res} (g : Sx.Good (zAT M w) r) :
 r.kind = 0 ∧ 0 < r.V ∧ r.X.length = w ∧ r.Y.length = M.length ∧ Sad M w (1 / r.V - zDs M) (r.Y.map (fun q => q / r.V)) (r.X.map (fun q => q / r.V)) := by
 have hok := zFu hM
 have en := zIa M w
 have em := zIZ M w
 have hk : r.kind = 0 ∨ r.kind = 2 := by
  refine (bounds hok g (x := List.replicate w 0) ⟨fun j hj => ?_, fun i hi => ?_⟩).2
  ·rw [en] at hj
   rw [zCf hj]; exact Rat.le_refl
  ·rw [em] at hi
   have e : zAK ((zAT M w).A.getD i []) (List.replicate w 0) = 0 := by
    unfold zAK
    refine Eq.trans (zAW (g := fun _ => 0) (fun j _ => ?_)) (zF7 _)
    rw [zJ1, Rat.mul_zero]
   have e2 : (zAT M w).B.getD i 0 = 1 := zCf hi
   rw [e, e2]
   decide
 have hdual : Dual (zAT M w) (List.replicate M.length 1) := by
  refine ⟨fun i hi => ?_, fun j hj => ?_⟩
  ·rw [em] at hi
   rw [zCf hi]; decide
  ·rw [en] at hj
   have e2 : (zAT M w).C.getD j 0 = 1 := zCf hj
   have hl' : (zBt (zAT M w).A j).length = M.length := by
    rw [zCr]; exact List.length_map ..
   rw [e2, zAy hl']
   have h0 : ∀ i, i < M.length → 0 ≤ (zBt (zAT M w).A j).getD i 0 * (List.replicate M.length (1 : Rat)).getD i 0 := fun i hi => by
    rw [zCf hi, Rat.mul_one, zEG]
    exact Rat.le_trans (by decide) (zNH hM hi hj)
   refine Rat.le_trans ?_ (sum_ge h0 0 hm)
   rw [zCf hm, Rat.mul_one, zEG]
   exact zNH hM hm hj
 cases g with
 | none => rcases hk with h | h <;> cases h
 | free hn hx hr x0 r0 ax ar cr => exact (weak_ray hok (x := _) ⟨r0, ar, cr⟩ hdual).elim
 | @best X Y V hx hy x0 y0 ax ya cx yb =>
  rw [en] at hx x0 ya
  rw [em] at hy y0 ax
  have cx' : zAV (fun j => X.getD j 0) w = V := by rw [← zNZ]; exact cx
  have yb' : zAV (fun i => Y.getD i 0) M.length = V := by rw [← zNZ]; exact yb
  have hV : 0 < V := by
   refine Rat.not_le.1 (fun hV => ?_)
   rw [← yb'] at hV
   have h0 := zKr y0 hV
   have h1 := ya 0 hw
   have e2 : (zAT M w).C.getD 0 0 = 1 := zCf hw
   rw [e2, zAy (n := M.length) (by rw [zCr]; exact List.length_map ..)] at h1
   rw [zAW (g := fun _ => 0) (fun i hi => by rw [h0 i hi, Rat.mul_zero]), zF7] at h1
   exact absurd h1 (by decide)
  have hne : V ≠ 0 := fun e => by rw [e] at hV; exact Rat.lt_irrefl hV
  have hu : V * V⁻¹ = 1 := Rat.mul_inv_cancel V hne
  have hu0 : 0 ≤ V⁻¹ := Rat.le_of_lt (Rat.inv_pos.2 hV)
  refine ⟨Z, hV, hx, hy, ?_⟩
  refine ⟨by rw [List.length_map, hy], by rw [List.length_map, hx], fun i hi => ?_, fun j hj => ?_, ?_, ?_, fun i hi => ?_, fun j hj => ?_⟩
  ·rw [zIS]; exact Rat.mul_nonneg (y0 i hi) hu0
  ·rw [zIS]; exact Rat.mul_nonneg (x0 j hj) hu0
  ·rw [zAW (g := fun i => Y.getD i 0 * V⁻¹) (fun i _ => zIS _ _ _), zCL, yb']; exact hu
  ·rw [zAW (g := fun i => X.getD i 0 * V⁻¹) (fun i _ => zIS _ _ _), zCL, cx']; exact hu
  ·rw [zPh, Rat.div_def, Rat.one_mul]
   have h1 := ax i hi
   have e2 : (zAT M w).B.getD i 0 = 1 := zCf hi
   rw [e2, zQg hM hi, cx'] at h1
   have h2 := zCt hu0 (show zAK (M.getD i []) X ≤ 1 - zDs M * V by grind)
   have e3 : (1 - zDs M * V) * V⁻¹ = V⁻¹ - zDs M * (V * V⁻¹) := by grind
   rw [e3, hu, Rat.mul_one] at h2
   exact h2
  ·rw [zPh, Rat.div_def, Rat.one_mul]
   have h1 := ya j hj
   have e2 : (zAT M w).C.getD j 0 = 1 := zCf hj
   rw [e2, zQf hM hj, yb'] at h1
   have h2 := zCt hu0 (show 1 - zDs M * V ≤ zAK (zBt M j) Y by grind)
   have e3 : (1 - zDs M * V) * V⁻¹ = V⁻¹ - zDs M * (V * V⁻¹) := by grind
   rw [e3, hu, Rat.mul_one] at h2
   exact h2
end
section
variable {M : List (List Rat)} {w : Nat} {v : Rat} {x y : List Rat}
/-- elements multiplied by a number and increased by another one -/
def zCp (by' more : Rat) (M : List (List Rat)) : List (List Rat) := M.map (fun r => r.map (fun q => q * by' + more))
theorem zMC (a b : Rat) (hM : ∀ r ∈ M, r.length = w) {i j : Nat} (hi : i < M.length) (hj : j < w) : ((zCp a b M).getD i []).getD j 0 = (M.getD i []).getD j 0 * a + b := by
 have e : (zCp a b M).getD i [] = (M.getD i []).map (fun q => q * a + b) := zB8 _ M [] [] i hi
 rw [e]
 exact zB8 _ _ 0 0 j (by rw [hM _ (zAD [] hi)]; exact hj)
theorem zIF (a b : Rat) (M : List (List Rat)) : (zCp a b M).length = M.length := List.length_map ..
theorem zGd (a b : Rat) (hM : ∀ r ∈ M, r.length = w) : ∀ r ∈ zCp a b M, r.length = w := fun r hr => by
 obtain ⟨s, hs, rfl⟩ := List.mem_map.1 hr
 rw [List.length_map, hM s hs]
theorem Sad.shift {a b : Rat} (ha : 0 < a) (h : Sad M w v x y) (hM : ∀ r ∈ M, r.length = w) : Sad (zCp a b M) w (v * a + b) x y := by
 have hl := zIF a b M
 have ha0 := Rat.le_of_lt ha
 refine ⟨by rw [hl]; exact h.xl, h.yl, by rw [hl]; exact h.x0, h.y0, by rw [hl]; exact h.xs, h.ys, fun i hi => ?_, fun j hj => ?_⟩
 ·rw [hl] at hi
  have e : zAK ((zCp a b M).getD i []) y = zAK (M.getD i []) y * a + b * zAV (fun j => y.getD j 0) w := by
   rw [zAy (n := w) (zGd a b hM _ (zAD [] (by rw [hl]; exact hi))), zAy (n := w) (hM _ (zAD [] hi)), ← zDI, ← zCL, ← zF6]
   exact zAW (fun j hj => by rw [zMC a b hM hi hj]; grind)
  rw [e, h.ys, Rat.mul_one]
  have := zCt ha0 (h.up i hi)
  grind
 ·have e : zAK (zBt (zCp a b M) j) x = zAK (zBt M j) x * a + b * zAV (fun i => x.getD i 0) M.length := by
   rw [zAy (n := M.length) (by rw [zCr, hl]), zAy (n := M.length) (zCr M j), ← zDI, ← zCL, ← zF6]
   exact zAW (fun i hi => by rw [zEG, zEG, zMC a b hM hi hj]; grind)
  rw [e, h.xs, Rat.mul_one]
  have := zCt ha0 (h.lo j hj)
  grind
end
def skip (i j : Nat) : Nat := if j < i then j else j + 1
section
variable {M : List (List Rat)} {w : Nat} {v : Rat} {x y : List Rat}
end
end Go.Ax.Mg
namespace Go.Ax.Rt
open Go.Ax.Bg
structure TNode where
 kind : Int
 player : Int
 info : Int
 next : List Int
 odds : List zu
 pay : zu
 deriving DecidableEq
def node0 : TNode := ⟨0, 0, 0, [], [], []⟩
abbrev Tree := List TNode
/-- how often a node is named -/
def named (t : Tree) (k : Nat) : Nat := ((t.flatMap TNode.next).filter (fun x => decide (x = (k : Int)))).length
/-- Is it the player's move, in an information set? -/
def own (p : Int) (n : TNode) : Bool := decide (n.kind = 2) && decide (n.player = p)
def inSet (p i : Int) (n : TNode) : Bool := own p n && decide (n.info = i)
/-- the first node of an information set -/
def firstIn (t : Tree) (p i : Int) : Nat := t.findIdx (inSet p i)
def infosOf (t : Tree) (p : Int) : List Int := ((List.range 10).map (fun i : Nat => (i : Int))).filter (fun i => t.any (inSet p i))
def zJ7 (t : Tree) (p i : Int) : Nat := (t.getD (firstIn t p i) node0).next.length
structure RSeq where
 info : Int
 choice : Int
 before : Int
 deriving DecidableEq
def seq0 : RSeq := ⟨-1, -1, -1⟩
structure RForm where
 seqs : List RSeq
 pos : List Int
 first : List (Int × Nat)
def lookA (m : List (Int × Nat)) (k : Int) : Option Nat := (m.find? (fun x => decide (x.1 = k))).map Prod.snd
def newSeqs (n : TNode) (b : Int) : List RSeq := (List.range n.next.length).map (fun k : Nat => ⟨n.info, (k : Int), b⟩)
def zJo (p : Int) (n : TNode) (i : Nat) (f : RForm) : RForm :=
 if own p n = true ∧ lookA f.first n.info = none then ⟨f.seqs ++ newSeqs n (f.pos.getD i 0), f.pos, f.first ++ [(n.info, f.seqs.length)]⟩ else f
def zP9 (v : Nat → Int) : List Int → Nat → List Int → List Int
 | [], _, a => a
 | c :: r, k, a => zP9 v r (k + 1) (a.set c.toNat (v k))
def nextV (p : Int) (n : TNode) (i : Nat) (f : RForm) (k : Nat) : Int := if own p n = true then (((lookA f.first n.info).getD 0 : Nat) : Int) + (k : Int) else f.pos.getD i 0
def stepF (p : Int) (n : TNode) (i : Nat) (f : RForm) : RForm := ⟨(zJo p n i f).seqs, zP9 (nextV p n i (zJo p n i f)) n.next 0 (zJo p n i f).pos, (zJo p n i f).first⟩
def formN (t : Tree) (p : Int) : Nat → RForm
 | 0 => ⟨[seq0], List.replicate t.length 0, []⟩
 | i + 1 => stepF p (t.getD i node0) i (formN t p i)
def seqsOf (t : Tree) (p : Int) : List RSeq := (formN t p t.length).seqs
theorem zL0 (q : Rat) : ∀ (l : List Rat) (acc : Rat), zIu acc (l ++ [q]) = zIu acc l + q
 | [], acc => rfl
 | a :: r, acc => by rw [List.cons_append, zIu, zIu, zL0 q r]
theorem zLy : ∀ (m : Nat) (l : List Rat), m ≤ l.length → zAV (fun c => l.getD c 0) m = zIu 0 (l.take m)
 | 0, l, _ => rfl
 | m + 1, l, h => by
  rw [zAV, zLy m l (by omega), List.take_succ_eq_append_getElem (by omega), zL0, zDy 0 (by omega)]
end Go.Ax.Rt
namespace Go.Ax.Mg
open Go.Ax.Dt Go.Ax.Rt Go.Ax.Bg Go.Ax.Sx
/-- a number with the denominator d and a small numerator -/
def zJi (B : Nat) (d : Int) (q : Rat) : Prop := ∃ x : Int, x.natAbs ≤ B ∧ q = Rat.divInt x d
theorem zJi.zero (B : Nat) (d : Int) : zJi B d 0 := ⟨0, Nat.zero_le _, (Rat.zero_divInt d).symm⟩
/-- whole rows with at most e digits, factors with at most f digits -/
structure Fine (p : Prog) (e f : Nat) : Prop where
 w : ∀ i j, i < p.m → j < p.n + 1 → ((p.whole i).getD j 0).natAbs ≤ 10 ^ e
 c : ∀ j, j < p.n → ((zAj p.C).getD j 0).natAbs ≤ 10 ^ e
 fa : ∀ i, i < p.m → p.fac i ≤ 10 ^ f
 fc : p.fc ≤ 10 ^ f
theorem zPE {p : Prog} {e f : Nat} (hk : Fine p e f) {i j : Nat} (hi : i < p.m) (hj : j < p.N + 1) : (at2 (zAO p).rows i j).natAbs ≤ 10 ^ e := by
 have h1 := zBo e
 by_cases c1 : j < p.n
 ·rw [zJ3 p hi c1, Int.natAbs_mul, zHJ, Nat.one_mul]
  exact hk.w _ _ hi (by omega)
 ·by_cases c2 : j < p.n + p.m
  ·obtain ⟨q, rfl⟩ : ∃ q, j = p.n + q := ⟨j - p.n, by omega⟩
   rw [zIt p hi (by omega)]
   split
   ·rw [zHJ]; exact h1
   ·exact Nat.zero_le _
  ·by_cases c3 : j < p.N
   ·obtain ⟨q, rfl⟩ : ∃ q, j = p.n + p.m + q := ⟨j - (p.n + p.m), by omega⟩
    rw [zMm p hi (Nat.lt_of_add_lt_add_left (show p.n + p.m + q < p.n + p.m + p.a from c3))]
    split
    ·exact h1
    ·exact Nat.zero_le _
   ·obtain rfl : j = p.N := by omega
    rw [zIs p hi, Int.natAbs_mul, zHJ, Nat.one_mul]
    exact hk.w _ _ hi (Nat.lt_succ_self _)
theorem M2_fine {p : Prog} {e f : Nat} (hk : Fine p e f) : ∀ i j, i < p.m + 1 → j < p.N + 1 → (at2 (M2 p) i j).natAbs ≤ 10 ^ e := by
 intro i j hi hj
 unfold M2
 by_cases c : i = p.m
 ·rw [c, zIP (zBD p) hj]
  unfold zBU
  split
  ·rename_i h
   rw [Int.natAbs_neg]; exact hk.c _ h
  ·exact Nat.zero_le _
 ·have hi' : i < p.m := Nat.lt_of_le_of_ne (Nat.le_of_lt_succ hi) c
  rw [zGj (zBD p) hi']; exact zPE hk hi' hj
theorem run_frac {p : Prog} {e f : Nat} (hp : p.Ok) (hk : Fine p e f) (hm : p.m + 1 ≤ 40) {K L : Nat} (h0 : (zDd p K L).kind = 0) :
 ∃ d t : Int, 0 < d ∧ d.natAbs ≤ 10 ^ ((e + 2) * (p.m + 1) + f) ∧ t.natAbs ≤ 10 ^ ((e + 2) * (p.m + 1)) ∧ (zDd p K L).V = Rat.divInt t d ∧
  (∀ q ∈ (zDd p K L).X, zJi (10 ^ ((e + 2) * (p.m + 1) + f)) d q) ∧ ∀ q ∈ (zDd p K L).Y, zJi (10 ^ ((e + 2) * (p.m + 1) + f)) d q := by
 unfold zDd at h0 ⊢
 by_cases h : 0 < p.a ∧ at2 (zCC p K).rows p.m p.N < 0
 ·rw [if_pos h] at h0; cases h0
 rw [if_neg h] at h0 ⊢
 by_cases h4 : zCH p.m (p.n + p.m) (zDe p K L) < p.n + p.m
 ·rw [if_pos h4] at h0; cases h0
 rw [if_neg h4]
 obtain ⟨h1, _, _⟩ := zHW p hp K L (zGw hp h)
 obtain ⟨a1, a2⟩ := h1.bound (zBo e) (M2_fine hk)
 have a3 := zPe (k := e) hm
 have b1 : ∀ i j, i < p.m + 1 → j < p.N + 1 → (at2 (zDe p K L).rows i j).natAbs ≤ 10 ^ ((e + 2) * (p.m + 1)) := fun i j hi hj => Nat.le_trans (a1 i j hi hj) a3
 have b2 := Nat.le_trans a2 a3
 have hd := h1.dp
 have hf := zHp p
 have hw := zFj p
 generalize zDe p K L = s at *
 have hfz : ((p.fc : Nat) : Int) ≠ 0 := by omega
 refine ⟨s.den * (p.fc : Nat), at2 s.rows p.m p.N, Int.mul_pos hd (by omega), ?_, b1 _ _ (Nat.lt_succ_self _) (Nat.lt_succ_self _), Z, ?_, ?_⟩
 ·rw [Int.natAbs_mul, Int.natAbs_natCast, Nat.pow_add]
  exact Nat.mul_le_mul b2 hk.fc
 ·refine zIj (fun q hq => ?_) (fun i hi => ?_)
  ·rw [List.eq_of_mem_replicate hq]; exact zJi.zero _ _
  ·refine ⟨at2 s.rows i p.N * (p.fc : Nat), ?_, (Rat.divInt_mul_right hfz).symm⟩
   rw [Int.natAbs_mul, Int.natAbs_natCast, Nat.pow_add]
   exact Nat.mul_le_mul (b1 _ _ (by omega) (Nat.lt_succ_self _)) hk.fc
 ·intro q hq
  obtain ⟨i, hi, rfl⟩ := List.mem_map.1 hq
  have hi : i < p.m := by simpa using hi
  refine ⟨at2 s.rows p.m (p.n + i) * (p.fac i : Nat), ?_, ?_⟩
  ·rw [Int.natAbs_mul, Int.natAbs_natCast, Nat.pow_add]
   exact Nat.mul_le_mul (b1 _ _ (Nat.lt_succ_self _) (by omega)) (hk.fa i hi)
  ·generalize s.den * ((p.fc : Nat) : Int) = dd
   rw [Rat.divInt_eq_div, Rat.divInt_eq_div, Rat.intCast_mul, Rat.div_def, Rat.div_def, Rat.intCast_natCast, Rat.mul_assoc, Rat.mul_assoc, Rat.mul_comm ((dd : Int) : Rat)⁻¹]
theorem frac_div {B : Nat} {d t : Int} (hd : d ≠ 0) (ht : t ≠ 0) {q : Rat} (h : zJi B d q) : zJi B t (q / Rat.divInt t d) := by
 obtain ⟨x, hx, rfl⟩ := h
 refine ⟨x, hx, ?_⟩
 have hdr : ((d : Int) : Rat) ≠ 0 := zJw hd
 have htr : ((t : Int) : Rat) ≠ 0 := zJw ht
 have e1 : (t : Rat) * (t : Rat)⁻¹ = 1 := Rat.mul_inv_cancel _ htr
 have e2 : (d : Rat) * (d : Rat)⁻¹ = 1 := Rat.mul_inv_cancel _ hdr
 have e : Rat.divInt x d = Rat.divInt x t * Rat.divInt t d := by
  rw [Rat.divInt_eq_div, Rat.divInt_eq_div, Rat.divInt_eq_div, Rat.div_def, Rat.div_def, Rat.div_def]
  grind
 have hne : Rat.divInt t d ≠ 0 := fun q => by
  rw [Rat.divInt_eq_div, Rat.div_def] at q
  have : (t : Rat) * (d : Rat)⁻¹ * (d : Rat) = 0 := by rw [q, Rat.zero_mul]
  have : (t : Rat) = 0 := by grind
  exact htr this
 rw [e]
 exact Rat.mul_div_cancel hne
theorem frac_D {B k : Nat} {d : Int} (hd : d ≠ 0) {q : Rat} (h : zJi B d q) (h1 : B < 10 ^ k) (h2 : d.natAbs < 10 ^ k) : D k q := by
 obtain ⟨x, hx, rfl⟩ := h
 exact zER hd (Nat.lt_of_le_of_lt hx h1) h2
theorem frac_add (x y d : Int) : Rat.divInt x d + Rat.divInt y d = Rat.divInt (x + y) d := by
 rw [Rat.divInt_eq_div, Rat.divInt_eq_div, Rat.divInt_eq_div, Rat.div_def, Rat.div_def, Rat.div_def, Rat.intCast_add]
 grind
/-- sums of numbers with one denominator -/
theorem zN5 {B k : Nat} {t : Int} (ht : t ≠ 0) (hk : k ≤ 2000) (h2 : t.natAbs < 10 ^ k) : ∀ (l : List Rat) (a : Int), (∀ q ∈ l, zJi B t q) → a.natAbs + B * l.length < 10 ^ k → (zG7 (Rat.divInt a t) l).2 = 0
 | [], a, _, _ => rfl
 | q :: r, a, h, hb => by
  obtain ⟨x, hx, rfl⟩ := h q (List.mem_cons_self ..)
  rw [List.length_cons, Nat.mul_add, Nat.mul_one] at hb
  have h3 := Int.natAbs_add_le a x
  rw [zG7, frac_add, if_pos ((zER ht (show (a + x).natAbs < 10 ^ k by omega) h2).fit hk)]
  exact zN5 ht hk h2 r (a + x) (fun q hq => h q (List.mem_cons_of_mem _ hq)) (by omega)
theorem odds_com {qs : List Rat} (hn : qs.length ≤ 256) (hf : ∀ q ∈ qs, zBx q = true) (hs : (zG7 0 qs).2 = 0) (h0 : ∀ q ∈ qs, 0 ≤ q) (h1 : zIu 0 qs = 1) : zEL (qs.map zn) = 0 := by
 have v1 : (qs.map zn).map zt = qs := by
  rw [List.map_map]
  conv => rhs; rw [← List.map_id qs]
  exact List.map_congr_left (fun q hq => (zGs (hf q hq)).2)
 have v2 : zDO (qs.map zn) = 0 := zJp (fun s hs => by
  obtain ⟨q, hq, rfl⟩ := List.mem_map.1 hs
  exact (zGs (hf q hq)).1)
 have v3 : zG8 (qs.map zn) = (1, 0) := by
  unfold zG8
  rw [if_neg (by rw [List.length_map]; omega), if_pos v2, v1]
  have := zL1 qs 0 hs
  rw [h1] at this
  exact Prod.ext this hs
 have v4 : (qs.map zn).any zDc = false := by
  rw [List.any_eq_false]
  intro s hs'
  obtain ⟨q, hq, rfl⟩ := List.mem_map.1 hs'
  have e := zGs (hf q hq)
  have := (zJG e.1).2 (by rw [e.2]; exact h0 q hq)
  simp [this]
 unfold zEL posE
 rw [v3, v4]; rfl
theorem zGp {N : Nat} : ∀ (l : List Rat) (f : Nat), f ∣ N → (∀ q ∈ l, q.den ∣ N) → zCs f l ∣ N
 | [], f, h, _ => h
 | a :: r, f, h, hq => by
  rw [zCs]
  refine zGp r _ ?_ (fun q hq' => hq q (List.mem_cons_of_mem _ hq'))
  have e : f * (a.den / Nat.gcd f a.den) = Nat.lcm f a.den := by
   unfold Nat.lcm
   rw [Nat.mul_div_assoc _ (Nat.gcd_dvd_right f a.den)]
  rw [e]
  exact Nat.lcm_dvd h (hq a (List.mem_cons_self ..))
def zLo : List Rat → Nat
 | [] => 1
 | q :: r => q.den * zLo r
theorem zLq : ∀ l, 0 < zLo l
 | [] => Nat.zero_lt_one
 | q :: r => Nat.mul_pos q.den_pos (zLq r)
theorem zLp : ∀ {l : List Rat}, ∀ q ∈ l, q.den ∣ zLo l
 | [], q, h => absurd h List.not_mem_nil
 | a :: r, q, h => by
  rcases List.mem_cons.1 h with rfl | h
  ·exact Nat.dvd_mul_right _ _
  ·exact Nat.dvd_trans (zLp q h) (Nat.dvd_mul_left _ _)
theorem zNg {k : Nat} : ∀ {l : List Rat}, (∀ q ∈ l, D k q) → zLo l ≤ 10 ^ (k * l.length)
 | [], _ => by rw [List.length_nil, Nat.mul_zero]; exact Nat.le_refl _
 | a :: r, h => by
  rw [List.length_cons, Nat.mul_add, Nat.mul_one, Nat.add_comm, Nat.pow_add]
  exact Nat.mul_le_mul (Nat.le_of_lt (h a (List.mem_cons_self ..)).2) (zNg (fun q hq => h q (List.mem_cons_of_mem _ hq)))
/-- an element of the program: (q - c) a + 1 -/
theorem zOe {k : Nat} {q c a : Rat} (hq : D k q) (hc : D k c) (ha : D k a) :
 ((q * a + 1) - c * a).num.natAbs ≤ 10 ^ (3 * k + 1) ∧ ((q * a + 1) - c * a).den ∣ q.den * (c.den * a.den) := by
 have e : (q * a + 1) - c * a = Rat.divInt ((q.num * c.den - c.num * q.den) * a.num + (q.den * (c.den * a.den) : Nat)) ((q.den * (c.den * a.den) : Nat) : Int) := by
  have n1 : q * (q.den : Rat) = (q.num : Rat) := zJx q
  have n2 : c * (c.den : Rat) = (c.num : Rat) := zJx c
  have n3 : a * (a.den : Rat) = (a.num : Rat) := zJx a
  have hne : (((q.den * (c.den * a.den) : Nat) : Int) : Rat) ≠ 0 := zJw (by
   have := Nat.mul_pos q.den_pos (Nat.mul_pos c.den_pos a.den_pos)
   omega)
  rw [Rat.divInt_eq_div]
  have h : ((q * a + 1) - c * a) * (((q.den * (c.den * a.den) : Nat) : Int) : Rat) = (((q.num * c.den - c.num * q.den) * a.num + (q.den * (c.den * a.den) : Nat) : Int) : Rat) := by
   rw [Rat.intCast_add, Rat.intCast_mul, Rat.intCast_sub, Rat.intCast_mul, Rat.intCast_mul, Rat.intCast_natCast, Rat.intCast_natCast, Rat.intCast_natCast, Rat.natCast_mul, Rat.natCast_mul, ← n1, ← n2, ← n3]
   grind
  rw [← h]
  exact (Rat.mul_div_cancel hne).symm
 have hpos : ((q.den * (c.den * a.den) : Nat) : Int) ≠ 0 := by
  have := Nat.mul_pos q.den_pos (Nat.mul_pos c.den_pos a.den_pos)
  omega
 obtain ⟨e1, e2, _⟩ := zGG ((q.num * c.den - c.num * q.den) * a.num + (q.den * (c.den * a.den) : Nat)) _ hpos
 rw [e]
 refine ⟨?_, ?_⟩
 ·rw [e1]
  refine Nat.le_trans (Nat.div_le_self _ _) ?_
  have b1 : q.num.natAbs * c.den ≤ 10 ^ k * 10 ^ k := Nat.mul_le_mul (Nat.le_of_lt hq.1) (Nat.le_of_lt hc.2)
  have b2 : c.num.natAbs * q.den ≤ 10 ^ k * 10 ^ k := Nat.mul_le_mul (Nat.le_of_lt hc.1) (Nat.le_of_lt hq.2)
  have b3 : q.den * (c.den * a.den) ≤ 10 ^ k * (10 ^ k * 10 ^ k) := Nat.mul_le_mul (Nat.le_of_lt hq.2) (Nat.mul_le_mul (Nat.le_of_lt hc.2) (Nat.le_of_lt ha.2))
  have s1 := Int.natAbs_add_le ((q.num * c.den - c.num * q.den) * a.num) ((q.den * (c.den * a.den) : Nat) : Int)
  have s2 : (q.num * c.den - c.num * q.den).natAbs ≤ 10 ^ k * 10 ^ k + 10 ^ k * 10 ^ k := by
   have := Int.natAbs_sub_le (q.num * c.den) (c.num * q.den)
   rw [Int.natAbs_mul, Int.natAbs_mul, Int.natAbs_natCast, Int.natAbs_natCast] at this
   omega
  have s3 : ((q.num * c.den - c.num * q.den) * a.num).natAbs ≤ (10 ^ k * 10 ^ k + 10 ^ k * 10 ^ k) * 10 ^ k := by
   rw [Int.natAbs_mul]
   exact Nat.mul_le_mul s2 (Nat.le_of_lt ha.1)
  rw [Int.natAbs_natCast] at s1
  have e3 : 10 ^ (3 * k + 1) = 10 ^ k * (10 ^ k * 10 ^ k) * 10 := by
   rw [Nat.pow_succ, show 3 * k = k + (k + k) by omega, Nat.pow_add, Nat.pow_add]
  have e4 : (10 ^ k * 10 ^ k + 10 ^ k * 10 ^ k) * 10 ^ k = 10 ^ k * (10 ^ k * 10 ^ k) + 10 ^ k * (10 ^ k * 10 ^ k) := by
   rw [Nat.add_mul, Nat.mul_assoc]
  rw [e3]
  omega
 ·rw [e2]
  exact Nat.div_dvd_of_dvd (by
   refine Nat.dvd_trans (Nat.gcd_dvd_right _ _) ?_
   rw [Int.natAbs_natCast]; exact Nat.dvd_refl _)
section
variable {M : List (List Rat)} {w : Nat}
theorem zLs {n : Nat} : zCs 1 (List.replicate n (1 : Rat)) = 1 := by
 have := zGp (N := 1) (List.replicate n (1 : Rat)) 1 (Nat.dvd_refl _) (fun q hq => by rw [List.eq_of_mem_replicate hq]; exact Nat.dvd_refl _)
 exact Nat.dvd_one.1 this
/-- the least element of a shifted game is the shifted one of some element -/
theorem zLg (a b : Rat) {k : Nat} (hw : 0 < w) (hm : 0 < M.length) (hM : ∀ r ∈ M, r.length = w) (hD : ∀ r ∈ M, ∀ q ∈ r, D k q) : ∃ c, D k c ∧ zGI (zCp a b M) = c * a + b := by
 refine zHP (P := fun x => ∃ c, D k c ∧ x = c * a + b) (zCp a b M) _ ?_ ?_
 ·have hr := zAD (l := M) [] hm
  exact ⟨(M.getD 0 []).getD 0 0, hD _ hr _ (zAD 0 (by rw [hM _ hr]; exact hw)), zMC a b hM hm hw⟩
 ·intro r hr q hq
  obtain ⟨s, hs, rfl⟩ := List.mem_map.1 hr
  obtain ⟨c, hc, rfl⟩ := List.mem_map.1 hq
  exact ⟨c, hD s hs c hc, Z⟩
theorem zQh (a b : Rat) {k : Nat} (hw : 0 < w) (hm : 0 < M.length) (hM : ∀ r ∈ M, r.length = w) (hD : ∀ r ∈ M, ∀ q ∈ r, D k q) (ha : D k a) :
 Fine (zAT (zCp a b M) w) (k * (w + 2) + (3 * k + 1)) (k * (w + 2)) := by
 obtain ⟨c, hc, hl⟩ := zLg a b hw hm hM hD
 have en := zIa (zCp a b M) w
 have em : (zAT (zCp a b M) w).m = M.length := by rw [zIZ, zIF]
 have hok := zFu (zGd a b hM)
 have hM' := zGd a b hM
 -- the elements of a row and its right side
 have hel : ∀ i, i < M.length → ∀ q ∈ (zAT (zCp a b M) w).full i, q.num.natAbs ≤ 10 ^ (3 * k + 1) ∧ q.den ∣ zLo (M.getD i []) * (c.den * a.den) := by
  intro i hi q hq
  rcases List.mem_append.1 hq with h | h
  ·rw [zJC (by rw [zIF]; exact hi)] at h
   obtain ⟨x, hx, rfl⟩ := List.mem_map.1 h
   have e : (zCp a b M).getD i [] = (M.getD i []).map (fun q => q * a + b) := zB8 _ M [] [] i hi
   rw [e] at hx
   obtain ⟨y, hy, rfl⟩ := List.mem_map.1 hx
   have hy' := hD _ (zAD [] hi) y hy
   obtain ⟨g1, g2⟩ := zOe hy' hc ha
   have e2 : y * a + b + zDs (zCp a b M) = (y * a + 1) - c * a := by
    unfold zDs; rw [hl]; grind
   rw [e2]
   exact ⟨g1, Nat.dvd_trans g2 (Nat.mul_dvd_mul_right (zLp y hy) _)⟩
  ·rw [List.mem_singleton.1 h]
   have e2 : (zAT (zCp a b M) w).B.getD i 0 = 1 := zCf (by rw [zIF]; exact hi)
   rw [e2]
   exact ⟨zBo _, Nat.one_dvd _⟩
 have hN : ∀ i, i < M.length → zLo (M.getD i []) * (c.den * a.den) ≤ 10 ^ (k * (w + 2)) := fun i hi => by
  have h1 := zNg (k := k) (hD _ (zAD [] hi))
  rw [hM _ (zAD [] hi)] at h1
  have h2 : c.den * a.den ≤ 10 ^ k * 10 ^ k := Nat.mul_le_mul (Nat.le_of_lt hc.2) (Nat.le_of_lt ha.2)
  rw [Nat.mul_add, Nat.pow_add, show k * 2 = k + k by omega, Nat.pow_add]
  exact Nat.mul_le_mul h1 h2
 have hfac : ∀ i, i < M.length → (zAT (zCp a b M) w).fac i ≤ 10 ^ (k * (w + 2)) := fun i hi => by
  refine Nat.le_trans (Nat.le_of_dvd (Nat.mul_pos (zLq _) (Nat.mul_pos c.den_pos a.den_pos)) ?_) (hN i hi)
  exact zGp _ 1 (Nat.one_dvd _) (fun q hq => (hel i hi q hq).2)
 refine ⟨fun i j hi hj => ?_, fun j hj => ?_, fun i hi => ?_, ?_⟩
 ·rw [zJV _ hok hi hj, Int.natAbs_mul, Int.natAbs_natCast, Nat.pow_add, Nat.mul_comm]
  rw [em] at hi
  have hin : ((zAT (zCp a b M) w).full i).getD j 0 ∈ (zAT (zCp a b M) w).full i := zAD 0 (by rw [zD7 _ hok (by rw [em]; exact hi)]; exact hj)
  exact Nat.mul_le_mul (Nat.le_trans (Nat.div_le_self _ _) (hfac i hi)) (hel i hi _ hin).1
 ·have e : (zAj (zAT (zCp a b M) w).C).getD j 0 = 1 := by
   have hx : (zAj (List.replicate w (1 : Rat))).getD j 0 = 1 := by
    rw [en] at hj
    unfold zAj
    rw [zB8 _ _ 0 _ _ (by rw [List.length_replicate]; exact hj), zCf hj, zLs]
    rfl
   exact hx
  rw [e]; exact zBo _
 ·rw [em] at hi; exact hfac i hi
 ·have e : (zAT (zCp a b M) w).fc = 1 := zLs
  rw [e]; exact zBo _
/-- The results of a small game. -/
structure Small (M : List (List Rat)) (w K L : Nat) : Prop where
 sad : Sad M w (zAL M w K L).1 (zAL M w K L).2.1 (zAL M w K L).2.2
 v : D 1300 (zAL M w K L).1
 r : ∀ q ∈ (zAL M w K L).2.1, D 1320 q
 c : ∀ q ∈ (zAL M w K L).2.2, D 1320 q
 rs : zEL ((zAL M w K L).2.1.map zn) = 0
 cs : zEL ((zAL M w K L).2.2.map zn) = 0
theorem ten5 {k : Nat} : 10 ^ k * 5 < 10 ^ (k + 1) := by
 rw [Nat.pow_succ]
 have := zBo k
 omega
theorem zOv {l : List Rat} {n : Nat} (hl : l.length = n) (h : ∀ i, i < n → 0 ≤ l.getD i 0) : ∀ q ∈ l, 0 ≤ q := by
 intro q hq
 obtain ⟨i, hi, rfl⟩ := List.mem_iff_getElem.1 hq
 have := h i (by omega)
 simpa [List.getD, hi] using this
theorem zQE {l : List Rat} {n : Nat} (hl : l.length = n) : zAV (fun i => l.getD i 0) n = zIu 0 l := by
 rw [zLy n l (by omega), List.take_of_length_le (by omega)]
theorem zOk (a b : Rat) (hM : ∀ r ∈ M, r.length = w) (hw : 0 < w) (hm : 0 < M.length) (hw5 : w ≤ 5) (hm5 : M.length ≤ 5) (hD : ∀ r ∈ M, ∀ q ∈ r, D 12 q) (ha : D 12 a) (hb : D 12 b) {K L : Nat}
 (hs : Stops (zAT (zCp a b M) w) K L) : Small (zCp a b M) w K L := by
 have hM' := zGd a b hM
 have hl' := zIF a b M
 have hok := zFu hM'
 obtain ⟨g0, gV, gX, gY, gS⟩ := zLY hM' hw (by rw [hl']; exact hm) (zNu hok hs)
 have en := zIa (zCp a b M) w
 have em : (zAT (zCp a b M) w).m = M.length := by rw [zIZ, hl']
 have hfine := zQh a b hw hm hM hD ha
 obtain ⟨d, t, d0, d1, t1, eV, fX, fY⟩ := run_frac hok hfine (by rw [em]; omega) g0
 rw [em] at d1 t1 fX fY
 have hdz : d ≠ 0 := by omega
 have hT : (12 * (w + 2) + (3 * 12 + 1) + 2) * (M.length + 1) ≤ 738 := Nat.le_trans (Nat.mul_le_mul (show 12 * (w + 2) + (3 * 12 + 1) + 2 ≤ 123 by omega) (show M.length + 1 ≤ 6 by omega)) (by decide)
 generalize (12 * (w + 2) + (3 * 12 + 1) + 2) * (M.length + 1) = T at *
 obtain ⟨e1, he1⟩ : ∃ e : Nat, e = 1200 := ⟨_, rfl⟩
 obtain ⟨e2, he2⟩ : ∃ e : Nat, e = 1310 := ⟨_, rfl⟩
 obtain ⟨e3, he3⟩ : ∃ e : Nat, e = 1320 := ⟨_, rfl⟩
 have hd1 : d.natAbs ≤ 10 ^ e1 := Nat.le_trans d1 (Nat.pow_le_pow_right (by decide) (by omega))
 have ht1 : t.natAbs ≤ 10 ^ e1 := Nat.le_trans t1 (Nat.pow_le_pow_right (by decide) (by omega))
 have htz : t ≠ 0 := fun e => by
  rw [eV, e, Rat.zero_divInt] at gV
  exact Rat.lt_irrefl gV
 have hlt : e1 < e3 := by omega
 have ht2 : t.natAbs < 10 ^ e3 := Nat.lt_of_le_of_lt ht1 (Nat.pow_lt_pow_right (a := 10) (m := e1) (n := e3) (by decide) hlt)
 have hB : 10 ^ (T + 12 * (w + 2)) ≤ 10 ^ e2 := Nat.pow_le_pow_right (by decide) (by omega)
 have mono : ∀ {l : List Rat}, (∀ q ∈ l, zJi (10 ^ (T + 12 * (w + 2))) d q) → ∀ q ∈ l.map (fun q => q / (zDd (zAT (zCp a b M) w) K L).V), zJi (10 ^ e2) t q := fun hl q hq => by
  obtain ⟨a, ha, rfl⟩ := List.mem_map.1 hq
  rw [eV]
  obtain ⟨x, hx, e⟩ := frac_div hdz htz (hl a ha)
  exact ⟨x, Nat.le_trans hx hB, e⟩
 have mX := mono fX
 have mY := mono fY
 have hb2 : 10 ^ e2 < 10 ^ e3 := Nat.pow_lt_pow_right (by decide) (by omega)
 have dX : ∀ q ∈ (zAL (zCp a b M) w K L).2.2, D 1320 q := fun q hq => (frac_D htz (mX q hq) hb2 ht2).mono (by omega)
 have dY : ∀ q ∈ (zAL (zCp a b M) w K L).2.1, D 1320 q := fun q hq => (frac_D htz (mY q hq) hb2 ht2).mono (by omega)
 have sum : ∀ (l : List Rat) (n : Nat), l.length = n → n ≤ 5 → (∀ q ∈ l, zJi (10 ^ e2) t q) → (∀ q ∈ l, D 1320 q) → (∀ i, i < n → 0 ≤ l.getD i 0) → zAV (fun i => l.getD i 0) n = 1 → zEL (l.map zn) = 0 := fun l n hl hn hf hd h0 h1 => by
  refine odds_com (by omega) (fun q hq => (hd q hq).fit (by decide)) ?_ (zOv hl h0) (by rw [← zQE hl]; exact h1)
  have := zN5 (B := 10 ^ e2) (k := e3) htz (by omega) ht2 l 0 hf (by
   refine Nat.lt_of_le_of_lt ?_ (Nat.lt_of_lt_of_le (ten5 (k := e2)) (Nat.pow_le_pow_right (by decide) (by omega)))
   rw [Int.natAbs_zero, Nat.zero_add]
   exact Nat.mul_le_mul_left _ (by omega))
  rwa [Rat.zero_divInt] at this
 refine ⟨gS, ?_, dY, dX, sum _ _ gS.xl (by rw [hl']; exact hm5) mY dY gS.x0 gS.xs, sum _ _ gS.yl hw5 mX dX gS.y0 gS.ys⟩
 have h1 : D 1201 (Rat.divInt t d) := (zER hdz (zCx ht1) (zCx hd1)).mono (by omega)
 have h2 : D 1202 (1 / (zDd (zAT (zCp a b M) w) K L).V) := by
  rw [eV]
  exact ((zHf 0).div h1 (by rw [← eV]; intro e; rw [e] at gV; exact Rat.lt_irrefl gV)).mono (by decide)
 obtain ⟨c, hc, hl⟩ := zLg a b hw hm hM hD
 have h3 : D 39 (zDs (zCp a b M)) := by
  unfold zDs; rw [hl]
  exact ((zHf 0).sub ((hc.mul ha).add hb)).mono (by decide)
 exact (h2.sub h3).mono (by decide)
end
end Go.Ax.Mg
namespace Go.Ax.Rt
open Go.Ax.Bg
abbrev firstF (t : Tree) (p : Int) : List (Int × Nat) := (formN t p t.length).first
/-- The choices from e on belong to whole sets. -/
structure Bnd (t : Tree) (p : Int) (e : Nat) : Prop where
 one : 1 ≤ e
 le : e ≤ (seqsOf t p).length
 whole : ∀ x ∈ firstF t p, x.2 < e → x.2 + zJ7 t p x.1 ≤ e
structure Blk (t : Tree) (p : Int) (e : Nat) (x : Int × Nat) (b : Nat) : Prop where
 mem : x ∈ firstF t p
 info : x.1 ∈ infosOf t p
 one : 1 ≤ x.2
 w1 : 1 ≤ zJ7 t p x.1
 fin : x.2 + zJ7 t p x.1 = e
 lt : b < x.2
 bnd : Bnd t p x.2
 seqs : ∀ c, c < zJ7 t p x.1 → (seqsOf t p).getD (x.2 + c) seq0 = ⟨x.1, (c : Int), (b : Int)⟩
end Go.Ax.Rt
namespace Go.Ax.Rt
open Go.Ax.Bg Go.Ax.Idx
theorem zN6 : ∀ (qs : List Rat) (acc : Rat), (zG7 acc qs).2 = 0 → (zG7 acc qs).1 = zIu acc qs
 | [], acc, _ => rfl
 | q :: r, acc, h => by
  rw [zG7] at h ⊢
  rw [zIu]
  split at h
  ·rename_i hf
   rw [if_pos hf]
   exact zN6 r _ h
  ·cases h
theorem zFy {l : List zu} (h : zEL l = 0) : l.length ≤ 256 ∧ (∀ s ∈ l, zCe s = 0) ∧ zIu 0 (l.map zt) = 1 ∧ ∀ q ∈ l.map zt, 0 ≤ q ∧ D 2000 q := by
 unfold zEL at h
 split at h
 case isFalse h1 => exact absurd h h1
 rename_i h1
 split at h
 case isFalse => cases h
 rename_i h2
 unfold posE at h1
 split at h1
 ·cases h1
 rename_i h3
 have h4 : l.any zDc = false := by
  cases hb : l.any zDc
  ·rfl
  ·exact absurd ⟨h1, hb⟩ h3
 unfold zG8 at h1 h2
 split at h1
 ·cases h1
 rename_i h5
 split at h1
 case isFalse h6 => exact absurd h1 h6
 rename_i h6
 rw [if_neg h5, if_pos h6] at h2
 have h7 := zB2 h6
 refine ⟨by omega, h7, ?_, fun q hq => ?_⟩
 ·have := zN6 _ _ h1
  rw [this] at h2
  unfold zCG at h2
  split at h2
  ·cases h2
  ·split at h2
   ·rename_i e; exact e
   ·cases h2
 ·obtain ⟨s, hs, rfl⟩ := List.mem_map.1 hq
  have hn := (zJG (h7 s hs)).1 (by rw [List.any_eq_false] at h4; simpa using h4 s hs)
  refine ⟨hn, ?_⟩
  have hf := (IsQ.self (h7 s hs)).fit
  unfold zBx at hf
  rw [Bool.and_eq_true, decide_eq_true_eq, decide_eq_true_eq] at hf
  exact dig_D hf.1 hf.2
end Go.Ax.Rt
namespace Go.Ax.Mg
open Go.Ax.Dt Go.Ax.Rt Go.Ax.Bg Go.Ax.Sx
abbrev ResG := zu × List zu × List zu
def zJQ (g : Rat × List Rat × List Rat) : ResG := (zn g.1, g.2.1.map zn, g.2.2.map zn)
def zLW (g : Rat × List Rat × List Rat) : Bool := (g.1 :: (g.2.1 ++ g.2.2)).all zBx
/-- matgame.Solve -/
def zBS (m : List (List zu)) (K L : Nat) : ResG × Int :=
 if zAu m ≠ 0 then (([], [], []), zAu m) else if zLW (zAL (inM m) (zAC m) K L) = true then (zJQ (zAL (inM m) (zAC m) K L), 0) else (([], [], []), 2)
def zDr (m : List (List zu)) (r c : List zu) : Int := if r.length ≠ m.length ∨ c.length ≠ zAC m then 3 else if zEL r ≠ 0 then zEL r else zEL c
/-- matgame.Pay -/
def zGy (m : List (List zu)) (r c : List zu) : zu × Int :=
 if zAu m ≠ 0 then ([], zAu m) else if zDr m r c ≠ 0 then ([], zDr m r c) else outF (zAK (r.map zt) ((inM m).map (fun row => zAK row (c.map zt))))
/-- matgame.Verify -/
def verG (m : List (List zu)) (v : zu) (r c : List zu) : Int :=
 if zAu m ≠ 0 then zAu m else if zDr m r c ≠ 0 then zDr m r c else if zCe v ≠ 0 then zCe v
 else if (inM m).any (fun row => decide (0 < zCG (zAK row (c.map zt)) (zt v))) = true then 16
 else if (zHe (inM m) c.length).any (fun col => decide (zCG (zAK col (r.map zt)) (zt v) < 0)) = true then 16 else 0
/-- is row i less than row o in all its elements? -/
def zH8 (x : List (List Rat)) (i o : Nat) : Bool := (List.range (x.getD i []).length).all (fun k => decide (0 < zCG ((x.getD o []).getD k 0) ((x.getD i []).getD k 0)))
def domL (x : List (List Rat)) : List Nat := (List.range x.length).filter (fun i => (List.range x.length).any (fun o => zH8 x i o))
theorem cmp_gtz {a b : Rat} : 0 < zCG a b ↔ b < a := by
 unfold zCG
 split
 ·rename_i h; exact ⟨fun h2 => absurd h2 (by omega), fun h2 => absurd (le_lt (Rat.le_of_lt h) h2) Rat.lt_irrefl⟩
 ·rename_i h
  split
  ·rename_i h2; subst h2; exact ⟨fun h2 => absurd h2 (by omega), fun h2 => absurd h2 Rat.lt_irrefl⟩
  ·rename_i h2
   refine ⟨fun _ => ?_, fun _ => by omega⟩
   rcases Rat.le_iff_lt_or_eq.1 (Rat.not_lt.1 h) with q | q
   ·exact q
   ·exact absurd q.symm h2
theorem zLL {l : List Rat} (h : ∀ q ∈ l, zBx q = true) : (l.map zn).map zt = l := by
 rw [List.map_map]
 conv => rhs; rw [← List.map_id l]
 exact List.map_congr_left (fun q hq => (zGs (h q hq)).2)
theorem aff_id (M : List (List Rat)) : zCp 1 0 M = M := by
 unfold zCp
 conv => rhs; rw [← List.map_id M]
 refine List.map_congr_left (fun r _ => ?_)
 conv => rhs; rw [id, ← List.map_id r]
 exact List.map_congr_left (fun q _ => by rw [Rat.mul_one, Rat.add_zero]; rfl)
theorem zNG {m : List (List zu)} {p q : Nat} (h : IsM m p q) (hp : 0 < p) (hp' : p ≤ 12) (hq : 0 < q) (hq' : q ≤ 12) : zAu m = 0 := by
 have hne : m ≠ [] := fun e => by have := h.rows; rw [e] at this; exact absurd this (by show ¬ 0 = p; omega)
 unfold zAu
 rw [if_neg (by rw [h.rows]; omega), if_neg (fun c => c (matE_of h)), if_neg (by rw [h.wid hne]; omega), if_neg (by rw [h.wid hne]; omega)]
/-- what a good game gives -/
structure IsG (m : List (List zu)) : Prop where
 is : IsM m m.length (zAC m)
 w : 0 < zAC m
 w12 : zAC m ≤ 12
 l : 0 < m.length
 l12 : m.length ≤ 12
theorem zGr {m : List (List zu)} (h : zAu m = 0) : IsG m := by
 obtain ⟨h1, h2, h3, h4, h5⟩ := zE3 h
 exact ⟨zFw h1, by omega, h4, List.length_pos_iff.2 h5, h2⟩
theorem IsG.rows {m : List (List zu)} (h : IsG m) : ∀ r ∈ inM m, r.length = zAC m := zNL h.is
/-- what the results of a solved game are -/
structure Solv (m : List (List zu)) (K L : Nat) : Prop where
 g : IsG m
 eq : zBS m K L = (zJQ (zAL (inM m) (zAC m) K L), 0)
 sad : Sad (inM m) (zAC m) (zAL (inM m) (zAC m) K L).1 (zAL (inM m) (zAC m) K L).2.1 (zAL (inM m) (zAC m) K L).2.2
 v : IsQ (zn (zAL (inM m) (zAC m) K L).1) (zAL (inM m) (zAC m) K L).1
 vD : D 1300 (zAL (inM m) (zAC m) K L).1
 r : ((zAL (inM m) (zAC m) K L).2.1.map zn).map zt = (zAL (inM m) (zAC m) K L).2.1
 c : ((zAL (inM m) (zAC m) K L).2.2.map zn).map zt = (zAL (inM m) (zAC m) K L).2.2
 rs : zEL ((zAL (inM m) (zAC m) K L).2.1.map zn) = 0
 cs : zEL ((zAL (inM m) (zAC m) K L).2.2.map zn) = 0
theorem solv_of {m : List (List zu)} {K L : Nat} (hg : zAu m = 0) (S : Small (inM m) (zAC m) K L) : Solv m K L := by
 have f1 : ∀ q ∈ (zAL (inM m) (zAC m) K L).2.1, zBx q = true := fun q hq => (S.r q hq).fit (by decide)
 have f2 : ∀ q ∈ (zAL (inM m) (zAC m) K L).2.2, zBx q = true := fun q hq => (S.c q hq).fit (by decide)
 have f0 : zBx (zAL (inM m) (zAC m) K L).1 = true := S.v.fit (by decide)
 have hf : zLW (zAL (inM m) (zAC m) K L) = true := by
  unfold zLW
  rw [List.all_eq_true]
  intro q hq
  rcases List.mem_cons.1 hq with rfl | hq
  ·exact f0
  ·rcases List.mem_append.1 hq with hq | hq
   ·exact f1 q hq
   ·exact f2 q hq
 refine ⟨zGr hg, ?_, S.sad, zGs f0, S.v, zLL f1, zLL f2, S.rs, S.cs⟩
 unfold zBS
 rw [if_neg (fun q => q hg), if_pos hf]
/-- small games -/
theorem zLt (a b : Rat) {m m' : List (List zu)} {K L : Nat} (hg : zAu m' = 0) (hM : inM m' = zCp a b (inM m)) (hc : ∀ r ∈ inM m, r.length = zAC m') (hl : 0 < m.length) (hw5 : zAC m' ≤ 5) (hl5 : m.length ≤ 5)
 (hD : ∀ r ∈ inM m, ∀ q ∈ r, D 12 q) (ha : D 12 a) (hb : D 12 b) (hs : Stops (zAT (inM m') (zAC m')) K L) : Solv m' K L := by
 have h := zGr hg
 refine solv_of hg ?_
 rw [hM] at hs ⊢
 exact zOk a b hc h.w (by rw [zDk]; exact hl) hw5 (by rw [zDk]; exact hl5) hD ha hb hs
theorem zL5 {m : List (List zu)} {K L n : Nat} (hn : n ≤ 5) (hg : zAu m = 0) (ht : zJm n 12 m = true) (hs : Stops (zAT (inM m) (zAC m)) K L) : Solv m K L := by
 have h := zGr hg
 obtain ⟨t1, t2⟩ := zJR ht
 have hne : m ≠ [] := List.length_pos_iff.1 h.l
 have hw : zAC m ≤ 5 := by
  have := (t2 _ (zAD (l := m) [] h.l)).1
  show (m.getD 0 []).length ≤ 5
  omega
 exact zLt 1 0 hg (aff_id _).symm h.rows h.l hw (by omega) (inM_D h.is (fun v hv => (t2 v hv).2) (by decide)) ((zHf 0).mono (by decide)) ((zMo 0).mono (by decide)) hs
theorem Solv.strats {m : List (List zu)} {K L : Nat} (S : Solv m K L) : zDr m ((zAL (inM m) (zAC m) K L).2.1.map zn) ((zAL (inM m) (zAC m) K L).2.2.map zn) = 0 := by
 unfold zDr
 rw [if_neg, if_neg (fun q => q S.rs), S.cs]
 rw [List.length_map, List.length_map, S.sad.xl, S.sad.yl, zDk]
 rintro (q | q) <;> exact q rfl
/-- MatgameProves -/
theorem zQu {m : List (List zu)} {K L : Nat} (S : Solv m K L) :
 zGy m (zBS m K L).1.2.1 (zBS m K L).1.2.2 = ((zBS m K L).1.1, 0) ∧ verG m (zBS m K L).1.1 (zBS m K L).1.2.1 (zBS m K L).1.2.2 = 0 := by
 have hg : zAu m = 0 := zNG S.g.is S.g.l S.g.l12 S.g.w S.g.w12
 have hs := S.strats
 rw [S.eq]
 have hp : zAK (zAL (inM m) (zAC m) K L).2.1 ((inM m).map (fun row => zAK row (zAL (inM m) (zAC m) K L).2.2)) = (zAL (inM m) (zAC m) K L).1 := by
  rw [zO1 S.sad.xl, S.sad.pay S.g.rows]
 refine ⟨?_, ?_⟩
 ·show zGy m ((zAL (inM m) (zAC m) K L).2.1.map zn) ((zAL (inM m) (zAC m) K L).2.2.map zn) = (zn (zAL (inM m) (zAC m) K L).1, 0)
  unfold zGy
  rw [if_neg (fun q => q hg), if_neg (fun q => q hs), S.r, S.c, hp]
  exact S.v.out
 ·show verG m (zn (zAL (inM m) (zAC m) K L).1) ((zAL (inM m) (zAC m) K L).2.1.map zn) ((zAL (inM m) (zAC m) K L).2.2.map zn) = 0
  unfold verG
  rw [if_neg (fun q => q hg), if_neg (fun q => q hs), if_neg (fun q => q S.v.1), S.r, S.c, S.v.2, List.length_map, S.sad.yl, if_neg, if_neg]
  ·rw [Bool.not_eq_true, List.any_eq_false]
   intro col hc
   obtain ⟨k, hk, rfl⟩ := List.mem_map.1 hc
   have h1 := S.sad.lo k (by simpa using hk)
   rw [decide_eq_true_eq, zJr]
   exact Rat.not_lt.2 h1
  ·rw [Bool.not_eq_true, List.any_eq_false]
   intro row hr
   obtain ⟨i, hi, rfl⟩ := List.mem_iff_getElem.1 hr
   have h1 := S.sad.up i hi
   have e : (inM m).getD i [] = (inM m)[i] := by simp [List.getD, hi]
   rw [e] at h1
   rw [decide_eq_true_eq, cmp_gtz]
   exact Rat.not_lt.2 h1
/-- a payment that is returned -/
theorem zKR {m : List (List zu)} {r c : List zu} (h : (zGy m r c).2 = 0) : zDr m r c = 0 ∧ IsQ (zGy m r c).1 (zAK (r.map zt) ((inM m).map (fun row => zAK row (c.map zt)))) := by
 unfold zGy at h ⊢
 split at h
 ·rename_i h1; exact absurd h h1
 split at h
 ·rename_i h1; exact absurd h h1
 rename_i h1 h2
 rw [if_neg h1, if_neg h2]
 refine ⟨Classical.not_not.1 h2, ?_⟩
 unfold outF at h ⊢
 split at h
 ·rename_i h3
  rw [if_pos h3]; exact zGs h3
 ·cases h
theorem zHV {m : List (List zu)} {r c : List zu} (h : zDr m r c = 0) : r.length = m.length ∧ c.length = zAC m ∧ zEL r = 0 ∧ zEL c = 0 := by
 unfold zDr at h
 split at h
 ·cases h
 split at h
 ·rename_i h1; exact absurd h h1
 rename_i h1 h2
 exact ⟨Classical.not_not.1 (fun q => h1 (.inl q)), Classical.not_not.1 (fun q => h1 (.inr q)), Classical.not_not.1 h2, h⟩
theorem zLj {l : List zu} {n : Nat} (hl : l.length = n) (h : zEL l = 0) : (∀ i, i < n → 0 ≤ (l.map zt).getD i 0) ∧ zAV (fun i => (l.map zt).getD i 0) n = 1 := by
 obtain ⟨h1, h2, h3, h4⟩ := zFy h
 refine ⟨fun i hi => (h4 _ (zAD 0 (by rw [List.length_map]; omega))).1, ?_⟩
 rw [zQE (by rw [List.length_map]; exact hl), h3]
/-- MatgameSafe -/
theorem mg_safe {m : List (List zu)} {K L : Nat} (S : Solv m K L) (x y : List zu) :
 ((zGy m (zBS m K L).1.2.1 y).2 = 0 → zCe (zGy m (zBS m K L).1.2.1 y).1 = 0 ∧ zCe (zBS m K L).1.1 = 0 ∧ 0 ≤ zCG (zt (zGy m (zBS m K L).1.2.1 y).1) (zt (zBS m K L).1.1)) ∧
 ((zGy m x (zBS m K L).1.2.2).2 = 0 → zCe (zGy m x (zBS m K L).1.2.2).1 = 0 ∧ zCe (zBS m K L).1.1 = 0 ∧ zCG (zt (zGy m x (zBS m K L).1.2.2).1) (zt (zBS m K L).1.1) ≤ 0) := by
 rw [S.eq]
 refine ⟨fun h => ?_, fun h => ?_⟩
 ·obtain ⟨h1, h2⟩ := zKR h
  obtain ⟨l1, l2, o1, o2⟩ := zHV h1
  obtain ⟨p1, p2⟩ := zLj l2 o2
  refine ⟨h2.1, S.v.1, ?_⟩
  show 0 ≤ zCG _ (zt (zn (zAL (inM m) (zAC m) K L).1))
  rw [h2.2, S.v.2]
  have e : ((zJQ (zAL (inM m) (zAC m) K L), (0 : Int)).1.2.1).map zt = (zAL (inM m) (zAC m) K L).2.1 := S.r
  rw [e, zO1 S.sad.xl]
  have hle := S.sad.low S.g.rows p1 p2
  exact Int.not_lt.1 (fun q => Rat.not_lt.2 hle (zJr.1 q))
 ·obtain ⟨h1, h2⟩ := zKR h
  obtain ⟨l1, l2, o1, o2⟩ := zHV h1
  obtain ⟨p1, p2⟩ := zLj (n := (inM m).length) (by rw [zDk]; exact l1) o1
  refine ⟨h2.1, S.v.1, ?_⟩
  show zCG _ (zt (zn (zAL (inM m) (zAC m) K L).1)) ≤ 0
  rw [h2.2, S.v.2]
  have e : ((zJQ (zAL (inM m) (zAC m) K L), (0 : Int)).1.2.2).map zt = (zAL (inM m) (zAC m) K L).2.2 := S.c
  rw [e, zO1 (by rw [List.length_map, zDk]; exact l1)]
  exact cmp_of (S.sad.high p1 p2)
def zH5 (a b : zu) (q : zu) : zu := zn (zt q * zt a + zt b)
def zD4 (a b : zu) (m : List (List zu)) : List (List zu) := m.map (fun r => r.map (zH5 a b))
/-- a text of a number is good with a and b -/
def zLI (a b q : zu) : Prop := ∃ p s, zJn (fun x y => x * y) q a = (p, 0) ∧ zJn (fun x y => x + y) p b = (s, 0) ∧ s = zH5 a b q ∧ IsQ s (zt q * zt a + zt b)
theorem zNJ {a b q : zu} {k : Nat} (ha : zCe a = 0) (hb : zCe b = 0) (hq : zCe q = 0) (da : D k (zt a)) (db : D k (zt b)) (dq : D 1300 (zt q)) (hk : k ≤ 100) : zLI a b q := by
 have h1 : D 1400 (zt q * zt a) := (dq.mul da).mono (by omega)
 have h2 : D 1600 (zt q * zt a + zt b) := (h1.add db).mono (by omega)
 have i1 := zGs (h1.fit (by decide))
 have i2 := zGs (h2.fit (by decide))
 refine ⟨zn (zt q * zt a), zn (zt q * zt a + zt b), ?_, ?_, Z, i2⟩
 ·rw [IsQ.two _ (IsQ.self hq) (IsQ.self ha)]; exact i1.out
 ·rw [IsQ.two _ i1 (IsQ.self hb)]; exact i2.out
theorem shift_is {a b : zu} {m : List (List zu)} {p q : Nat} (h : IsM m p q) (hg : ∀ r ∈ m, ∀ s ∈ r, zLI a b s) : IsM (zD4 a b m) p q ∧ inM (zD4 a b m) = zCp (zt a) (zt b) (inM m) := by
 refine ⟨⟨by unfold zD4; rw [List.length_map]; exact h.rows, fun r hr => ?_, h.sp, fun hne => h.sq (fun e => hne (by rw [e]; rfl)), fun r hr s hs => ?_⟩, ?_⟩
 ·obtain ⟨t, ht, rfl⟩ := List.mem_map.1 hr
  rw [List.length_map]; exact h.cols t ht
 ·obtain ⟨t, ht, rfl⟩ := List.mem_map.1 hr
  obtain ⟨u, hu, rfl⟩ := List.mem_map.1 hs
  obtain ⟨_, _, _, _, e, hi⟩ := hg t ht u hu
  rw [← e]; exact hi.1
 ·unfold inM zD4 zCp
  rw [List.map_map, List.map_map]
  refine List.map_congr_left (fun r hr => ?_)
  show (r.map (zH5 a b)).map zt = (r.map zt).map _
  rw [List.map_map, List.map_map]
  refine List.map_congr_left (fun s hs => ?_)
  obtain ⟨_, _, _, _, e, hi⟩ := hg r hr s hs
  show zt (zH5 a b s) = zt s * zt a + zt b
  rw [← e]; exact hi.2
theorem wid_of {m : List (List zu)} {p q : Nat} (h : IsM m p q) (hp : 0 < p) : zAC m = q := h.wid (fun e => by have := h.rows; rw [e] at this; exact absurd this (by show ¬ 0 = p; omega))
/-- MatgameShifts -/
theorem mg_shift {m : List (List zu)} {a b : zu} {K L K' L' : Nat} (hg : zAu m = 0) (ht : zJm 4 12 m = true) (ha : zCe a = 0) (hb : zCe b = 0) (la : a.length ≤ 12) (lb : b.length ≤ 12) (hpos : 0 < zt a)
 (hs : Stops (zAT (inM m) (zAC m)) K L) (hs' : Stops (zAT (inM (zD4 a b m)) (zAC (zD4 a b m))) K' L') :
 (∀ r ∈ m, ∀ s ∈ r, zLI a b s) ∧ zAu (zD4 a b m) = 0 ∧ Solv m K L ∧ Solv (zD4 a b m) K' L' ∧ zLI a b (zBS m K L).1.1 ∧ (zBS (zD4 a b m) K' L').1.1 = zH5 a b (zBS m K L).1.1 := by
 have h := zGr hg
 obtain ⟨t1, t2⟩ := zJR ht
 have da : D 12 (zt a) := (IsQ.self ha).dig la (by decide)
 have db : D 12 (zt b) := (IsQ.self hb).dig lb (by decide)
 have hD := inM_D h.is (fun v hv => (t2 v hv).2) (by decide)
 have hgs : ∀ r ∈ m, ∀ s ∈ r, zLI a b s := fun r hr s hs => zNJ ha hb (h.is.ok r hr s hs) da db ((hD _ (List.mem_map.2 ⟨r, hr, rfl⟩) _ (List.mem_map.2 ⟨s, hs, rfl⟩)).mono (by decide)) (by decide)
 obtain ⟨i1, i2⟩ := shift_is h.is hgs
 have hw := wid_of i1 h.l
 have hg' : zAu (zD4 a b m) = 0 := zNG i1 h.l h.l12 h.w h.w12
 have S := zL5 (by decide) hg ht hs
 have hw4 : zAC m ≤ 5 := by
  have := (t2 _ (zAD (l := m) [] h.l)).1
  show (m.getD 0 []).length ≤ 5
  omega
 have S' := zLt (zt a) (zt b) hg' i2 (by rw [hw]; exact h.rows) h.l (by rw [hw]; exact hw4) (by omega) hD da db hs'
 have hv : IsQ (zBS m K L).1.1 (zAL (inM m) (zAC m) K L).1 := by rw [S.eq]; exact S.v
 have gv : zLI a b (zBS m K L).1.1 := zNJ ha hb hv.1 da db (by rw [hv.2]; exact S.vD) (by decide)
 refine ⟨hgs, hg', S, S', gv, ?_⟩
 rw [S'.eq]
 show zn _ = zn _
 rw [hv.2]
 congr 1
 have s1 := S.sad.shift (a := zt a) (b := zt b) hpos h.rows
 have s2 := S'.sad
 rw [hw, i2] at s2 ⊢
 exact s2.uniq s1 (zGd _ _ h.rows)
section
variable {M : List (List Rat)} {w k : Nat}
theorem zPr (hw : 0 < w) (hm : 0 < M.length) (hM : ∀ r ∈ M, r.length = w) (hD : ∀ r ∈ M, ∀ q ∈ r, D k q) : D k (zGI M) :=
 zHP (P := fun q => D k q) M _ (hD _ (zAD [] hm) _ (zAD 0 (by rw [hM _ (zAD [] hm)]; exact hw))) hD
theorem addM_D (hw : 0 < w) (hm : 0 < M.length) (hM : ∀ r ∈ M, r.length = w) (hD : ∀ r ∈ M, ∀ q ∈ r, D k q) : D (k + 2) (zDs M) := by
 unfold zDs
 exact ((zHf 0).sub (zPr hw hm hM hD)).mono (by omega)
theorem zLX (hw : 0 < w) (hm : 0 < M.length) (hM : ∀ r ∈ M, r.length = w) (hD : ∀ r ∈ M, ∀ q ∈ r, D k q) : (zAT M w).Dig (2 * k + 3) := by
 have ha := addM_D hw hm hM hD
 refine ⟨fun r hr q hq => ?_, fun q hq => ?_, fun q hq => ?_⟩
 ·obtain ⟨s, hs, rfl⟩ := List.mem_map.1 hr
  obtain ⟨c, hc, rfl⟩ := List.mem_map.1 hq
  exact ((hD s hs c hc).add ha).mono (by omega)
 ·obtain ⟨_, rfl⟩ := List.mem_replicate.1 hq
  exact (zHf 0).mono (by omega)
 ·obtain ⟨_, rfl⟩ := List.mem_replicate.1 hq
  exact (zHf 0).mono (by omega)
/-- what the program of a game gives -/
structure Ran (M : List (List Rat)) (w K L : Nat) : Prop where
 kind : (zDd (zAT M w) K L).kind = 0
 pos : (zDd (zAT M w) K L).V ≠ 0
 xl : (zDd (zAT M w) K L).X.length = w
 yl : (zDd (zAT M w) K L).Y.length = M.length
 xd : ∀ q ∈ (zDd (zAT M w) K L).X, D 30000 q
 yd : ∀ q ∈ (zDd (zAT M w) K L).Y, D 30000 q
 vd : D 30000 (zDd (zAT M w) K L).V
theorem ran (hw : 0 < w) (hw12 : w ≤ 12) (hm : 0 < M.length) (hm12 : M.length ≤ 12) (hM : ∀ r ∈ M, r.length = w) (hD : ∀ r ∈ M, ∀ q ∈ r, D k q) (hk : k ≤ 48) {K L : Nat} (hs : Stops (zAT M w) K L) : Ran M w K L := by
 have hok := zFu hM
 obtain ⟨g0, gV, gX, gY, _⟩ := zLY hM hw hm (zNu hok hs)
 have en := zIa M w
 have em := zIZ M w
 obtain ⟨d1, d2, _, d4⟩ := run_D hok (zLX hw hm hM hD) (by rw [em]; omega) hs
 have hW : (zAT M w).W (2 * k + 3) ≤ 30000 := by
  unfold Prog.W Prog.T Prog.E
  rw [en, em]
  have h1 : (2 * k + 3) * (w + 1) ≤ 99 * 13 := Nat.mul_le_mul (by omega) (by omega)
  have h2 : (2 * k + 3 + (2 * k + 3) * (w + 1) + 2) * (M.length + 1) ≤ 1388 * 13 := Nat.mul_le_mul (by omega) (by omega)
  omega
 exact ⟨g0, fun e => by rw [e] at gV; exact Rat.lt_irrefl gV, gX, gY, fun q hq => (d1 q hq).mono hW, fun q hq => (d2 q hq).mono hW, d4.mono hW⟩
end
end Go.Ax.Mg
namespace Go.Ax.Mg
open Go.Ax.Dt Go.Ax.Rt Go.Ax.Bg Go.Ax.Sx
theorem zCv {α : Type} (l : List α) (d : α) {i : Nat} (h : i < l.length) : l.take (i + 1) = l.take i ++ [l.getD i d] := by
 rw [List.take_succ_eq_append_getElem h]
 simp [List.getD, h]
theorem zNO (a : Rat) (l : List Rat) {j : Nat} (h : j < l.length) : zAv a (l.take (j + 1)) = if zCG (l.getD j 0) (zAv a (l.take j)) < 0 then l.getD j 0 else zAv a (l.take j) := by
 rw [zCv l 0 h]
 unfold zAv
 rw [List.foldl_append]; rfl
theorem zNN (a : Rat) (M : List (List Rat)) {i : Nat} (h : i < M.length) : (M.take (i + 1)).foldl zAv a = zAv ((M.take i).foldl zAv a) (M.getD i []) := by
 rw [zCv M [] h, List.foldl_append]; rfl
/-- the row of the program -/
def zFC (c : Rat) (l : List Rat) : List Rat := l.map (fun q => q + c)
theorem zQJ (c : Rat) (l : List Rat) {j : Nat} (h : j < l.length) : zFC c (l.take (j + 1)) = zFC c (l.take j) ++ [l.getD j 0 + c] := by
 unfold zFC
 rw [zCv l 0 h, List.map_append]; rfl
theorem zMq (c : Rat) (l : List Rat) : (zFC c l).length = l.length := List.length_map ..
theorem zQK (c : Rat) (M : List (List Rat)) {i : Nat} (h : i < M.length) : (M.take (i + 1)).map (zFC c) = (M.take i).map (zFC c) ++ [zFC c (M.getD i [])] := by
 rw [zCv M [] h, List.map_append]; rfl
theorem zLk (i : Nat) : List.replicate (i + 1) (1 : Rat) = List.replicate i 1 ++ [1] := List.replicate_succ'
def zFa (v : Rat) (l : List Rat) : List Rat := l.map (fun q => q / v)
theorem zLS (v : Rat) (l : List Rat) {j : Nat} (h : j < l.length) : zFa v (l.take (j + 1)) = zFa v (l.take j) ++ [l.getD j 0 / v] := by
 unfold zFa
 rw [zCv l 0 h, List.map_append]; rfl
def zIU (c : List Rat) (M : List (List Rat)) : List Rat := M.map (fun row => zAK row c)
theorem zQa (c : List Rat) (M : List (List Rat)) {i : Nat} (h : i < M.length) : zIU c (M.take (i + 1)) = zIU c (M.take i) ++ [zAK (M.getD i []) c] := by
 unfold zIU
 rw [zCv M [] h, List.map_append]; rfl
theorem zPM {α : Type} (P : α → Bool) (d : α) (l : List α) (h : ∀ i, i < l.length → P (l.getD i d) = false) : l.any P = false := by
 rw [List.any_eq_false]
 intro x hx
 obtain ⟨i, hi, rfl⟩ := List.mem_iff_getElem.1 hx
 have := h i hi
 rw [show l.getD i d = l[i] by simp [List.getD, hi]] at this
 rw [this]; exact fun h => by cases h
theorem any_at {α : Type} (P : α → Bool) (d : α) (l : List α) {i : Nat} (hi : i < l.length) (h : P (l.getD i d) = true) : l.any P = true := by
 rw [List.any_eq_true]
 exact ⟨l.getD i d, by rw [show l.getD i d = l[i] by simp [List.getD, hi]]; exact List.getElem_mem hi, h⟩
def zH9 (x : List (List Rat)) (i o n : Nat) : Bool := (List.range n).all (fun k => decide (0 < zCG ((x.getD o []).getD k 0) ((x.getD i []).getD k 0)))
theorem zOA (x : List (List Rat)) (i o n : Nat) : zH9 x i o (n + 1) = (zH9 x i o n && decide (0 < zCG ((x.getD o []).getD n 0) ((x.getD i []).getD n 0))) := by
 unfold zH9
 rw [List.range_succ, List.all_append]
 simp
def domB (x : List (List Rat)) (i : Nat) : Bool := (List.range x.length).any (fun o => zH8 x i o)
theorem domB_yes (x : List (List Rat)) {i o : Nat} (ho : o < x.length) (h : zH8 x i o = true) : domB x i = true := by
 unfold domB
 rw [List.any_eq_true]
 exact ⟨o, by simpa using ho, h⟩
theorem domB_no (x : List (List Rat)) {i : Nat} (h : ∀ o, o < x.length → zH8 x i o = false) : domB x i = false := by
 unfold domB
 rw [List.any_eq_false]
 intro o ho
 rw [h o (by simpa using ho)]
 exact fun h => by cases h
def zIT (x : List (List Rat)) (i : Nat) : List Int := ((List.range i).filter (domB x)).map (fun j : Nat => (j : Int))
theorem zQZ (x : List (List Rat)) (i : Nat) : zIT x (i + 1) = if domB x i = true then zIT x i ++ [(i : Int)] else zIT x i := by
 unfold zIT
 rw [List.range_succ, List.filter_append, List.map_append]
 by_cases h : domB x i = true
 ·rw [if_pos h, List.filter_cons_of_pos h]; rfl
 ·rw [if_neg h, List.filter_cons_of_neg h]; simp
theorem domI_len (x : List (List Rat)) (i : Nat) : (zIT x i).length ≤ i := by
 unfold zIT
 rw [List.length_map]
 exact Nat.le_trans (List.length_filter_le _ _) (by rw [List.length_range]; exact Nat.le_refl i)
theorem domI_all (x : List (List Rat)) : zIT x x.length = (domL x).map (fun j : Nat => (j : Int)) := rfl
def domR (m : List (List zu)) : List Int × Int := if zAu m ≠ 0 then ([], zAu m) else (zIT (inM m) m.length, 0)
def zCH (x : List (List Rat)) (i k n : Nat) : Bool := (List.range n).all (fun j => decide (0 ≤ zCG ((x.getD i []).getD k 0) ((x.getD j []).getD k 0)))
def zMk (a b : zu) (l : List zu) : List zu := l.map (zH5 a b)
theorem shiftL_snoc (a b : zu) (l : List zu) {j : Nat} (h : j < l.length) : zMk a b (l.take (j + 1)) = zMk a b (l.take j) ++ [zH5 a b (l.getD j [])] := by
 unfold zMk
 rw [zCv l [] h, List.map_append]; rfl
theorem shiftT_snoc (a b : zu) (m : List (List zu)) {i : Nat} (h : i < m.length) : zD4 a b (m.take (i + 1)) = zD4 a b (m.take i) ++ [zMk a b (m.getD i [])] := by
 unfold zD4
 rw [zCv m [] h, List.map_append]; rfl
end Go.Ax.Mg
namespace Go.Proofs.YtkncmbklkhjmgaaGreatDoor
open Go.Ax Go.Ax.Bg Go.Ax.Rt Go.RowKit Go.Ax.Dt Go.Ax.Sx Go.Ax.Mg
attribute [local irreducible] Ax zBI QOp zP zAl
abbrev zEc (l : List zu) : Prop := l.length ≤ 9223372036854775807 ∧ ∀ s ∈ l, s.length ≤ 9223372036854775807
abbrev zDL (m : List (List zu)) : Prop := m.length ≤ 9223372036854775807 ∧ ∀ r ∈ m, r.length ≤ 9223372036854775807 ∧ ∀ s ∈ r, s.length ≤ 9223372036854775807
theorem rat_D2 {s : zu} (h : zCe s = 0) : D 2000 (zt s) := by
 have hf := (IsQ.self h).fit
 unfold zBx at hf
 rw [Bool.and_eq_true, decide_eq_true_eq, decide_eq_true_eq] at hf
 exact dig_D hf.1 hf.2
theorem zHi (m : List (List zu)) (r y : List zu) (hm : 0 < m.length) (hm2 : m.length ≤ 9223372036854775807) (hw : zAC m ≤ 9223372036854775807) (hr : zEc r) (hc : zEc y) :
 zU Tryz.prog 66 [.ro (zCF m) 0 m.length, .ro (.strs r) 0 r.length, .ro (.strs y) 0 y.length] (.int .i64 (zDr m r y)) := by
 have o1 := zPw r hr.1 hr.2
 have o2 := zPw y hc.1 hc.2
 have hwd : (m.getD 0 []).length = zAC m := rfl
 have hl1 := hr.1
 have hl2 := hc.1
 refine zP.value0 (zE (P := Tryz.prog) (fn := Tryz.f66) Z Z (by kernel_rfl) Z (fun c hR hfix => ?_)) (fix := fun _ => False) (fun _ h => h) Z Z
 unfold zDr at hR
 refine rn3 ?_
 refine zAh Z Z (fun h1 => ?_) (fun h1 => ?_)
 ·rw [if_pos (.inl (by omega))] at hR
  refine rn6 ?_
  exact zL hR Z Z
 refine rn6 ?_
 refine zA Z (fun h2 => ?_) (fun h2 => ?_)
 ·rw [if_pos (.inr (by omega))] at hR
  refine rn2 ?_
  exact zL hR Z Z
 rw [if_neg (by omega)] at hR
 refine rn1 ?_
 refine zB Z Z Z o1 ?_
 refine rn3 ?_
 refine zA Z (fun h3 => ?_) (fun h3 => ?_)
 ·rw [if_pos h3] at hR
  refine rn2 ?_
  exact zL hR Z Z
 rw [if_neg h3] at hR
 refine rn1 ?_
 refine zB Z Z Z o2 ?_
 refine rn0 ?_
 exact zL hR Z Z
theorem zKR (m : List (List zu)) (r y : List zu) (hm : zDL m) (hr : zEc r) (hc : zEc y) :
 zU Tryz.prog 19 [.ro (zCF m) 0 m.length, .ro (.strs r) 0 r.length, .ro (.strs y) 0 y.length] (zGx (zGy m r y)) := by
 have cg := zFK m hm.1 hm.2
 refine zP.value0 (zE (P := Tryz.prog) (fn := Tryz.f19) Z Z (by kernel_rfl) Z (fun c hR hfix => ?_)) (fix := fun _ => False) (fun _ h => h) Z Z
 unfold zGy at hR
 refine rn0 ?_
 refine zB Z Z Z cg ?_
 refine rn3 ?_
 refine zA Z (fun h1 => ?_) (fun h1 => ?_)
 ·rw [if_pos h1] at hR
  refine rn2 ?_
  exact zL hR Z Z
 rw [if_neg h1] at hR
 obtain ⟨g1, g2, g3, g4, g5⟩ := zE3 (Classical.not_not.1 h1)
 have hM := zFw g1
 have hv := zIy g1
 have hml : (inM m).length = m.length := zDk m
 have hm0 : 0 < m.length := List.length_pos_iff.2 g5
 have cs := zHi m r y hm0 hm.1 (by omega) hr hc
 refine rn1 ?_
 refine zB Z Z Z cs ?_
 refine rn3 ?_
 refine zA Z (fun h2 => ?_) (fun h2 => ?_)
 ·rw [if_pos h2] at hR
  refine rn2 ?_
  exact zL hR Z Z
 rw [if_neg h2] at hR
 obtain ⟨s1, s2, s3, s4⟩ := zHV (Classical.not_not.1 h2)
 obtain ⟨p1, p2, _, p4⟩ := zFy s3
 obtain ⟨q1, q2, _, q4⟩ := zFy s4
 have nr := zKM r (by omega) (fun s hs => ⟨hr.2 s hs, p2 s hs⟩)
 have nc := zKM y (by omega) (fun s hs => ⟨hc.2 s hs, q2 s hs⟩)
 have nm := zKN m (by omega) (fun r h => ⟨by have := hM.cols r h; omega, fun s hs => ⟨(hm.2 r h).2 s hs, hM.ok r h s hs⟩⟩)
 have hcl : (y.map zt).length = zAC m := by rw [List.length_map]; exact s2
 have hrl : (r.map zt).length = m.length := by rw [List.length_map]; exact s1
 have hcD : ∀ q ∈ y.map zt, D 2000 q := fun q hq => (q4 q hq).2
 have hrD : ∀ q ∈ r.map zt, D 2000 q := fun q hq => (p4 q hq).2
 obtain ⟨L, hL⟩ : ∃ L, L = zIU (y.map zt) (inM m) := ⟨_, rfl⟩
 have hLl : L.length = m.length := by rw [hL]; unfold zIU; rw [List.length_map]; exact hml
 have hLD : ∀ q ∈ L, D 48100 q := fun q hq => by
  rw [hL] at hq
  obtain ⟨row, hrow, rfl⟩ := List.mem_map.1 hq
  obtain ⟨v1, v2⟩ := hv row hrow
  exact (zOa v2 hcD (by omega)).mono (by rw [v1]; have : zAC m * 4001 ≤ 12 * 4001 := Nat.mul_le_mul_right _ (by omega); omega)
 have dL := zOb (r.map zt) L 2000 48100 hrD hLD (by omega) (by omega) (by rw [hrl]; have : m.length * 50101 ≤ 12 * 50101 := Nat.mul_le_mul_right _ (by omega); omega)
 have oL := out_ok (zAK (r.map zt) L) (zFE ((zOa hrD hLD (by omega)).mono (by rw [hrl]; have : m.length * 50101 ≤ 12 * 50101 := Nat.mul_le_mul_right _ (by omega); omega)))
 have dR : ∀ i, i < m.length → zU Tryz.prog 68 [.ro (qsC ((inM m).getD i [])) 0 ((inM m).getD i []).length, .ro (qsC (y.map zt)) 0 (y.map zt).length] (qA (zAK ((inM m).getD i []) (y.map zt))) := fun i hi => by
  obtain ⟨v1, v2⟩ := hv _ (zAN [] (show i < (inM m).length by omega))
  exact zOb _ _ 2000 2000 v2 hcD (by omega) (by omega) (by rw [v1]; have : zAC m * 4001 ≤ 12 * 4001 := Nat.mul_le_mul_right _ (by omega); omega)
 have hsn : ∀ i, i < m.length → zIU (y.map zt) ((inM m).take (i + 1)) = zIU (y.map zt) ((inM m).take i) ++ [zAK ((inM m).getD i []) (y.map zt)] := fun i hi => zQa _ _ (by omega)
 have hd0 : zIU (y.map zt) ((inM m).take m.length) = L := by rw [hL, List.take_of_length_le (by omega)]
 have hlk : ∀ k, k ≤ m.length → (zIU (y.map zt) ((inM m).take k)).length = k := fun k hk => by unfold zIU; rw [List.length_map, List.length_take]; omega
 rw [show (inM m).map (fun row => zAK row (y.map zt)) = L from hL.symm] at hR
 have hs0 : zIU (y.map zt) ((inM m).take 0) = [] := rfl
 clear hv hM hL
 generalize inM m = M at *
 generalize y.map zt = C at *
 generalize hn : m.length = n at *
 refine rn1 ?_
 refine zK8 10 ⟨104, qsC []⟩ Z Z ?_
 skip
 refine zB Z Z Z nc ?_
 refine rn0 ?_
 refine zB Z Z Z nm ?_
 refine rn3 ?_
 refine ze (ι := Nat) (fun k => [(1, .ro (.strs r) 0 r.length), (10, .sl 0 0 k), (11, .ro (qsC C) 0 C.length), (29, .ro (zY M) 0 n), (30, iN n), (31, iN k)]) (fun k => [some ⟨104, qsC (zIU C (M.take k))⟩])
  (fun k => k ≤ n) (fun k => n - k) 0 ⟨⟨rfl, rfl, rfl, rfl, rfl, rfl, trivial⟩, rfl, Nat.zero_le _⟩ ?_
 intro k hk
 refine rn4 ?_
 refine zA Z (fun h => ?_) (fun h => ?_)
 ·have hk' : k < n := by omega
  have cd := dR k hk'
  have hst := hsn k hk'
  have hll := hlk k hk
  have hrk : k < M.length := by omega
  generalize zIU C (M.take k) = qs at *
  refine rn12 ?_
  refine zD 36 (.ro (qsC (M.getD k [])) 0 (M.getD k []).length) Z (AEq.of_eq Z) ?_
  refine zB Z Z Z cd ?_
  generalize zAK (M.getD k []) C = q at *
  unfold qA
  repeat (refine zf rfl rfl rfl rfl rfl rfl rfl rfl rfl rfl rfl ?_)
  refine zr Z Z Z Z Z Z Z Z Z hll Z Z (by show 0 + 1 ≤ 1; omega) Z (by show (k + 1) * 56 ≤ _ ∧ _; omega) ?_ (by rw [hfix]; exact fun h => h) ?_
  ·intro i' j' hi hj'
   exact zAM 0 3 zT zAe qs q _ (zCg _) 0 i' j' hi hj'
  refine zEO ?_
  refine zI ?_
  refine zBi [some ⟨104, qsC (zIU C (M.take (k + 1)))⟩] ?_ ?_
  ·rw [hst]
   exact zQ.eqv (zAX 0 3 zT qs q _ (zCg _)) zQ.nil
  refine rn3 ?_
  exact zK ⟨k + 1, by omega, by omega, ⟨Z, Z, Z, Z, Z, Z, trivial⟩, Z⟩
 ·have hke : k = n := by omega
  subst hke
  rw [hd0]
  refine zHb ?_
  refine zAd 0 10 k [(1, .ro (.strs r) 0 r.length)] Z (zAw _) Z (by show _ ≤ L.length; omega) ⟨Z, trivial⟩ ?_
  refine zAE 10 (.ro (qsC L) 0 L.length) Z (AEq.of_eq (by rw [hLl])) ?_
  refine rn0 ?_
  refine zB Z Z Z nr ?_
  repeat (refine zG (zJ rfl) ?_)
  refine zB Z Z Z dL ?_
  refine zB Z Z Z oL ?_
  unfold zGx
  refine rn2 ?_
  exact zL hR Z Z
theorem zHr (m : List (List zu)) (v : zu) (r y : List zu) (hm : zDL m) (hvl : v.length ≤ 9223372036854775807) (hr : zEc r) (hc : zEc y) :
 zU Tryz.prog 20 [.ro (zCF m) 0 m.length, .agg [.str v, .ro (.strs r) 0 r.length, .ro (.strs y) 0 y.length]] (.int .i64 (verG m v r y)) := by
 have cg := zFK m hm.1 hm.2
 have cv := zJK v hvl
 refine zP.value0 (zE (P := Tryz.prog) (fn := Tryz.f20) Z Z (by kernel_rfl) Z (fun c hR hfix => ?_)) (fix := fun _ => False) (fun _ h => h) Z Z
 unfold verG at hR
 refine rn6 ?_
 refine zB Z Z Z cg ?_
 refine rn3 ?_
 refine zA Z (fun h1 => ?_) (fun h1 => ?_)
 ·rw [if_pos h1] at hR
  refine rn2 ?_
  exact zL hR Z Z
 rw [if_neg h1] at hR
 obtain ⟨g1, g2, g3, g4, g5⟩ := zE3 (Classical.not_not.1 h1)
 have hM := zFw g1
 have hv := zIy g1
 have hml : (inM m).length = m.length := zDk m
 have hm0 : 0 < m.length := List.length_pos_iff.2 g5
 have cs := zHi m r y hm0 hm.1 (by omega) hr hc
 refine rn5 ?_
 refine zB Z Z Z cs ?_
 refine rn3 ?_
 refine zA Z (fun h2 => ?_) (fun h2 => ?_)
 ·rw [if_pos h2] at hR
  refine rn2 ?_
  exact zL hR Z Z
 rw [if_neg h2] at hR
 obtain ⟨s1, s2, s3, s4⟩ := zHV (Classical.not_not.1 h2)
 refine rn5 ?_
 refine zB Z Z Z cv ?_
 refine rn3 ?_
 refine zA Z (fun h3 => ?_) (fun h3 => ?_)
 ·rw [if_pos h3] at hR
  refine rn2 ?_
  exact zL hR Z Z
 rw [if_neg h3] at hR
 have e3 := Classical.not_not.1 h3
 have cp := zDn v hvl e3
 obtain ⟨p1, p2, _, p4⟩ := zFy s3
 obtain ⟨q1, q2, _, q4⟩ := zFy s4
 have nr := zKM r (by omega) (fun s hs => ⟨hr.2 s hs, p2 s hs⟩)
 have nc := zKM y (by omega) (fun s hs => ⟨hc.2 s hs, q2 s hs⟩)
 have nm := zKN m (by omega) (fun r h => ⟨by have := hM.cols r h; omega, fun s hs => ⟨(hm.2 r h).2 s hs, hM.ok r h s hs⟩⟩)
 have hcl : (y.map zt).length = zAC m := by rw [List.length_map]; exact s2
 have hrl : (r.map zt).length = m.length := by rw [List.length_map]; exact s1
 have hcD : ∀ q ∈ y.map zt, D 2000 q := fun q hq => (q4 q hq).2
 have hrD : ∀ q ∈ r.map zt, D 2000 q := fun q hq => (p4 q hq).2
 have hVs : Sz 100000 (zt v) := zFE ((rat_D2 e3).mono (by omega))
 have hcols : ∀ col ∈ zHe (inM m) (y.map zt).length, col.length = m.length ∧ ∀ q ∈ col, D 2000 q := fun col hcol => by
  obtain ⟨j, hj, rfl⟩ := List.mem_map.1 hcol
  refine ⟨by rw [zCr]; exact hml, fun q hq => ?_⟩
  obtain ⟨row, hrow, rfl⟩ := List.mem_map.1 hq
  exact (hv row hrow).2 _ (zAD 0 (by rw [(hv row hrow).1]; exact hcl ▸ (show j < (y.map zt).length by simpa using hj)))
 have cc := cols_ok (inM m) (y.map zt).length (by omega) (by omega) (fun row h => by rw [(hv row h).1]; exact hcl.symm)
 rw [hml] at cc
 have hclen : (zHe (inM m) (y.map zt).length).length = (y.map zt).length := by unfold zHe; rw [List.length_map, List.length_range]
 have dS : ∀ (a b : List Rat), (∀ q ∈ a, D 2000 q) → (∀ q ∈ b, D 2000 q) → a.length ≤ b.length → b.length ≤ 12 → zU Tryz.prog 68 [.ro (qsC a) 0 a.length, .ro (qsC b) 0 b.length] (qA (zAK a b)) ∧ Sz 100000 (zAK a b) := fun a b ha hb h1 h2 => by
  have h3 : a.length * 4001 ≤ 12 * 4001 := Nat.mul_le_mul_right _ (by omega)
  exact ⟨zOb a b 2000 2000 ha hb h1 (by omega) (by omega), zFE ((zOa ha hb h1).mono (by omega))⟩
 have dR := fun (i : Nat) (hi : i < m.length) => dS _ _ (hv _ (zAN [] (show i < (inM m).length by omega))).2 hcD (by rw [(hv _ (zAN [] (show i < (inM m).length by omega))).1]; omega) (by omega)
 have dC := fun (i : Nat) (hi : i < (y.map zt).length) => dS _ _ (hcols _ (zAN [] (show i < (zHe (inM m) (y.map zt).length).length by omega))).2 hrD (by rw [(hcols _ (zAN [] (show i < (zHe (inM m) (y.map zt).length).length by omega))).1]; omega) (by omega)
 have ecl : y.length = (y.map zt).length := (List.length_map ..).symm
 rw [ecl] at hR
 clear hv hM
 generalize zHe (inM m) (y.map zt).length = K at *
 generalize inM m = M at *
 generalize y.map zt = C at *
 generalize r.map zt = R at *
 generalize zt v = V at *
 generalize m.length = n at *
 refine rn5 ?_
 refine zB Z Z Z cp ?_
 unfold qA
 repeat (refine zBC rfl rfl rfl ?_)
 refine sa1 (c' := .box (zT V)) Z Z Z Z Z Z Z ?_
 refine rn0 ?_
 refine zB Z Z Z nm ?_
 refine rn0 ?_
 refine zi (by kernel_rfl) ?_
 refine zp (fuel := 0) [0, 1, 2, 3, 4, 5, 6, 7] [(3, .ptr 0 0 0), (8, .ptr 1 0 0), (9, .ro (zY M) 0 n)] ⟨Z, Z, Z, trivial⟩ (by kernel_rfl) (by decide) Z Z ?_
 refine zM Z Z (zH Z Z Z Z Z Z) ?_
 refine zM Z Z (zX Z Z Z Z Z) ?_
 refine zA6 Z Z Z Z Z nr ?_
 refine zM Z Z (zH Z Z Z Z Z Z) ?_
 refine zM Z Z (zX Z Z Z Z Z) ?_
 refine zA6 Z Z Z Z Z nc ?_
 refine zM Z Z (zm Z) ?_
 refine zM Z Z (zm Z) ?_
 refine zAA ?_
 refine zW (by kernel_rfl) ?_
 refine rn3 ?_
 refine ze (ι := Nat) (fun k => [(8, .ptr 1 0 0), (9, .ro (zY M) 0 n), (10, .ro (qsC R) 0 R.length), (11, .ro (qsC C) 0 C.length), (47, .ro (zY M) 0 n), (48, iN n), (49, iN k)]) (fun k => [some ⟨30, .box [.str v, .ro (.strs r) 0 r.length, .ro (.strs y) 0 y.length]⟩, some ⟨104, .box (zT V)⟩])
  (fun k => k ≤ n ∧ ∀ i, i < k → ¬ 0 < zCG (zAK (M.getD i []) C) V) (fun k => n - k) 0 ⟨⟨rfl, rfl, rfl, rfl, rfl, rfl, rfl, trivial⟩, rfl, Nat.zero_le _, fun i h => absurd h (Nat.not_lt_zero _)⟩ ?_
 rintro k ⟨hk, hnk⟩
 refine rn4 ?_
 refine zA Z (fun h => ?_) (fun h => ?_)
 ·have hk' : k < n := by omega
  obtain ⟨cd, ds⟩ := dR k hk'
  have cq := zFQ (zAK (M.getD k []) C) V ds hVs
  have hrk : k < M.length := by omega
  have hyes : 0 < zCG (zAK (M.getD k []) C) V → M.any (fun row => decide (0 < zCG (zAK row C) V)) = true := fun q => any_at _ [] M hrk (decide_eq_true q)
  generalize hqq : zAK (M.getD k []) C = q at *
  refine rn6 ?_
  refine zi (by kernel_rfl) ?_
  refine zp (fuel := 0) [0, 1, 2, 3, 4, 5] [(8, .ptr 1 0 0), (9, .ro (zY M) 0 n), (10, .ro (qsC R) 0 R.length), (11, .ro (qsC C) 0 C.length), (13, .ro (qsC (M.getD k [])) 0 (M.getD k []).length), (47, .ro (zY M) 0 n), (48, iN n), (49, iN k)] ⟨Z, Z, Z, Z, Z, Z, Z, Z, trivial⟩ (by kernel_rfl) (by decide) Z Z ?_
  refine zM Z Z (zJ Z) ?_
  refine zM Z Z (zJ Z) ?_
  refine zA6 Z Z Z Z Z cd ?_
  refine zM Z Z (qpp Z Z Z Z Z Z Z) ?_
  refine zA6 Z Z Z Z Z cq ?_
  refine zM Z Z (zKa Z Z) ?_
  refine zAA ?_
  refine zW (by kernel_rfl) ?_
  repeat (refine zI ?_)
  refine zA Z (fun h4 => ?_) (fun h4 => ?_)
  ·rw [if_pos (hyes h4)] at hR
   refine rn6 ?_
   exact zL hR Z Z
  ·refine rn5 ?_
   exact zK ⟨k + 1, ⟨by omega, fun i hi => by
    rcases Nat.lt_or_ge i k with q | q
    ·exact hnk i q
    ·obtain rfl : i = k := by omega
     exact fun z => h4 (by rw [hqq] at z; exact z)⟩, by omega, ⟨Z, Z, Z, Z, Z, Z, Z, trivial⟩, Z⟩
 have hke : k = n := by omega
 subst hke
 have hno : ¬ M.any (fun row => decide (0 < zCG (zAK row C) V)) = true := by
  rw [zPM _ [] M (fun i hi => decide_eq_false (hnk i (by omega)))]
  exact fun z => by cases z
 rw [if_neg hno] at hR
 refine rn5 ?_
 refine zB Z Z Z cc ?_
 refine rn3 ?_
 refine ze (ι := Nat) (fun j => [(8, .ptr 1 0 0), (10, .ro (qsC R) 0 R.length), (63, .ro (zY K) 0 C.length), (64, iN C.length), (65, iN j)]) (fun j => [some ⟨30, .box [.str v, .ro (.strs r) 0 r.length, .ro (.strs y) 0 y.length]⟩, some ⟨104, .box (zT V)⟩])
  (fun j => j ≤ C.length ∧ ∀ i, i < j → ¬ zCG (zAK (K.getD i []) R) V < 0) (fun j => C.length - j) 0 ⟨⟨rfl, rfl, rfl, rfl, rfl, trivial⟩, rfl, Nat.zero_le _, fun i h => absurd h (Nat.not_lt_zero _)⟩ ?_
 rintro j ⟨hj, hnj⟩
 refine rn4 ?_
 refine zA Z (fun h => ?_) (fun h => ?_)
 ·have hj' : j < C.length := by omega
  obtain ⟨cd, ds⟩ := dC j hj'
  have cq := zFQ (zAK (K.getD j []) R) V ds hVs
  have hrk : j < K.length := by omega
  have hyes : zCG (zAK (K.getD j []) R) V < 0 → K.any (fun col => decide (zCG (zAK col R) V < 0)) = true := fun q => any_at _ [] K hrk (decide_eq_true q)
  generalize hqq : zAK (K.getD j []) R = q at *
  refine rn6 ?_
  refine zi (by kernel_rfl) ?_
  refine zp (fuel := 0) [0, 1, 2, 3, 4, 5] [(8, .ptr 1 0 0), (10, .ro (qsC R) 0 R.length), (15, .ro (qsC (K.getD j [])) 0 (K.getD j []).length), (63, .ro (zY K) 0 C.length), (64, iN C.length), (65, iN j)] ⟨Z, Z, Z, Z, Z, Z, trivial⟩ (by kernel_rfl) (by decide) Z Z ?_
  refine zM Z Z (zJ Z) ?_
  refine zM Z Z (zJ Z) ?_
  refine zA6 Z Z Z Z Z cd ?_
  refine zM Z Z (qpp Z Z Z Z Z Z Z) ?_
  refine zA6 Z Z Z Z Z cq ?_
  refine zM Z Z (zEa Z Z) ?_
  refine zAA ?_
  refine zW (by kernel_rfl) ?_
  repeat (refine zI ?_)
  refine zA Z (fun h4 => ?_) (fun h4 => ?_)
  ·rw [if_pos (hyes h4)] at hR
   refine rn6 ?_
   exact zL hR Z Z
  ·refine rn5 ?_
   exact zK ⟨j + 1, ⟨by omega, fun i hi => by
    rcases Nat.lt_or_ge i j with q | q
    ·exact hnj i q
    ·obtain rfl : i = j := by omega
     exact fun z => h4 (by rw [hqq] at z; exact z)⟩, by omega, ⟨Z, Z, Z, Z, Z, trivial⟩, Z⟩
 ·have hje : j = C.length := by omega
  subst hje
  have hno2 : ¬ K.any (fun col => decide (zCG (zAK col R) V < 0)) = true := by
   rw [zPM _ [] K (fun i hi => decide_eq_false (hnj i (by omega)))]
   exact fun z => by cases z
  rw [if_neg hno2] at hR
  refine rn5 ?_
  exact zL hR Z Z
end Go.Proofs.YtkncmbklkhjmgaaGreatDoor
