import Derived.Test.YtnkealfaldjipaaGreatDoorY4
set_option linter.unusedVariables false
set_option linter.unusedSimpArgs false
namespace Go.Proofs.YtnkealfaldjipaaGreatDoor
open Go.Ax Go.Ax.Bg Go.Ax.Rt Go.RowKit Go.Ax.Idx Go.Ax.Cd
attribute [local irreducible] Ax zBZ QOp zS zBC
set_option maxRecDepth 100000
set_option maxHeartbeats 4000000
theorem zOL (l : List (List UInt8)) (g : FuncId) (caps : List AV) (p : List UInt8 → Bool) (hc : noRef.noRefs caps = true) (hlen : l.length ≤ 9223372036854775807) (hp : ∀ x ∈ l, zU Tryz.prog g ([.str x] ++ caps) (.bool (p x))) :
 zU Tryz.prog 164 [.ro (.strs l) 0 l.length, .fn g caps] (.int .i64 (idxF p l)) := by
 refine zS.value0 (zE (P := Tryz.prog) (fn := Tryz.f164) Z Z (by kernel_rfl) Z (fun c hR hfix => ?_)) (fix := fun _ => False) (fun _ h => h) (by simp [noRef.noRefs, noRef, hc]) Z
 refine rn3 ?_
 refine zh (ι := Nat) (fun k => [(0, .ro (.strs l) 0 l.length), (1, .fn g caps), (7, .int .i64 (l.length : Nat)), (8, .int .i64 (k : Nat))]) (fun _ => [])
  (fun k => k ≤ l.length ∧ (l.take k).any p = false) (fun k => l.length - k) 0 ⟨⟨rfl, rfl, rfl, rfl, trivial⟩, rfl, Nat.zero_le _, rfl⟩ ?_
 intro k ⟨hk, hany⟩
 refine rn4 ?_
 refine zD Z (fun h => ?_) (fun h => ?_)
 ·have hk' : k < l.length := by omega
  have hanys := zD5 p l [] k hk'
  refine zGh ?_
  refine zB Z Z Z (hp _ (zAp [] hk')) ?_
  refine rn0 ?_
  refine zEk Z (fun h2 => ?_) (fun h2 => ?_)
  ·refine rn6 ?_
   refine zI hR Z ?_
   have := idxF_take p l k hany hk
   rw [zC2 l [] k hk'] at this
   simp only [idxF, h2, if_true] at this
   rw [this]; simp [zCf]
  ·refine rn5 ?_
   refine zM ⟨k + 1, ⟨by omega, by rw [hanys, hany, h2]; rfl⟩, by omega, ⟨Z, Z, Z, Z, trivial⟩, Z⟩
 ·have hk' : k = l.length := by omega
  subst hk'
  refine rn5 ?_
  refine zI hR Z ?_
  have := idxF_take p l l.length hany hk
  rw [List.drop_length] at this
  rw [this]; rfl
theorem zM4 (l : List (List UInt8)) (g : FuncId) (caps : List AV) (p : List UInt8 → Bool) (hc : noRef.noRefs caps = true) (hlen : l.length ≤ 9223372036854775807) (hp : ∀ x ∈ l, zU Tryz.prog g ([.str x] ++ caps) (.bool (p x))) :
 zU Tryz.prog 116 [.ro (.strs l) 0 l.length, .fn g caps] (.bool (l.any p)) := by
 refine zS.value0 (zE (P := Tryz.prog) (fn := Tryz.f116) Z Z (by kernel_rfl) Z (fun c hR hfix => ?_)) (fix := fun _ => False) (fun _ h => h) (by simp [noRef.noRefs, noRef, hc]) Z
 refine rn0 ?_
 refine zB Z Z Z (zOL l g caps p hc hlen hp) ?_
 refine rn8 ?_
 refine zI hR Z ?_
 simp only [zCf, zKE]
theorem zOK (l : List (List zp)) (g : FuncId) (caps : List AV) (p : List zp → Bool) (hc : noRef.noRefs caps = true) (hlen : l.length ≤ 9223372036854775807) (hp : ∀ x ∈ l, zU Tryz.prog g ([.ro (.strs x) 0 x.length] ++ caps) (.bool (p x))) :
 zU Tryz.prog 163 [.ro (zr l) 0 l.length, .fn g caps] (.int .i64 (idxF p l)) := by
 refine zS.value0 (zE (P := Tryz.prog) (fn := Tryz.f163) Z Z (by kernel_rfl) Z (fun c hR hfix => ?_)) (fix := fun _ => False) (fun _ h => h) (by simp [noRef.noRefs, noRef, hc]) Z
 refine rn3 ?_
 refine zh (ι := Nat) (fun k => [(0, .ro (zr l) 0 l.length), (1, .fn g caps), (7, .int .i64 (l.length : Nat)), (8, .int .i64 (k : Nat))]) (fun _ => [])
  (fun k => k ≤ l.length ∧ (l.take k).any p = false) (fun k => l.length - k) 0 ⟨⟨rfl, rfl, rfl, rfl, trivial⟩, rfl, Nat.zero_le _, rfl⟩ ?_
 intro k ⟨hk, hany⟩
 refine rn4 ?_
 refine zD Z (fun h => ?_) (fun h => ?_)
 ·have hk' : k < l.length := by omega
  have hanys := zD5 p l [] k hk'
  refine rn6 ?_
  refine zB Z Z Z (hp _ (zAp [] hk')) ?_
  refine rn0 ?_
  refine zEk Z (fun h2 => ?_) (fun h2 => ?_)
  ·refine rn6 ?_
   refine zI hR Z ?_
   have := idxF_take p l k hany hk
   rw [zC2 l [] k hk'] at this
   simp only [idxF, h2, if_true] at this
   rw [this]; simp [zCf]
  ·refine rn5 ?_
   refine zM ⟨k + 1, ⟨by omega, by rw [hanys, hany, h2]; rfl⟩, by omega, ⟨Z, Z, Z, Z, trivial⟩, Z⟩
 ·have hk' : k = l.length := by omega
  subst hk'
  refine rn5 ?_
  refine zI hR Z ?_
  have := idxF_take p l l.length hany hk
  rw [List.drop_length] at this
  rw [this]; rfl
theorem zRO (l : List (List zp)) (g : FuncId) (caps : List AV) (p : List zp → Bool) (hc : noRef.noRefs caps = true) (hlen : l.length ≤ 9223372036854775807) (hp : ∀ x ∈ l, zU Tryz.prog g ([.ro (.strs x) 0 x.length] ++ caps) (.bool (p x))) :
 zU Tryz.prog 114 [.ro (zr l) 0 l.length, .fn g caps] (.bool (l.any p)) := by
 refine zS.value0 (zE (P := Tryz.prog) (fn := Tryz.f114) Z Z (by kernel_rfl) Z (fun c hR hfix => ?_)) (fix := fun _ => False) (fun _ h => h) (by simp [noRef.noRefs, noRef, hc]) Z
 refine rn0 ?_
 refine zB Z Z Z (zOK l g caps p hc hlen hp) ?_
 refine rn8 ?_
 refine zI hR Z ?_
 simp only [zCf, zKE]
theorem small11 (s : zp) (hs : s.length ≤ 9223372036854775807) : zU Tryz.prog 117 [.str s] (.bool (decide (12 < (s.length : Int)))) := by
 refine zS.value0 (zE (P := Tryz.prog) (fn := Tryz.f117) Z Z (by kernel_rfl) Z (fun c hR hfix => ?_)) (fix := fun _ => False) (fun _ h => h) Z Z
 refine rn6 ?_
 exact zI hR Z Z
def zLm (n : Int) (v : List zp) : Bool := decide (n < (v.length : Int)) || v.any (fun s => decide (12 < (s.length : Int)))
theorem small1 (n : Int) (v : List zp) (hl : v.length ≤ 9223372036854775807) (hs : ∀ s ∈ v, s.length ≤ 9223372036854775807) : zU Tryz.prog 115 [.ro (.strs v) 0 v.length, .rp (.box [.int .i64 n]) 0 0] (.bool (zLm n v)) := by
 have hc := zM4 v 117 [] (fun s => decide (12 < (s.length : Int))) rfl hl (fun s hm => small11 s (hs s hm))
 unfold zLm
 refine zS.value0 (zE (P := Tryz.prog) (fn := Tryz.f115) Z Z (by kernel_rfl) Z (fun c hR hfix => ?_)) (fix := fun _ => False) (fun _ h => h) Z Z
 refine zHe ?_
 refine zAt Z Z (fun h => ?_) (fun h => ?_)
 ·rw [decide_eq_true h, Bool.true_or] at hR
  refine rn6 ?_
  exact zI hR Z Z
 ·rw [decide_eq_false h, Bool.false_or] at hR
  refine rn2 ?_
  refine zB Z Z Z hc ?_
  refine rn2 ?_
  exact zI hR Z Z
theorem boxI1 (n : Int) : zAK (.box [.int .i64 n]) := by
 intro i j _ hj
 obtain rfl : j = 0 := by have hj : j < 1 := hj; omega
 rfl
def cellM (m : List (List zp)) : List AV := [.ro (zr m) 0 m.length]
abbrev zJd (l : List (List (List zp))) : Cells := zDg [] 1 cellM l
theorem zHG (n : Nat) (l : List (List (List zp))) (hn : n ≤ 1000) (hl : l.length ≤ 9223372036854775807) (hm : ∀ m ∈ l, m.length ≤ 9223372036854775807 ∧ ∀ r ∈ m, r.length ≤ 9223372036854775807 ∧ ∀ s ∈ r, s.length ≤ 9223372036854775807) : zU Tryz.prog 50 [.int .i64 (n : Nat), .ro (zJd l) 0 l.length] (.bool (l.all (zIi n 12))) := by
 have hbad : ∀ m : List (List zp), zIi n 12 m = !(decide ((n : Int) < (m.length : Int)) || m.any (zLm n)) := by
  intro m
  unfold zIi zLm
  rw [Bool.not_or, Bool.eq_iff_iff]
  simp only [Bool.and_eq_true, Bool.not_eq_true', decide_eq_true_eq, decide_eq_false_iff_not, List.all_eq_true, List.any_eq_false, Bool.or_eq_true, not_or, List.any_eq_true, not_exists]
  constructor
  ·rintro ⟨h1, h2⟩
   refine ⟨by omega, fun v hv => ?_⟩
   obtain ⟨h3, h4⟩ := h2 v hv
   refine ⟨by omega, fun s hs => ?_⟩
   have := h4 s hs.1
   have := hs.2
   omega
  ·rintro ⟨h1, h2⟩
   refine ⟨by omega, fun v hv => ?_⟩
   obtain ⟨h3, h4⟩ := h2 v hv
   refine ⟨by omega, fun s hs => ?_⟩
   have := h4 s
   simp only [hs, true_and] at this
   omega
 refine zS.value0 (zE (P := Tryz.prog) (fn := Tryz.f50) Z Z (by kernel_rfl) Z (fun c hR hfix => ?_)) (fix := fun _ => False) (fun _ h => h) Z Z
 refine rn6 ?_
 refine zh (ι := Nat) (fun k => [(0, .int .i64 (n : Nat)), (1, .ro (zJd l) 0 l.length), (2, .ptr 0 0 0), (7, .ro (zJd l) 0 l.length), (8, .int .i64 (l.length : Nat)), (9, .int .i64 (k : Nat))]) (fun _ => [some ⟨3, .box [.int .i64 (n : Nat)]⟩])
  (fun k => k ≤ l.length ∧ l.all (zIi n 12) = (l.drop k).all (zIi n 12)) (fun k => l.length - k) 0 ⟨⟨rfl, rfl, rfl, rfl, rfl, rfl, trivial⟩, rfl, Nat.zero_le _, by rw [List.drop_zero]⟩ ?_
 rintro k ⟨hk, hA⟩
 refine rn4 ?_
 refine zD Z (fun h => ?_) (fun h => ?_)
 ·have hk' : k < l.length := by omega
  have hd := zFx (d := []) hk'
  rw [hd, List.all_cons, hbad] at hA
  obtain ⟨g1, g2⟩ := hm _ (zAp [] hk')
  have hc := zRO (l.getD k []) 115 [.rp (.box [.int .i64 (n : Nat)]) 0 0] (zLm n) rfl g1 (fun v hv => small1 n v (g2 v hv).1 (g2 v hv).2)
  refine rn6 ?_
  refine zAt Z Z (fun h2 => ?_) (fun h2 => ?_)
  ·rw [decide_eq_true h2, Bool.true_or, Bool.not_true, Bool.false_and] at hA
   rw [hA] at hR
   refine rn6 ?_
   exact zI hR Z Z
  ·rw [decide_eq_false h2, Bool.false_or] at hA
   cases hb : (l.getD k []).any (zLm (n : Nat))
   ·rw [hb] at hA hc
    refine zEL ?_
    refine zIb rfl rfl rfl rfl hc (zIB (o1 := ⟨3, .box [.int .i64 (n : Nat)]⟩) (boxI1 _)) ⟨trivial, ⟨fun o ho => by simp at ho; subst ho; exact Nat.zero_lt_one, trivial⟩, trivial⟩ rfl rfl rfl ?_
    refine rn5 ?_
    exact zM ⟨k + 1, ⟨by omega, hA⟩, by omega, ⟨Z, Z, Z, Z, Z, Z, trivial⟩, Z⟩
   ·rw [hb] at hA hc
    rw [Bool.not_true, Bool.false_and] at hA
    rw [hA] at hR
    refine zEL ?_
    refine zIb rfl rfl rfl rfl hc (zIB (o1 := ⟨3, .box [.int .i64 (n : Nat)]⟩) (boxI1 _)) ⟨trivial, ⟨fun o ho => by simp at ho; subst ho; exact Nat.zero_lt_one, trivial⟩, trivial⟩ rfl rfl rfl ?_
    refine rn6 ?_
    exact zI hR Z Z
 ·have hk' : k = l.length := by omega
  subst hk'
  rw [List.drop_length] at hA
  rw [hA] at hR
  refine rn5 ?_
  exact zI hR Z Z
end Go.Proofs.YtnkealfaldjipaaGreatDoor
namespace Go.Ax.Dt
def zAC (f : Nat → Int) : Nat → Int
 | 0 => 0
 | n + 1 => zAC f n + f n
theorem zt {f g : Nat → Int} : ∀ {n : Nat}, (∀ i, i < n → f i = g i) → zAC f n = zAC g n
 | 0, _ => rfl
 | n + 1, h => by rw [zAC, zAC, zt (fun i hi => h i (by omega)), h n (by omega)]
theorem zB6 {f : Nat → Int} : ∀ {n : Nat}, (∀ i, i < n → f i = 0) → zAC f n = 0
 | 0, _ => rfl
 | n + 1, h => by rw [zAC, zB6 (fun i hi => h i (by omega)), h n (by omega)]; rfl
theorem zDE (f g : Nat → Int) : ∀ n, zAC (fun i => f i + g i) n = zAC f n + zAC g n
 | 0 => rfl
 | n + 1 => by rw [zAC, zAC, zAC, zDE f g n]; omega
theorem zBT (c : Int) (f : Nat → Int) : ∀ n, zAC (fun i => c * f i) n = c * zAC f n
 | 0 => by rw [zAC, zAC, Int.mul_zero]
 | n + 1 => by rw [zAC, zAC, zBT c f n, Int.mul_add]
theorem zEF {f : Nat → Int} {n : Nat} (k : Nat) (hk : k < n) (h : ∀ i, i < n → i ≠ k → f i = 0) : zAC f n = f k := by
 induction n with
 | zero => omega
 | succ n ih =>
  rw [zAC]
  by_cases hkn : k = n
  ·subst hkn
   rw [zB6 (fun i hi => h i (by omega) (by omega))]; omega
  ·rw [ih (by omega) (fun i hi hne => h i (by omega) hne), h n (by omega) (fun e => hkn e.symm)]; omega
theorem zN7 {f : Nat → Int} {n : Nat} (k l : Nat) (hk : k < n) (hl : l < n) (hkl : k ≠ l) (h : ∀ i, i < n → i ≠ k → i ≠ l → f i = 0) : zAC f n = f k + f l := by
 have e : zAC f n = zAC (fun i => (if i = k then f k else 0) + (if i = k then 0 else f i)) n := by
  refine zt (fun i hi => ?_)
  by_cases hik : i = k
  ·subst hik; simp
  ·simp [hik]
 rw [e, zDE]
 rw [zEF k hk (fun i hi hne => by simp [hne]), zEF l hl (fun i hi hne => by
  by_cases hik : i = k
  ·simp [hik]
  ·simp [hik]; exact h i hi hik hne)]
 have : ¬ l = k := fun e => hkl e.symm
 simp [this]
abbrev V := Nat → Int
abbrev Mx := Nat → V
def sg : Nat → Int
 | 0 => 1
 | n + 1 => -sg n
def skip (i : Nat) (D : Mx) : Mx := fun a c => D (if a < i then a else a + 1) (c + 1)
def det : Nat → Mx → Int
 | 0, _ => 1
 | n + 1, D => zAC (fun i => sg i * (D i 0 * det n (skip i D))) (n + 1)
def put (D : Mx) (r : Nat) (v : V) : Mx := fun a => if a = r then v else D a
theorem zDa : ∀ {n : Nat} {D E : Mx}, (∀ a c, a < n → c < n → D a c = E a c) → det n D = det n E
 | 0, _, _, _ => rfl
 | n + 1, D, E, h => by
  rw [det, det]
  refine zt (fun i hi => ?_)
  rw [h i 0 hi (by omega), zDa (D := skip i D) (E := skip i E) (fun a c ha hc => ?_)]
  unfold skip
  exact h _ _ (by split <;> omega) (by omega)
theorem zDD (D : Mx) (r : Nat) (v : V) : skip r (put D r v) = skip r D := by
 funext a c
 unfold skip put
 have : ¬ (if a < r then a else a + 1) = r := by split <;> omega
 rw [if_neg this]
theorem zHC {D : Mx} {i r : Nat} {v : V} (h : i ≠ r) : skip i (put D r v) = put (skip i D) (if r < i then r else r - 1) (fun c => v (c + 1)) := by
 funext a c
 unfold skip put
 by_cases hri : r < i
 ·rw [if_pos hri]
  by_cases ha : a = r
  ·subst ha; rw [if_pos hri]; simp
  ·by_cases hai : a < i
   ·simp [hai, ha]
   ·have : ¬ a + 1 = r := by omega
    simp [hai, ha, this]
 ·rw [if_neg hri]
  by_cases ha : a = r - 1
  ·subst ha
   have h1 : ¬ r - 1 < i := by omega
   have h2 : r - 1 + 1 = r := by omega
   simp [h1, h2]
  ·by_cases hai : a < i
   ·have : ¬ a = r := by omega
    simp [hai, ha, this]
   ·have : ¬ a + 1 = r := by omega
    simp [hai, ha, this]
/-- The determinant is linear in each row. -/
theorem zJ1 : ∀ (n : Nat) (D : Mx) (r : Nat) (u v : V), r < n → det n (put D r (fun c => u c + v c)) = det n (put D r u) + det n (put D r v)
 | 0, _, _, _, _, h => absurd h (Nat.not_lt_zero _)
 | n + 1, D, r, u, v, h => by
  rw [det, det, det, ← zDE]
  refine zt (fun i hi => ?_)
  by_cases hir : i = r
  ·subst hir
   rw [zDD, zDD, zDD]
   have e : ∀ w : V, put D i w i 0 = w 0 := fun w => by simp [put]
   rw [e, e, e, Int.add_mul, Int.mul_add]
  ·have e : ∀ w : V, put D r w i 0 = D i 0 := fun w => by simp [put, hir]
   rw [zHC hir, zHC hir, zHC hir, e, e, e, zJ1 n _ _ _ _ (by split <;> omega), Int.mul_add, Int.mul_add]
theorem zGr : ∀ (n : Nat) (D : Mx) (r : Nat) (k : Int) (v : V), r < n → det n (put D r (fun c => k * v c)) = k * det n (put D r v)
 | 0, _, _, _, _, h => absurd h (Nat.not_lt_zero _)
 | n + 1, D, r, k, v, h => by
  rw [det, det, ← zBT]
  refine zt (fun i hi => ?_)
  by_cases hir : i = r
  ·subst hir
   rw [zDD, zDD]
   have e : ∀ w : V, put D i w i 0 = w 0 := fun w => by simp [put]
   rw [e, e, Int.mul_left_comm k, Int.mul_assoc]
  ·have e : ∀ w : V, put D r w i 0 = D i 0 := fun w => by simp [put, hir]
   rw [zHC hir, zHC hir, e, e, zGr n _ _ _ _ (by split <;> omega), Int.mul_left_comm k, Int.mul_left_comm k]
theorem zIR (n : Nat) (D : Mx) (r : Nat) (h : r < n) : det n (put D r (fun _ => 0)) = 0 := by
 have := zGr n D r 0 (fun _ => 0) h
 simpa using this
/-- Two rows beside each other that are equal. -/
theorem zMq : ∀ (n : Nat) (D : Mx) (r : Nat), r + 1 < n → (∀ c, c < n → D r c = D (r + 1) c) → det n D = 0
 | 0, _, _, h, _ => absurd h (Nat.not_lt_zero _)
 | n + 1, D, r, h, he => by
  rw [det, zN7 r (r + 1) (by omega) h (by omega) (fun i hi h1 h2 => ?_)]
  ·have e : det n (skip r D) = det n (skip (r + 1) D) := zDa (fun a c ha hc => by
    unfold skip
    by_cases h1 : a < r
    ·rw [if_pos h1, if_pos (by omega)]
    ·rw [if_neg h1]
     by_cases h2 : a < r + 1
     ·have : a = r := by omega
      subst this
      rw [if_pos h2]; exact (he _ (by omega)).symm
     ·rw [if_neg h2])
   rw [e, he 0 (by omega), sg, Int.neg_mul]
   omega
  ·have := zMq n (skip i D) (if r < i then r else r - 1) (by split <;> omega) (fun c hc => by
    unfold skip
    by_cases hri : r < i
    ·rw [if_pos hri, if_pos (show r < i from hri), if_pos (show r + 1 < i by omega)]
     exact he _ (by omega)
    ·have e1 : ¬ r - 1 < i := by omega
     have e2 : ¬ r - 1 + 1 < i := by omega
     rw [if_neg hri, if_neg e1, if_neg e2, show r - 1 + 1 = r by omega]
     exact he _ (by omega))
   rw [this, Int.mul_zero, Int.mul_zero]
theorem zKu (D : Mx) {r s : Nat} (u v : V) (h : r ≠ s) : put (put D r u) s v = put (put D s v) r u := by
 funext a
 unfold put
 by_cases h1 : a = s
 ·have : ¬ a = r := fun e => h (e.symm.trans h1)
  simp [h1]
  intro e; exact absurd e.symm h
 ·simp [h1]
theorem zLJ (D : Mx) (r : Nat) : put D r (D r) = D := by
 funext a; unfold put; split
 ·rename_i h; rw [h]
 ·rfl
/-- Exchange of two rows beside each other. -/
theorem det_swap (n : Nat) (D : Mx) (r : Nat) (u v : V) (h : r + 1 < n) : det n (put (put D r u) (r + 1) v) = - det n (put (put D r v) (r + 1) u) := by
 have key : ∀ w : V, det n (put (put D r w) (r + 1) w) = 0 := fun w => zMq n _ r h (fun c _ => by unfold put; simp)
 have h0 := key (fun c => u c + v c)
 have add0 : ∀ w : V, det n (put (put D r (fun c => u c + v c)) (r + 1) w) = det n (put (put D r u) (r + 1) w) + det n (put (put D r v) (r + 1) w) := fun w => by
  rw [zKu D _ w (by omega), zJ1 n _ _ _ _ (by omega), zKu D u w (by omega), zKu D v w (by omega)]
 rw [zJ1 n _ _ _ _ h, add0, add0] at h0
 have h1 := key u
 have h2 := key v
 omega
theorem zO9 : ∀ (k : Nat) (n : Nat) (D : Mx) (r : Nat), r + (k + 1) < n → (∀ c, c < n → D r c = D (r + (k + 1)) c) → det n D = 0
 | 0, n, D, r, h, he => zMq n D r h he
 | k + 1, n, D, r, h, he => by
  have e : D = put (put D (r + (k + 1)) (D (r + (k + 1)))) (r + (k + 1) + 1) (D (r + (k + 1) + 1)) := by
   rw [zLJ, zLJ]
  rw [e, det_swap n D (r + (k + 1)) _ _ (by omega), zO9 k n _ r (by omega) (fun c hc => ?_)]
  ·rfl
  ·have h1 : ¬ r = r + (k + 1) + 1 := by omega
   have h2 : ¬ r = r + (k + 1) := by omega
   have h3 : ¬ r + (k + 1) = r + (k + 1) + 1 := by omega
   unfold put
   rw [if_neg h1, if_neg h2, if_neg h3, if_pos rfl]
   exact he c hc
theorem det_rep (n : Nat) (D : Mx) {r s : Nat} (hr : r < n) (hs : s < n) (hne : r ≠ s) : det n (put D r (D s)) = 0 := by
 rcases Nat.lt_or_gt_of_ne hne with h | h
 ·refine zO9 (s - r - 1) n _ r (by omega) (fun c _ => ?_)
  rw [show r + (s - r - 1 + 1) = s by omega]
  have : ¬ s = r := fun e => hne e.symm
  simp [put, this]
 ·refine zO9 (r - s - 1) n _ s (by omega) (fun c _ => ?_)
  rw [show s + (r - s - 1 + 1) = r by omega]
  have : ¬ s = r := fun e => hne e.symm
  simp [put, this]
/-- A row that is a sum of multiples of the rows. -/
theorem zNi (n : Nat) (D : Mx) (r : Nat) (hr : r < n) (t : V) : ∀ k, k ≤ n → det n (put D r (fun c => zAC (fun i => t i * D i c) k)) = if r < k then t r * det n D else 0
 | 0, _ => by
  rw [if_neg (Nat.not_lt_zero _)]
  exact zIR n D r hr
 | k + 1, hk => by
  have ih := zNi n D r hr t k (by omega)
  have e : (fun c => zAC (fun i => t i * D i c) (k + 1)) = (fun c => (fun c => zAC (fun i => t i * D i c) k) c + (fun c => t k * D k c) c) := rfl
  rw [e, zJ1 n D r _ _ hr, ih, zGr n D r _ _ hr]
  by_cases hkr : k = r
  ·subst hkr
   rw [if_neg (by omega), if_pos (by omega), zLJ]; omega
  ·rw [det_rep n D hr (by omega) (fun e => hkr e.symm), Int.mul_zero, Int.add_zero]
   by_cases h1 : r < k
   ·rw [if_pos h1, if_pos (by omega)]
   ·rw [if_neg h1, if_neg (by omega)]
theorem zEe {n : Nat} {D : Mx} {r : Nat} (hr : r < n) {t w : V} (h : ∀ c, c < n → w c = zAC (fun i => t i * D i c) n) : det n (put D r w) = t r * det n D := by
 have := zNi n D r hr t n (Nat.le_refl _)
 rw [if_pos hr] at this
 rw [← this]
 refine zDa (fun a c _ hc => ?_)
 unfold put
 split
 ·exact h c hc
 ·rfl
def zKg : Mx := fun a c => if a = c then 1 else 0
theorem zNb : ∀ n : Nat, det n zKg = 1
 | 0 => rfl
 | n + 1 => by
  rw [det, zEF 0 (by omega) (fun i hi hne => by simp [zKg, hne])]
  have : det n (skip 0 zKg) = det n zKg := zDa (fun a c _ _ => by simp [skip, zKg])
  rw [this, zNb n]; simp [sg, zKg]
/-- How great a determinant is. -/
theorem zJc {f : Nat → Int} {B : Nat} : ∀ {n : Nat}, (∀ i, i < n → (f i).natAbs ≤ B) → (zAC f n).natAbs ≤ n * B
 | 0, _ => by simp [zAC]
 | n + 1, h => by
  rw [zAC]
  have h1 := zJc (n := n) (fun i hi => h i (by omega))
  have h2 := h n (by omega)
  have h3 := Int.natAbs_add_le (zAC f n) (f n)
  rw [Nat.add_mul]; omega
theorem sg_abs : ∀ n, (sg n).natAbs = 1
 | 0 => rfl
 | n + 1 => by rw [sg, Int.natAbs_neg, sg_abs n]
def fct : Nat → Nat
 | 0 => 1
 | n + 1 => (n + 1) * fct n
theorem zJN {B : Nat} : ∀ {n : Nat} {D : Mx}, (∀ a c, a < n → c < n → (D a c).natAbs ≤ B) → (det n D).natAbs ≤ fct n * B ^ n
 | 0, _, _ => by simp [det, fct]
 | n + 1, D, h => by
  rw [det]
  have := zJc (f := fun i => sg i * (D i 0 * det n (skip i D))) (B := B * (fct n * B ^ n)) (n := n + 1) (fun i hi => by
   rw [Int.natAbs_mul, Int.natAbs_mul, sg_abs, Nat.one_mul]
   refine Nat.mul_le_mul (h i 0 hi (by omega)) (zJN (fun a c ha hc => ?_))
   unfold skip
   exact h _ _ (by split <;> omega) (by omega))
  refine Nat.le_trans this ?_
  rw [fct, Nat.pow_succ]
  have e : (n + 1) * (B * (fct n * B ^ n)) = (n + 1) * fct n * (B ^ n * B) := by
   rw [Nat.mul_left_comm B, Nat.mul_comm B, Nat.mul_assoc]
  omega
/-- A column of the table, and the column of the beginning that it stands for. -/
def Sol (n : Nat) (D : Mx) (d : Int) (t0 t : V) : Prop := ∀ c, c < n → zAC (fun i => t i * D i c) n = d * t0 c
theorem zPn {n : Nat} {D : Mx} {d s : Int} {t0 t : V} (hd : d ≠ 0) (hs : s * s = 1) (hD : det n D = s * d) (h : Sol n D d t0 t) {i : Nat} (hi : i < n) : t i = s * det n (put D i t0) := by
 have h1 := zEe (w := fun c => d * t0 c) hi (fun c hc => (h c hc).symm)
 rw [zGr n D i d t0 hi, hD] at h1
 have h2 : d * det n (put D i t0) = d * (s * t i) := by rw [h1, Int.mul_left_comm, Int.mul_comm (t i) d, Int.mul_left_comm]
 have h3 := Int.eq_of_mul_eq_mul_left hd h2
 rw [h3, ← Int.mul_assoc, hs, Int.one_mul]
/-- The pivot: the determinant of the new rows, and exact quotients. -/
theorem zLv {n : Nat} {D : Mx} {d s : Int} {t0 t : V} (hd : d ≠ 0) (hs : s * s = 1) (hD : det n D = s * d) (h : Sol n D d t0 t) {r : Nat} (hr : r < n) : det n (put D r t0) = s * t r := by
 rw [zPn hd hs hD h hr, ← Int.mul_assoc, hs, Int.one_mul]
theorem sumZ_put {n : Nat} {D : Mx} {r : Nat} (hr : r < n) (v : V) (t : V) (c : Nat) : zAC (fun i => t i * put D r v i c) n = zAC (fun i => t i * D i c) n - t r * D r c + t r * v c := by
 have e : ∀ i, i < n → t i * put D r v i c = t i * D i c + (if i = r then t r * v c - t r * D r c else 0) := by
  intro i hi
  by_cases hir : i = r
  ·subst hir; simp [put]; omega
  ·simp [put, hir]
 rw [zt e, zDE, zEF (f := fun i => if i = r then t r * v c - t r * D r c else 0) r hr (fun i hi hne => by simp [hne])]
 simp; omega
theorem zLw {n : Nat} {D : Mx} {d s : Int} {tc0 tc tj0 tj : V} (hd : d ≠ 0) (hs : s * s = 1) (hD : det n D = s * d) (hc : Sol n D d tc0 tc) (hj : Sol n D d tj0 tj) {r : Nat} (hr : r < n) (hp : tc r ≠ 0) :
 (∀ i, i < n → i ≠ r → d ∣ tj i * tc r - tc i * tj r) ∧ Sol n (put D r tc0) (tc r) tj0 (fun i => if i = r then tj r else (tj i * tc r - tc i * tj r) / d) := by
 have hD' := zLv hd hs hD hc hr
 -- the numerators are a solution of d times the new equation
 let N : V := fun i => if i = r then d * tj r else tj i * tc r - tc i * tj r
 have hN : ∀ c, c < n → zAC (fun i => N i * put D r tc0 i c) n = d * tc r * tj0 c := by
  intro c hcn
  rw [sumZ_put hr]
  have e : ∀ i, i < n → N i * D i c = (tc r * (tj i * D i c) + (-(tj r)) * (tc i * D i c)) + (if i = r then d * tj r * D r c else 0) := by
   intro i hi
   by_cases hir : i = r
   ·subst hir
    simp only [N, if_true]
    have : tc i * (tj i * D i c) + -tj i * (tc i * D i c) = 0 := by
     rw [Int.neg_mul, Int.mul_left_comm]; omega
    omega
   ·simp only [N, hir, if_false, Int.add_zero]
    rw [Int.sub_mul, Int.neg_mul, Int.mul_comm (tj i) (tc r), Int.mul_assoc, Int.mul_comm (tc i) (tj r), Int.mul_assoc]; omega
  rw [zt e, zDE, zDE, zBT, zBT, hj c hcn, hc c hcn, zEF (f := fun i => if i = r then d * tj r * D r c else 0) r hr (fun i hi hne => by simp [hne])]
  simp only [N, if_true]
  have e1 : tc r * (d * tj0 c) = d * tc r * tj0 c := by rw [← Int.mul_assoc, Int.mul_comm (tc r) d]
  have e2 : -tj r * (d * tc0 c) = -(d * tj r * tc0 c) := by rw [Int.neg_mul, ← Int.mul_assoc, Int.mul_comm (tj r) d]
  rw [e1, e2]; omega
 have hex : ∀ i, i < n → N i = d * (s * det n (put (put D r tc0) i tj0)) := by
  intro i hi
  have h1 := zEe (D := put D r tc0) (w := fun c => d * tc r * tj0 c) hi (fun c hcn => (hN c hcn).symm)
  rw [zGr n _ i (d * tc r) tj0 hi, hD'] at h1
  have h2 : tc r * (d * (s * det n (put (put D r tc0) i tj0))) = tc r * N i := by
   have h3 : s * (d * tc r * det n (put (put D r tc0) i tj0)) = s * (N i * (s * tc r)) := by rw [h1]
   have h4 : s * (N i * (s * tc r)) = tc r * N i := by
    rw [Int.mul_left_comm, ← Int.mul_assoc s s, hs, Int.one_mul, Int.mul_comm]
   rw [h4] at h3
   rw [← h3]
   rw [Int.mul_assoc d, Int.mul_left_comm s d, Int.mul_left_comm s (tc r), Int.mul_left_comm d (tc r)]
  exact (Int.eq_of_mul_eq_mul_left hp h2).symm
 refine ⟨fun i hi hne => ?_, ?_⟩
 ·have := hex i hi
  simp only [N, hne, if_false] at this
  exact ⟨_, this⟩
 ·intro c hcn
  have h1 := hN c hcn
  have h2 : ∀ i, i < n → N i * put D r tc0 i c = d * ((fun i => if i = r then tj r else (tj i * tc r - tc i * tj r) / d) i * put D r tc0 i c) := by
   intro i hi
   by_cases hir : i = r
   ·subst hir; simp only [N, if_true]; rw [Int.mul_assoc]
   ·have h3 := hex i hi
    simp only [N, hir, if_false] at h3 ⊢
    have h4 : (tj i * tc r - tc i * tj r) / d = s * det n (put (put D r tc0) i tj0) := by rw [h3, Int.mul_ediv_cancel_left _ hd]
    rw [h4, ← Int.mul_assoc, ← h3]
  rw [zt h2, zBT, Int.mul_assoc d] at h1
  exact Int.eq_of_mul_eq_mul_left hd h1
/-- The quotient of the absolute values, with the sign of the quotient. -/
def zDl (x d : Int) : Int := if (decide (x < 0) != decide (d < 0)) = true then -((x.natAbs / d.natAbs : Nat) : Int) else ((x.natAbs / d.natAbs : Nat) : Int)
theorem zHK {q d : Int} (hd : d ≠ 0) : zDl (d * q) d = q := by
 have hn : (d * q).natAbs / d.natAbs = q.natAbs := by rw [Int.natAbs_mul, Nat.mul_div_cancel_left _ (by omega)]
 unfold zDl
 rw [hn]
 rcases Int.lt_trichotomy q 0 with hq | hq | hq
 ·rcases Int.lt_or_gt_of_ne hd with h | h
  ·have h1 : ¬ d * q < 0 := Int.not_lt.2 (Int.le_of_lt (Int.mul_pos_of_neg_of_neg h hq))
   simp [h, h1]; omega
  ·have h1 : d * q < 0 := Int.mul_neg_of_pos_of_neg h hq
   have h2 : ¬ d < 0 := by omega
   simp [h1, h2]; omega
 ·subst hq; simp
 ·rcases Int.lt_or_gt_of_ne hd with h | h
  ·have h1 : d * q < 0 := Int.mul_neg_of_neg_of_pos h hq
   simp [h, h1]; omega
  ·have h1 : ¬ d * q < 0 := Int.not_lt.2 (Int.le_of_lt (Int.mul_pos h hq))
   have h2 : ¬ d < 0 := by omega
   simp [h1, h2]; omega
theorem zL0 {x d : Int} (hd : d ≠ 0) (h : d ∣ x) : zDl x d = x / d := by
 obtain ⟨q, rfl⟩ := h
 rw [zHK hd, Int.mul_ediv_cancel_left _ hd]
abbrev Tab := List (List Int)
def at2 (T : Tab) (i j : Nat) : Int := (T.getD i []).getD j 0
def zFU (R K : List Int) (p f d : Int) : List Int := (List.range R.length).map (fun j => zDl (R.getD j 0 * p - f * K.getD j 0) d)
def zEa (T : Tab) (k c : Nat) (d : Int) : Tab := (List.range T.length).map (fun i => if i = k then T.getD k [] else zFU (T.getD i []) (T.getD k []) (at2 T k c) (at2 T i c) d)
theorem getD_set {α : Type} (l : List α) (d x : α) (i j : Nat) : (l.set i x).getD j d = if j = i ∧ i < l.length then x else l.getD j d := by
 by_cases h : j = i
 ·subst h
  by_cases h2 : j < l.length
  ·simp [List.getD, h2]
  ·have : l.length ≤ j := by omega
   simp [List.getD, h2, this]
 ·have : ¬ i = j := fun e => h e.symm
  simp [List.getD, h, List.getElem?_set, this]
theorem zIy (T : Tab) (k c : Nat) (d : Int) : (zEa T k c d).length = T.length := by simp [zEa]
theorem zQ6 (T : Tab) (k c : Nat) (d : Int) {i : Nat} (hi : i < T.length) : (zEa T k c d).getD i [] = if i = k then T.getD k [] else zFU (T.getD i []) (T.getD k []) (at2 T k c) (at2 T i c) d := by
 unfold zEa
 simp [List.getD, hi]
theorem zNp (T : Tab) (k c : Nat) (d : Int) {L : Nat} (hT : ∀ x ∈ T, x.length = L) {i j : Nat} (hi : i < T.length) (hj : j < L) : at2 (zEa T k c d) i j = if i = k then at2 T k j else zDl (at2 T i j * at2 T k c - at2 T i c * at2 T k j) d := by
 unfold at2
 rw [zQ6 T k c d hi]
 have hl : (T.getD i []).length = L := hT _ (by simp [List.getD, hi])
 by_cases h : i = k
 ·rw [if_pos h, if_pos h]
 ·rw [if_neg h, if_neg h]
  unfold zFU
  rw [hl]
  have : ∀ f : Nat → Int, ((List.range L).map f).getD j 0 = f j := fun f => by simp [List.getD, hj]
  rw [this]; rfl
theorem zN0 (R K : List Int) (p f d : Int) : (zFU R K p f d).length = R.length := by simp [zFU]
theorem zJJ (T : Tab) (k c : Nat) (d : Int) {L : Nat} (hk : k < T.length) (hT : ∀ x ∈ T, x.length = L) : ∀ x ∈ zEa T k c d, x.length = L := by
 intro x hx
 obtain ⟨i, hi, rfl⟩ := List.mem_map.1 hx
 have hi : i < T.length := by simpa using hi
 split
 ·exact hT _ (by simp [List.getD, hk])
 ·rw [zN0]; exact hT _ (by simp [List.getD, hi])
end Go.Ax.Dt
namespace Go.Ax.Rt
open Go.Ax.Bg Go.Ax.Dt
theorem zDo {α : Type} {l : List α} {j : Nat} (d : α) (h : j < l.length) : l.getD j d = l[j] := by simp [List.getD, h]
theorem zAr {α : Type} {l : List α} {j : Nat} (d : α) (h : j < l.length) : l.getD j d ∈ l := by rw [zDo d h]; exact List.getElem_mem h
theorem zJs {α : Type} {l r : List α} {j : Nat} (d : α) (h : j < l.length) : (l ++ r).getD j d = l.getD j d := by simp [List.getD, List.getElem?_append_left h]
theorem zPd {α : Type} {l : List α} {x d : α} : (l ++ [x]).getD l.length d = x := by simp [List.getD]
theorem num_den (q : Rat) : q * (q.den : Rat) = (q.num : Rat) := by
 have h : ((q.den : Int) : Rat) ≠ 0 := fun e => q.den_nz (by
  have := congrArg Rat.num e
  simpa using this)
 have h2 := Rat.num_divInt_den q
 rw [Rat.divInt_eq_div] at h2
 conv => lhs; lhs; rw [← h2]
 rw [← Rat.intCast_natCast, Rat.div_mul_cancel h]
/-- The factor that makes a row whole. -/
def zDH : Nat → List Rat → Nat
 | f, [] => f
 | f, q :: r => zDH (f * (q.den / Nat.gcd f q.den)) r
theorem fac_step (f d : Nat) : f ∣ f * (d / Nat.gcd f d) ∧ d ∣ f * (d / Nat.gcd f d) := by
 refine ⟨Nat.dvd_mul_right _ _, ?_⟩
 obtain ⟨a, ha⟩ := Nat.gcd_dvd_left f d
 have h2 : Nat.gcd f d * (d / Nat.gcd f d) = d := Nat.mul_div_cancel' (Nat.gcd_dvd_right f d)
 refine ⟨a, ?_⟩
 generalize d / Nat.gcd f d = b at *
 generalize Nat.gcd f d = g at *
 rw [ha, ← h2]
 rw [Nat.mul_assoc, Nat.mul_assoc, Nat.mul_comm a b]
theorem zM1 : ∀ (l : List Rat) (f : Nat), f ∣ zDH f l ∧ ∀ q ∈ l, q.den ∣ zDH f l
 | [], f => ⟨Nat.dvd_refl _, fun q hq => by simp at hq⟩
 | a :: r, f => by
  rw [zDH]
  obtain ⟨h1, h2⟩ := zM1 r (f * (a.den / Nat.gcd f a.den))
  obtain ⟨s1, s2⟩ := fac_step f a.den
  refine ⟨Nat.dvd_trans s1 h1, fun q hq => ?_⟩
  rcases List.mem_cons.1 hq with rfl | hq
  ·exact Nat.dvd_trans s2 h1
  ·exact h2 q hq
theorem zIp : ∀ (l : List Rat) (f : Nat), 0 < f → 0 < zDH f l
 | [], f, h => h
 | a :: r, f, h => by
  rw [zDH]
  refine zIp r _ (Nat.mul_pos h ?_)
  have h2 : Nat.gcd f a.den * (a.den / Nat.gcd f a.den) = a.den := Nat.mul_div_cancel' (Nat.gcd_dvd_right f a.den)
  have := a.den_pos
  rcases Nat.eq_zero_or_pos (a.den / Nat.gcd f a.den) with e | e
  ·rw [e, Nat.mul_zero] at h2; omega
  ·exact e
theorem zIT {k : Nat} : ∀ (l : List Rat) (f : Nat), (∀ q ∈ l, q.den < 10 ^ k) → zDH f l ≤ f * 10 ^ (k * l.length)
 | [], f, _ => by rw [zDH, List.length_nil, Nat.mul_zero, Nat.pow_zero, Nat.mul_one]; exact Nat.le_refl _
 | a :: r, f, h => by
  rw [zDH]
  refine Nat.le_trans (zIT r _ (fun q hq => h q (by simp [hq]))) ?_
  have h1 : a.den / Nat.gcd f a.den ≤ 10 ^ k := Nat.le_trans (Nat.div_le_self _ _) (Nat.le_of_lt (h a (by simp)))
  rw [List.length_cons, Nat.mul_add, Nat.mul_one, Nat.add_comm, Nat.pow_add, ← Nat.mul_assoc]
  exact Nat.mul_le_mul_right _ (Nat.mul_le_mul_left _ h1)
def zA6 (l : List Rat) : List Int := l.map (fun q => q.num * ((zDH 1 l / q.den : Nat) : Int))
theorem zGP (l : List Rat) : (zA6 l).length = l.length := by simp [zA6]
theorem zLX {l : List Rat} {q : Rat} (h : q ∈ l) : ((q.num * ((zDH 1 l / q.den : Nat) : Int) : Int) : Rat) = ((zDH 1 l : Nat) : Rat) * q := by
 obtain ⟨k, hk⟩ := (zM1 l 1).2 q h
 rw [hk, Nat.mul_div_cancel_left _ q.den_pos, Rat.intCast_mul, Rat.natCast_mul]
 have h1 : q * (q.den : Rat) = (q.num : Rat) := num_den q
 have h2 : ((k : Int) : Rat) = (k : Rat) := Rat.intCast_natCast k
 rw [h2, ← h1]
 grind
theorem zLi {l : List Rat} {k : Nat} (h : ∀ q ∈ l, D k q) : ∀ x ∈ zA6 l, x.natAbs ≤ 10 ^ (k + k * l.length) := by
 intro x hx
 obtain ⟨q, hq, rfl⟩ := List.mem_map.1 hx
 rw [Int.natAbs_mul, Int.natAbs_natCast, Nat.pow_add]
 refine Nat.mul_le_mul (Nat.le_of_lt (h q hq).1) ?_
 have := zIT l 1 (fun q hq => (h q hq).2)
 rw [Nat.one_mul] at this
 exact Nat.le_trans (Nat.div_le_self _ _) this
theorem fct_le : ∀ {n : Nat}, n ≤ 40 → fct n ≤ 100 ^ n
 | 0, _ => Nat.le_refl _
 | n + 1, h => by
  rw [fct, Nat.pow_succ, Nat.mul_comm]
  exact Nat.mul_le_mul (fct_le (by omega)) (by omega)
theorem det_ten {n k : Nat} (h : n ≤ 40) : fct n * (10 ^ k) ^ n ≤ 10 ^ ((k + 2) * n) := by
 refine Nat.le_trans (Nat.mul_le_mul_right _ (fct_le h)) ?_
 rw [← Nat.mul_pow, Nat.pow_mul, Nat.pow_add]
 refine Nat.pow_le_pow_left ?_ n
 rw [Nat.mul_comm]
 exact Nat.le_refl _
theorem zF3 (f : Nat → Int) : ∀ n, ((zAC f n : Int) : Rat) = zA8 (fun i => ((f i : Int) : Rat)) n
 | 0 => rfl
 | n + 1 => by rw [zAC, zA8, Rat.intCast_add, zF3 f n]
theorem intc_ne {x : Int} (h : x ≠ 0) : (x : Rat) ≠ 0 := fun e => h (by
 have := congrArg Rat.num e
 simpa using this)
theorem zGK {x : List Rat} (h : ∀ q ∈ x, zCM q = true) : (x.map zj).map zg = x ∧ ∀ s ∈ x.map zj, zAy s = 0 := by
 constructor
 ·rw [List.map_map]
  conv => rhs; rw [← List.map_id x]
  exact List.map_congr_left (fun q hq => (zE1 (h q hq)).2)
 ·intro s hs
  obtain ⟨q, hq, rfl⟩ := List.mem_map.1 hs
  exact (zE1 (h q hq)).1
end Go.Ax.Rt
namespace Go.Proofs.YtnkealfaldjipaaGreatDoor
open Go.Ax Go.Ax.Bg Go.Ax.Rt Go.RowKit Go.Ax.Dt
attribute [local irreducible] Ax zBZ QOp zS zBC
set_option maxRecDepth 100000
set_option maxHeartbeats 4000000
theorem zFT {n m k : Nat} (h : n ≤ 10 ^ k) (hk : k + 1 ≤ 9 * m) : (zT n).length ≤ m := by
 refine zAs (Nat.lt_of_lt_of_le (m := 10 ^ (9 * m)) ?_ ?_)
 ·have h1 : 10 ^ (k + 1) ≤ 10 ^ (9 * m) := Nat.pow_le_pow_right (by decide) hk
  have h2 : 0 < 10 ^ k := Nat.pow_pos (by decide)
  rw [Nat.pow_succ] at h1
  omega
 ·rw [Nat.pow_mul]
  exact Nat.pow_le_pow_left (by decide) m
theorem zRT (x d : Int) (hd : d ≠ 0) (hx : (zT x.natAbs).length ≤ 1000000) (hdl : (zT d.natAbs).length ≤ 1000000) : zU Tryz.prog 235 [zBD x, zBD d] (zBD (zDl x d)) := by
 have c1 := zJL x.natAbs d.natAbs (by omega) hx hdl
 have c2 := zFa (!(decide (x < 0) == decide (d < 0))) (x.natAbs / d.natAbs)
 have e : zEm (!(decide (x < 0) == decide (d < 0))) (x.natAbs / d.natAbs) = zDl x d := rfl
 rw [e] at c2
 refine zS.value0 (zE (P := Tryz.prog) (fn := Tryz.f235) Z Z (by kernel_rfl) Z (fun c hR hfix => ?_)) (fix := fun _ => False) (fun _ h => h) Z Z
 unfold zBD at *
 generalize zDl x d = q at *
 refine rn6 ?_
 refine zB Z Z Z c1 ?_
 repeat (first | refine zG (zL rfl) ?_ | refine zG (zi rfl) ?_ | refine zP ?_ | refine zF ?_ | refine z8 ?_ | refine zV rfl ?_ | refine zG (zQ rfl rfl rfl rfl rfl) ?_ | refine zG (zBz rfl rfl) ?_ | refine zG (zJ rfl rfl rfl rfl rfl rfl) ?_ | refine zG (zJO rfl rfl rfl) ?_)
 refine zB Z Z Z c2 ?_
 skip
 refine zN (c' := .box [.bool (decide (q < 0)), zf q.natAbs]) Z Z Z Z Z Nat.zero_lt_one Z Z (fun i' j' hi' hj' => ?_) ?_
 ·rw [if_pos (Nat.lt_one_iff.1 hi')]; rfl
 refine rn0 ?_
 exact zI hR Z Z
def zl (x : Int) : List AV := [.bool (decide (x < 0)), zf x.natAbs]
abbrev zC (l : List Int) : Cells := zDg 0 2 zl l
theorem zIH (x : Int) (j h : Nat) (hj : j < 2) : ((zl x).getD j .any).forget h = (zl x).getD j .any := by
 match j, hj with
 | 0, _ => rfl
 | 1, _ => rfl
theorem rowI1 (x : Int) (j : Nat) (hj : j < 2) : (zB4 1 2 [.bool (decide (x < 0)), zf x.natAbs]).at 0 j = (zl x).getD j .any := by
 match j, hj with
 | 0, _ => rfl
 | 1, _ => rfl
theorem zLu (q : Rat) : ∀ (l : List Rat) (f : Nat), zDH f (l ++ [q]) = zDH f l * (q.den / Nat.gcd (zDH f l) q.den)
 | [], f => rfl
 | a :: r, f => by rw [List.cons_append, zDH, zDH, zLu q r]
theorem zL2 {l : List Rat} {K k : Nat} (h : ∀ q ∈ l, D K q) : zDH 1 (l.take k) ≤ 10 ^ (K * l.length) := by
 refine Nat.le_trans (zIT (k := K) (l.take k) 1 (fun q hq => (h q (List.mem_of_mem_take hq)).2)) ?_
 rw [Nat.one_mul]
 refine Nat.pow_le_pow_right (by decide) (Nat.mul_le_mul_left _ ?_)
 rw [List.length_take]; exact Nat.min_le_right _ _
theorem zRK (l : List Rat) (K : Nat) (hD : ∀ q ∈ l, D K q) (hlen : l.length ≤ 1000) (hK : K * l.length + K ≤ 900000) :
 MCall Tryz.prog 212 [.ro (qsC l) 0 l.length] (.tup [.sl 0 0 l.length, zf (zDH 1 l)]) [some ⟨120, zC (zA6 l)⟩] := by
 have hsz : ∀ n k : Nat, n ≤ 10 ^ k → k ≤ 900000 → (zT n).length ≤ 100001 := fun n k h hk => zFT h (by omega)
 have c0 := zG2 1 (by decide)
 refine zS.many (zE (P := Tryz.prog) (fn := Tryz.f212) Z Z (by kernel_rfl) Z (fun c hR hfix => ?_)) (fix := fun _ => False) (fun _ h => h) Z
 refine rn0 ?_
 refine zB Z Z Z c0 ?_
 refine rn3 ?_
 refine zh (ι := Nat) (fun k => [(0, .ro (qsC l) 0 l.length), (4, zf (zDH 1 (l.take k))), (16, .ro (qsC l) 0 l.length), (17, .int .i64 (l.length : Nat)), (18, .int .i64 (k : Nat))]) (fun _ => [])
  (fun k => k ≤ l.length) (fun k => l.length - k) 0 ⟨⟨rfl, rfl, rfl, rfl, rfl, trivial⟩, rfl, Nat.zero_le _⟩ ?_
 intro k hk
 refine rn4 ?_
 refine zD Z (fun h => ?_) (fun h => ?_)
 ·have hk' : k < l.length := by omega
  have hq := hD _ (zAr 0 hk')
  have hsn : zDH 1 (l.take (k + 1)) = zDH 1 (l.take k) * ((l.getD k 0).den / Nat.gcd (zDH 1 (l.take k)) (l.getD k 0).den) := by
   rw [List.take_succ_eq_append_getElem hk', zLu, zDo 0 hk']
  have hF := hsz _ _ (zL2 (k := k) hD) (by omega)
  have hp := zIp (l.take k) 1 (by decide)
  generalize zDH 1 (l.take k) = F at *
  generalize hqe : l.getD k 0 = q at *
  have hden := hsz q.den K (Nat.le_of_lt hq.2) (by omega)
  have hg : 0 < Nat.gcd F q.den := Nat.gcd_pos_of_pos_left _ hp
  have hgl : Nat.gcd F q.den ≤ 10 ^ K := Nat.le_trans (Nat.le_of_dvd q.den_pos (Nat.gcd_dvd_right F q.den)) (Nat.le_of_lt hq.2)
  have c1 := zOI F q.den (by omega) (by omega)
  have c2 := zJL q.den (Nat.gcd F q.den) hg (by omega) (Nat.le_trans (hsz (Nat.gcd F q.den) K hgl (by omega)) (by decide))
  have c3 := zMn F (q.den / Nat.gcd F q.den) (by omega) (Nat.le_trans (hsz (q.den / Nat.gcd F q.den) K (Nat.le_trans (Nat.div_le_self _ _) (Nat.le_of_lt hq.2)) (by omega)) (by decide))
  refine rn6 ?_
  refine zA 21 (.agg (zq q)) Z (AEq.of_eq (by rw [← hqe]; rfl)) ?_
  refine zN (c' := .box (zq q)) Z Z Z Z Z Nat.zero_lt_one Z Z (fun i' j' hi' hj' => ?_) ?_
  ·rw [if_pos (Nat.lt_one_iff.1 hi')]; rfl
  refine rn5 ?_
  refine zB Z Z Z c1 ?_
  refine rn5 ?_
  refine zB Z Z Z c2 ?_
  refine rn2 ?_
  refine zB Z Z Z c3 ?_
  refine zEg ?_
  refine zF ?_
  refine zBH [none] (ze.drop ze.nil) ?_
  refine zEn (H1 := []) Z (by rw [hfix]; exact fun h => h) ?_
  refine rn3 ?_
  exact zM ⟨k + 1, by omega, by omega, ⟨Z, by rw [hsn]; rfl, Z, Z, Z, trivial⟩, Z⟩
 have hke : k = l.length := by omega
 subst hke
 rw [List.take_length]
 have hFb := zL2 (k := l.length) hD
 rw [List.take_length] at hFb
 have hF := hsz _ _ hFb (by omega)
 unfold zA6 at hR
 generalize zDH 1 l = F at *
 have eg : ∃ g : Rat → Int, g = (fun q => q.num * ((F / q.den : Nat) : Int)) := ⟨_, rfl⟩
 obtain ⟨g, eg⟩ := eg
 rw [← eg] at hR
 refine rn21 ?_
 refine zAi 10 ⟨120, zC []⟩ Z Z ?_
 repeat (refine z7 ?_)
 refine zh (ι := Nat) (fun k => [(4, zf F), (10, .sl 0 0 k), (37, .ro (qsC l) 0 l.length), (38, .int .i64 (l.length : Nat)), (39, .int .i64 (k : Nat))]) (fun k => [some ⟨120, zC ((l.take k).map g)⟩])
  (fun k => k ≤ l.length) (fun k => l.length - k) 0 ⟨⟨rfl, rfl, rfl, rfl, rfl, trivial⟩, rfl, Nat.zero_le _⟩ ?_
 intro k hk
 refine rn4 ?_
 refine zD Z (fun h => ?_) (fun h => ?_)
 ·have hk' : k < l.length := by omega
  have hq := hD _ (zAr 0 hk')
  have htk := zAx g l 0 k hk'
  have hml : ((l.take k).map g).length = k := by rw [List.length_map, List.length_take]; omega
  generalize (l.take k).map g = zs at *
  generalize hqe : l.getD k 0 = q at *
  have hden := hsz q.den K (Nat.le_of_lt hq.2) (by omega)
  have hnum := hsz q.num.natAbs K (Nat.le_of_lt hq.1) (by omega)
  have hquo := hsz _ _ (Nat.le_trans (Nat.div_le_self F q.den) hFb) (by omega)
  have hgq : g q = q.num * ((F / q.den : Nat) : Int) := by rw [eg]
  have c1 := zJL F q.den q.den_pos (by omega) (by omega)
  have c2 := zC1 q.num ((F / q.den : Nat) : Int) (by omega) (by rw [Int.natAbs_natCast]; omega)
  rw [← hgq] at c2
  refine rn6 ?_
  refine zA 42 (.agg (zq q)) Z (AEq.of_eq (by rw [← hqe]; rfl)) ?_
  refine zN (c' := .box (zq q)) Z Z Z Z Z Nat.zero_lt_one Z Z (fun i' j' hi' hj' => ?_) ?_
  ·rw [if_pos (Nat.lt_one_iff.1 hi')]; rfl
  refine rn5 ?_
  refine zB Z Z Z c1 ?_
  refine zJi ?_
  refine zA 54 (zBD ((F / q.den : Nat) : Int)) Z (AEq.of_eq (by
   unfold zBD
   rw [decide_eq_false (Int.not_lt.2 (Int.natCast_nonneg (F / q.den))), Int.natAbs_natCast]; rfl)) ?_
  refine zB Z Z Z c2 ?_
  unfold zBD
  repeat (refine zW rfl rfl rfl rfl rfl rfl rfl rfl rfl rfl rfl ?_)
  refine zAG Z Z Z Z Z Z Z Z Z hml Z Z (by show 0 + 1 ≤ 1; omega) Z (by show (k + 1) * 32 ≤ _ ∧ _; omega) ?_ (by rw [hfix]; exact fun h => h) ?_
  ·intro i' j hi hj
   exact zA9 0 2 zl zIH zs (g q) _ (rowI1 _) 0 i' j hi hj
  refine zEg ?_
  refine zF ?_
  refine zBH ([some ⟨120, zC ((l.take (k + 1)).map g)⟩] ++ [none]) ?_ ?_
  ·rw [htk]
   exact ze.eqv (zBX 0 2 zl zs (g q) _ (rowI1 _)) (ze.drop ze.nil)
  refine zEn (H1 := [some ⟨120, zC ((l.take (k + 1)).map g)⟩]) Z (by rw [hfix]; exact fun h => h) ?_
  refine zBH [some ⟨120, zC ((l.take (k + 1)).map g)⟩] ?_ ?_
  ·exact ze.eqv ⟨Z, Z, fun i j _ hj => (zIH _ j _ hj).symm⟩ ze.nil
  refine rn3 ?_
  exact zM ⟨k + 1, by omega, by omega, ⟨Z, Z, Z, Z, Z, trivial⟩, Z⟩
 ·have hke : k = l.length := by omega
  subst hke
  rw [List.take_length]
  refine rn5 ?_
  exact zI hR Z ⟨Z, Z⟩
end Go.Proofs.YtnkealfaldjipaaGreatDoor
namespace Go.Ax.Sx
open Go.Ax.Dt
structure St where
 rows : Tab
 den : Int
 basis : List Nat
def zHl (T : Tab) (j : Nat) : V := fun i => at2 T i j
/-- the columns of the beginning that are in the basis, and one for the costs -/
def zDI (M : Tab) (m : Nat) (β : List Nat) : Mx := fun a => if a < m then zHl M (β.getD a 0) else fun c => if c = a then 1 else 0
/-- What each table keeps: m conditions and the costs, N unknowns and the right side. -/
structure Inv (m N : Nat) (M : Tab) (s : St) : Prop where
 n : s.rows.length = m + 1
 row : ∀ x ∈ s.rows, x.length = N + 1
 b : s.basis.length = m
 bc : ∀ i, i < m → s.basis.getD i 0 < N
 dp : 0 < s.den
 unit : ∀ i k, i < m + 1 → k < m → at2 s.rows i (s.basis.getD k 0) = if i = k then s.den else 0
 sg : ∃ σ : Int, σ * σ = 1 ∧ det (m + 1) (zDI M m s.basis) = σ * s.den
 sol : ∀ j, j < N + 1 → Sol (m + 1) (zDI M m s.basis) s.den (zHl M j) (zHl s.rows j)
def sgZ (p : Int) : Int := if p < 0 then -1 else 1
theorem sgZ_sq (p : Int) : sgZ p * sgZ p = 1 := by unfold sgZ; split <;> rfl
theorem zP2 {p : Int} (h : p ≠ 0) : 0 < sgZ p * p := by
 unfold sgZ
 split
 ·omega
 ·omega
def zEd (T : Tab) (r c : Nat) (d : Int) : Tab := if at2 T r c < 0 then (zEa T r c d).map (fun l => l.map (fun x => -x)) else zEa T r c d
def piv (s : St) (r c : Nat) : St := ⟨zEd s.rows r c s.den, if at2 s.rows r c < 0 then -(at2 s.rows r c) else at2 s.rows r c, s.basis.set r c⟩
theorem zIW (s : St) (r c : Nat) : (piv s r c).den = sgZ (at2 s.rows r c) * at2 s.rows r c := by
 show (if at2 s.rows r c < 0 then -(at2 s.rows r c) else at2 s.rows r c) = _
 unfold sgZ
 split <;> omega
theorem at2_neg (T : Tab) (i j : Nat) : at2 (T.map (fun l => l.map (fun x => -x))) i j = -(at2 T i j) := by
 unfold at2
 simp only [List.getD, List.getElem?_map]
 cases h : T[i]? with
 | none => rfl
 | some l =>
  show ((l.map (fun x => -x))[j]?).getD 0 = -((l[j]?).getD 0)
  rw [List.getElem?_map]
  cases l[j]? <;> rfl
theorem zPV (T : Tab) (r c : Nat) (d : Int) {L : Nat} (hT : ∀ x ∈ T, x.length = L) {i j : Nat} (hi : i < T.length) (hj : j < L) :
 at2 (zEd T r c d) i j = sgZ (at2 T r c) * (if i = r then at2 T r j else zDl (at2 T i j * at2 T r c - at2 T i c * at2 T r j) d) := by
 unfold zEd sgZ
 split
 ·rw [at2_neg, zNp T r c d hT hi hj]; omega
 ·rw [zNp T r c d hT hi hj, Int.one_mul]
theorem zKB (T : Tab) (r c : Nat) (d : Int) : (zEd T r c d).length = T.length := by
 unfold zEd
 split
 ·rw [List.length_map, zIy]
 ·rw [zIy]
theorem pivT_row (T : Tab) (r c : Nat) (d : Int) {L : Nat} (hr : r < T.length) (hT : ∀ x ∈ T, x.length = L) : ∀ x ∈ zEd T r c d, x.length = L := by
 unfold zEd
 split
 ·intro x hx
  obtain ⟨y, hy, rfl⟩ := List.mem_map.1 hx
  rw [List.length_map]
  exact zJJ T r c d hr hT y hy
 ·exact zJJ T r c d hr hT
theorem basM_set {M : Tab} {m : Nat} {β : List Nat} (hb : β.length = m) {r : Nat} (hr : r < m) (c : Nat) : zDI M m (β.set r c) = put (zDI M m β) r (zHl M c) := by
 funext a
 show (if a < m then zHl M ((β.set r c).getD a 0) else _) = if a = r then zHl M c else (if a < m then zHl M (β.getD a 0) else _)
 by_cases ha : a < m
 ·rw [if_pos ha, if_pos ha, getD_set]
  by_cases h : a = r
  ·rw [if_pos ⟨h.symm ▸ rfl, by omega⟩, if_pos h]
  ·rw [if_neg (fun q => h q.1), if_neg h]
 ·rw [if_neg ha, if_neg ha, if_neg (by omega)]
theorem zQo {n : Nat} {D : Mx} {d : Int} {t0 t t' : V} (h : Sol n D d t0 t) (he : ∀ i, i < n → t' i = t i) : Sol n D d t0 t' := by
 intro c hc
 rw [← h c hc]
 exact zt (fun i hi => by rw [he i hi])
theorem sol_smul {n : Nat} {D : Mx} {d : Int} {t0 t : V} (k : Int) (h : Sol n D d t0 t) : Sol n D (k * d) t0 (fun i => k * t i) := by
 intro c hc
 rw [Int.mul_assoc, ← h c hc, ← zBT]
 exact zt (fun i hi => Int.mul_assoc _ _ _)
/-- A pivot keeps everything. -/
theorem Inv.piv {m N : Nat} {M : Tab} {s : St} (h : Inv m N M s) {r c : Nat} (hr : r < m) (hc : c < N) (hp : at2 s.rows r c ≠ 0) : Inv m N M (piv s r c) := by
 obtain ⟨σ, hs, hD⟩ := h.sg
 have hd : s.den ≠ 0 := by have := h.dp; omega
 have hr1 : r < m + 1 := by omega
 have hrl : r < s.rows.length := by rw [h.n]; omega
 have hb := basM_set (M := M) h.b hr c
 have hpz := zP2 hp
 have hat : ∀ i j, i < m + 1 → j < N + 1 → at2 (Sx.piv s r c).rows i j = sgZ (at2 s.rows r c) * (if i = r then at2 s.rows r j else zDl (at2 s.rows i j * at2 s.rows r c - at2 s.rows i c * at2 s.rows r j) s.den) := fun i j hi hj => zPV s.rows r c s.den h.row (by rw [h.n]; exact hi) hj
 refine ⟨?_, ?_, ?_, ?_, ?_, ?_, ?_, ?_⟩
 ·show (zEd _ _ _ _).length = _
  rw [zKB, h.n]
 ·exact pivT_row s.rows r c s.den hrl h.row
 ·show (s.basis.set r c).length = m
  rw [List.length_set, h.b]
 ·intro i hi
  show (s.basis.set r c).getD i 0 < N
  rw [getD_set]
  split
  ·exact hc
  ·exact h.bc i hi
 ·rw [zIW]; exact hpz
 ·intro i k hi hk
  have hbk : (Sx.piv s r c).basis.getD k 0 = if k = r then c else s.basis.getD k 0 := by
   show (s.basis.set r c).getD k 0 = _
   rw [getD_set]
   by_cases e : k = r
   ·rw [if_pos ⟨e, by rw [h.b]; exact hr⟩, if_pos e]
   ·rw [if_neg (fun q => e q.1), if_neg e]
  rw [hbk, zIW]
  by_cases e : k = r
  ·subst e
   rw [if_pos rfl, hat i c hi (by omega)]
   by_cases e2 : i = k
   ·rw [if_pos e2, if_pos e2]
   ·rw [if_neg e2, if_neg e2]
    have : at2 s.rows i c * at2 s.rows k c - at2 s.rows i c * at2 s.rows k c = s.den * 0 := by omega
    rw [this, zHK hd, Int.mul_zero]
  ·have hrk : at2 s.rows r (s.basis.getD k 0) = 0 := by rw [h.unit r k hr1 hk, if_neg (fun q => e q.symm)]
   have hik := h.unit i k hi hk
   rw [if_neg e, hat i _ hi (by have := h.bc k hk; omega), hrk, hik]
   by_cases e2 : i = k
   ·have e5 : ¬ i = r := fun q => e (e2 ▸ q)
    rw [if_neg e5, if_pos e2, if_pos e2, Int.mul_zero, Int.sub_zero, zHK hd]
   ·rw [if_neg e2, if_neg e2]
    by_cases e3 : i = r
    ·rw [if_pos e3, Int.mul_zero]
    ·rw [if_neg e3, Int.mul_zero, Int.sub_zero]
     have : (0 : Int) * at2 s.rows r c = s.den * 0 := by omega
     rw [this, zHK hd, Int.mul_zero]
 ·refine ⟨sgZ (at2 s.rows r c) * σ, ?_, ?_⟩
  ·have := sgZ_sq (at2 s.rows r c)
   rw [Int.mul_assoc, Int.mul_left_comm σ, hs, Int.mul_one, this]
  ·show det (m + 1) (zDI M m (s.basis.set r c)) = _
   rw [hb, zLv hd hs hD (h.sol c (by omega)) hr1, zIW]
   have := sgZ_sq (at2 s.rows r c)
   show σ * at2 s.rows r c = _
   rw [Int.mul_assoc, Int.mul_left_comm σ, ← Int.mul_assoc, this, Int.one_mul]
 ·intro j hj
  show Sol (m + 1) (zDI M m (s.basis.set r c)) _ _ _
  rw [hb, zIW]
  obtain ⟨p1, p2⟩ := zLw hd hs hD (h.sol c (by omega)) (h.sol j hj) hr1 hp
  refine zQo (sol_smul (sgZ (at2 s.rows r c)) p2) (fun i hi => ?_)
  show at2 (Sx.piv s r c).rows i j = _
  rw [hat i j hi hj]
  by_cases e : i = r
  ·rw [if_pos e, if_pos e]; rfl
  ·rw [if_neg e, if_neg e]
   have := zL0 hd (p1 i hi e)
   show _ * zDl (zHl s.rows j i * zHl s.rows c r - zHl s.rows c i * zHl s.rows j r) s.den = _
   rw [this]
/-- The elements of each table are determinants. -/
theorem Inv.bound {m N B : Nat} {M : Tab} {s : St} (h : Inv m N M s) (h1 : 1 ≤ B) (hB : ∀ i j, i < m + 1 → j < N + 1 → (at2 M i j).natAbs ≤ B) :
 (∀ i j, i < m + 1 → j < N + 1 → (at2 s.rows i j).natAbs ≤ fct (m + 1) * B ^ (m + 1)) ∧ s.den.natAbs ≤ fct (m + 1) * B ^ (m + 1) := by
 obtain ⟨σ, hs, hD⟩ := h.sg
 have hσ : σ.natAbs = 1 := by
  have := congrArg Int.natAbs hs
  rw [Int.natAbs_mul] at this
  exact Nat.eq_one_of_mul_eq_one_right (by simpa using this)
 have hd : s.den ≠ 0 := by have := h.dp; omega
 have hbas : ∀ a c, a < m + 1 → c < m + 1 → (zDI M m s.basis a c).natAbs ≤ B := by
  intro a c ha hc
  unfold zDI
  split
  ·rename_i h2
   exact hB c _ hc (by have := h.bc a h2; omega)
  ·show (if c = a then (1 : Int) else 0).natAbs ≤ B
   split
   ·exact h1
   ·exact Nat.zero_le _
 refine ⟨fun i j hi hj => ?_, ?_⟩
 ·have h2 := zPn hd hs hD (h.sol j hj) hi
  have h3 : at2 s.rows i j = σ * det (m + 1) (put (zDI M m s.basis) i (zHl M j)) := h2
  rw [h3, Int.natAbs_mul, hσ, Nat.one_mul]
  refine zJN (fun a c ha hc => ?_)
  unfold put
  split
  ·exact hB c j hc hj
  ·exact hbas a c ha hc
 ·have h2 : (det (m + 1) (zDI M m s.basis)).natAbs = s.den.natAbs := by rw [hD, Int.natAbs_mul, hσ, Nat.one_mul]
  rw [← h2]
  exact zJN hbas
theorem zGE (f : Nat → Nat → Int) (m : Nat) : ∀ n : Nat, zAC (fun i => zAC (fun j => f i j) m) n = zAC (fun j => zAC (fun i => f i j) n) m
 | 0 => by
  show (0 : Int) = _
  rw [zB6 (f := fun j => zAC (fun i => f i j) 0) (fun i _ => rfl)]
 | n + 1 => by
  show zAC (fun i => zAC (fun j => f i j) m) n + zAC (fun j => f n j) m = _
  rw [zGE f m n, ← zDE]
  exact zt (fun i _ => rfl)
theorem zQT (c : Int) (f : Nat → Int) (n : Nat) : zAC (fun i => f i * c) n = zAC f n * c := by
 rw [Int.mul_comm, ← zBT]
 exact zt (fun i _ => Int.mul_comm _ _)
theorem zCR {f : Nat → Int} {n k : Nat} (hk : k < n) : zAC (fun j => if j = k then f j else 0) n = f k := by
 rw [zEF k hk (fun i hi hne => by rw [if_neg hne]), if_pos rfl]
theorem zOD : ∀ {n : Nat} {f : Nat → Int}, 0 < zAC f n → ∃ i, i < n ∧ 0 < f i
 | 0, f, h => absurd h (by show ¬ (0 : Int) < 0; omega)
 | n + 1, f, h => by
  have h : 0 < zAC f n + f n := h
  by_cases h1 : 0 < f n
  ·exact ⟨n, Nat.lt_succ_self n, h1⟩
  ·obtain ⟨i, hi, h2⟩ := zOD (n := n) (f := f) (by omega)
   exact ⟨i, by omega, h2⟩
/-- a row of the table times a vector -/
def zB0 (T : Tab) (N : Nat) (x : Nat → Int) (i : Nat) : Int := zAC (fun j => at2 T i j * x j) (N + 1)
/-- The vectors that satisfy the rows of the beginning satisfy the rows of each table, and the other way round. -/
theorem Inv.ker {m N : Nat} {M : Tab} {s : St} (h : Inv m N M s) (x : Nat → Int) (z : Int) :
 (∀ i, i < m + 1 → zB0 M N x i + (if i = m then z else 0) = 0) ↔ (∀ i, i < m + 1 → zB0 s.rows N x i + (if i = m then s.den * z else 0) = 0) := by
 obtain ⟨σ, hs, hD⟩ := h.sg
 have hd : s.den ≠ 0 := by have := h.dp; omega
 let t : V := fun i => zB0 s.rows N x i + (if i = m then s.den * z else 0)
 have key : ∀ c, c < m + 1 → zAC (fun i => t i * zDI M m s.basis i c) (m + 1) = s.den * (zB0 M N x c + (if c = m then z else 0)) := by
  intro c hc
  have e1 : ∀ i, i < m + 1 → t i * zDI M m s.basis i c = zAC (fun j => x j * (at2 s.rows i j * zDI M m s.basis i c)) (N + 1) + (if i = m then s.den * z * (if c = m then 1 else 0) else 0) := by
   intro i hi
   show (zB0 s.rows N x i + _) * _ = _
   rw [Int.add_mul]
   congr 1
   ·unfold zB0
    rw [← zQT]
    exact zt (fun j _ => by rw [Int.mul_comm (at2 s.rows i j), Int.mul_assoc])
   ·by_cases e : i = m
    ·subst e
     rw [if_pos rfl, if_pos rfl]
     congr 1
     unfold zDI
     rw [if_neg (by omega)]
    ·rw [if_neg e, if_neg e, Int.zero_mul]
  rw [zt e1, zDE, zGE, zCR (f := fun i => s.den * z * (if c = m then 1 else 0)) (Nat.lt_succ_self m)]
  have e2 : ∀ j, j < N + 1 → zAC (fun i => x j * (at2 s.rows i j * zDI M m s.basis i c)) (m + 1) = s.den * (at2 M c j * x j) := by
   intro j hj
   rw [zBT]
   have := h.sol j hj c hc
   have : zAC (fun i => at2 s.rows i j * zDI M m s.basis i c) (m + 1) = s.den * at2 M c j := this
   rw [this, Int.mul_left_comm, Int.mul_comm (x j)]
  rw [zt e2, zBT, Int.mul_add]
  congr 1
  split
  ·rw [Int.mul_one]
  ·rw [Int.mul_zero, Int.mul_zero]
 constructor
 ·intro h0 i hi
  have h1 := zEe (D := zDI M m s.basis) (t := t) (w := fun _ => 0) hi (fun c hc => by rw [key c hc, h0 c hc, Int.mul_zero])
  rw [zIR (m + 1) _ i hi, hD] at h1
  have hσ : σ ≠ 0 := fun e => by rw [e] at hs; exact absurd hs (by decide)
  rcases Int.mul_eq_zero.1 h1.symm with h2 | h2
  ·exact h2
  ·rcases Int.mul_eq_zero.1 h2 with h3 | h3
   ·exact absurd h3 hσ
   ·exact absurd h3 hd
 ·intro h0 c hc
  have h1 := key c hc
  rw [zB6 (fun i hi => by show t i * _ = 0; rw [show t i = 0 from h0 i hi, Int.zero_mul])] at h1
  rcases Int.mul_eq_zero.1 h1.symm with h2 | h2
  ·exact absurd h2 hd
  ·exact h2
/-- One table told by another one. -/
theorem Inv.cross {m N : Nat} {M : Tab} {s s' : St} (h : Inv m N M s) (h' : Inv m N M s') {i c : Nat} (hi : i < m + 1) (hc : c < N + 1) :
 s.den * at2 s'.rows i c = zAC (fun k => at2 s'.rows i (s.basis.getD k 0) * at2 s.rows k c) m + (if i = m then s'.den * at2 s.rows m c else 0) := by
 let x : Nat → Int := fun j => (if j = c then s.den else 0) - zAC (fun k => if j = s.basis.getD k 0 then at2 s.rows k c else 0) m
 have hx : ∀ (T : Tab) (i : Nat), zB0 T N x i = at2 T i c * s.den - zAC (fun k => at2 T i (s.basis.getD k 0) * at2 s.rows k c) m := by
  intro T i
  unfold zB0
  have e1 : ∀ j, j < N + 1 → at2 T i j * x j = (if j = c then at2 T i j * s.den else 0) + zAC (fun k => if j = s.basis.getD k 0 then -(at2 T i j * at2 s.rows k c) else 0) m := by
   intro j hj
   show _ * ((if j = c then s.den else 0) - _) = _
   rw [Int.mul_sub, Int.sub_eq_add_neg]
   congr 1
   ·split
    ·rfl
    ·rw [Int.mul_zero]
   ·rw [← Int.mul_neg, show -(zAC (fun k => if j = s.basis.getD k 0 then at2 s.rows k c else 0) m) = zAC (fun k => -1 * (if j = s.basis.getD k 0 then at2 s.rows k c else 0)) m from by rw [zBT]; omega, ← zBT]
    exact zt (fun k _ => by
     split
     ·rw [Int.neg_mul, Int.one_mul, Int.mul_neg]
     ·rw [Int.mul_zero, Int.mul_zero])
  rw [zt e1, zDE, zCR (f := fun j => at2 T i j * s.den) hc, zGE, Int.sub_eq_add_neg]
  congr 1
  have e2 : ∀ k, k < m → zAC (fun j => if j = s.basis.getD k 0 then -(at2 T i j * at2 s.rows k c) else 0) (N + 1) = -1 * (at2 T i (s.basis.getD k 0) * at2 s.rows k c) := by
   intro k hk
   rw [zCR (f := fun j => -(at2 T i j * at2 s.rows k c)) (by have := h.bc k hk; omega)]
   omega
  rw [zt e2, zBT]
  omega
 have h1 : ∀ i, i < m + 1 → zB0 s.rows N x i + (if i = m then s.den * (-(at2 s.rows m c)) else 0) = 0 := by
  intro i hi
  rw [hx]
  by_cases e : i = m
  ·subst e
   rw [if_pos rfl, zB6 (fun k hk => by rw [h.unit i k (by omega) hk, if_neg (by omega), Int.zero_mul]), Int.mul_neg, Int.mul_comm]
   omega
  ·rw [if_neg e]
   have e3 : ∀ k, k < m → at2 s.rows i (s.basis.getD k 0) * at2 s.rows k c = if k = i then s.den * at2 s.rows k c else 0 := by
    intro k hk
    rw [h.unit i k hi hk]
    by_cases e4 : i = k
    ·rw [if_pos e4, if_pos e4.symm]
    ·rw [if_neg e4, if_neg (fun q => e4 q.symm), Int.zero_mul]
   rw [zt e3, zCR (f := fun k => s.den * at2 s.rows k c) (by omega), Int.mul_comm]
   omega
 have h2 := (h'.ker x (-(at2 s.rows m c))).1 ((h.ker x (-(at2 s.rows m c))).2 h1) i hi
 rw [hx, Int.mul_comm] at h2
 by_cases e : i = m
 ·rw [if_pos e] at h2 ⊢
  rw [Int.mul_neg] at h2
  omega
 ·rw [if_neg e] at h2 ⊢
  omega
/-- the first column with a negative cost, or w -/
def zCW (T : Tab) (m : Nat) : Nat → Nat → Nat
 | 0, c => c
 | f + 1, c => if at2 T m c < 0 then c else zCW T m f (c + 1)
theorem zE7 (T : Tab) (m : Nat) : ∀ f c, c ≤ zCW T m f c ∧ zCW T m f c ≤ c + f ∧ (∀ a, c ≤ a → a < zCW T m f c → 0 ≤ at2 T m a) ∧ (zCW T m f c < c + f → at2 T m (zCW T m f c) < 0)
 | 0, c => ⟨Nat.le_refl _, Nat.le_refl _, fun a h1 h2 => absurd h2 (by rw [zCW]; omega), fun h => absurd h (by rw [zCW]; omega)⟩
 | f + 1, c => by
  rw [zCW]
  by_cases h : at2 T m c < 0
  ·rw [if_pos h]
   exact ⟨Nat.le_refl _, by omega, fun a h1 h2 => absurd h2 (by omega), fun _ => h⟩
  ·rw [if_neg h]
   obtain ⟨h1, h2, h3, h4⟩ := zE7 T m f (c + 1)
   refine ⟨by omega, by omega, fun a ha hb => ?_, fun hb => h4 (by omega)⟩
   by_cases e : a = c
   ·subst e; omega
   ·exact h3 a (by omega) hb
/-- the row that leaves -/
def zH4 (T : Tab) (β : List Nat) (c e k b : Nat) : Prop := at2 T k e * at2 T b c < at2 T b e * at2 T k c ∨ at2 T k e * at2 T b c = at2 T b e * at2 T k c ∧ β.getD k 0 < β.getD b 0
instance (T : Tab) (β : List Nat) (c e k b : Nat) : Decidable (zH4 T β c e k b) := by unfold zH4; infer_instance
def zBg (T : Tab) (β : List Nat) (c e : Nat) : Nat → Option Nat
 | 0 => none
 | k + 1 => match zBg T β c e k with
  | none => if at2 T k c ≤ 0 then none else some k
  | some b => if at2 T k c ≤ 0 then some b else if zH4 T β c e k b then some k else some b
theorem zH0 (T : Tab) (β : List Nat) (c e : Nat) : ∀ n, zBg T β c e n = none → ∀ i, i < n → at2 T i c ≤ 0
 | 0, _, i, hi => absurd hi (Nat.not_lt_zero _)
 | n + 1, h, i, hi => by
  rw [zBg] at h
  cases hl : zBg T β c e n with
  | none =>
   rw [hl] at h
   simp only at h
   split at h
   ·rename_i h1
    by_cases e2 : i = n
    ·rw [e2]; exact h1
    ·exact zH0 T β c e n hl i (by omega)
   ·cases h
  | some b =>
   rw [hl] at h
   simp only at h
   split at h
   ·cases h
   ·split at h <;> cases h
theorem zKs {a x y : Int} (ha : 0 < a) (h : a * x ≤ a * y) : x ≤ y := Int.le_of_mul_le_mul_left h ha
/-- what the chosen row is -/
structure Least (T : Tab) (β : List Nat) (c e n b : Nat) : Prop where
 lt : b < n
 pos : 0 < at2 T b c
 le : ∀ i, i < n → 0 < at2 T i c → at2 T b e * at2 T i c ≤ at2 T i e * at2 T b c ∧ (at2 T b e * at2 T i c = at2 T i e * at2 T b c → β.getD b 0 ≤ β.getD i 0)
theorem zGJ (T : Tab) (β : List Nat) (c e : Nat) : ∀ n b, zBg T β c e n = some b → Least T β c e n b
 | 0, b, h => by rw [zBg] at h; cases h
 | n + 1, b, h => by
  rw [zBg] at h
  cases hl : zBg T β c e n with
  | none =>
   have hn := zH0 T β c e n hl
   rw [hl] at h
   simp only at h
   split at h
   ·cases h
   ·rename_i h1
    obtain rfl : n = b := by simpa using h
    refine ⟨Nat.lt_succ_self _, by omega, fun i hi hp => ?_⟩
    by_cases e2 : i = n
    ·subst e2
     exact ⟨Int.le_refl _, fun _ => Nat.le_refl _⟩
    ·exact absurd (hn i (by omega)) (by omega)
  | some d =>
   have hd := zGJ T β c e n d hl
   rw [hl] at h
   simp only at h
   split at h
   ·rename_i h1
    obtain rfl : d = b := by simpa using h
    refine ⟨by have := hd.lt; omega, hd.pos, fun i hi hp => ?_⟩
    by_cases e2 : i = n
    ·subst e2; omega
    ·exact hd.le i (by omega) hp
   ·rename_i h1
    have h1 : 0 < at2 T n c := by omega
    split at h
    ·rename_i h2
     obtain rfl : n = b := by simpa using h
     refine ⟨Nat.lt_succ_self _, h1, fun i hi hp => ?_⟩
     by_cases e2 : i = n
     ·subst e2; exact ⟨Int.le_refl _, fun _ => Nat.le_refl _⟩
     ·obtain ⟨g1, g2⟩ := hd.le i (by omega) hp
      have hdp := hd.pos
      -- n against d, d against i
      have a1 : at2 T n e * at2 T d c ≤ at2 T d e * at2 T n c := by
       rcases h2 with h2 | h2
       ·omega
       ·omega
      have b1 := Int.mul_le_mul_of_nonneg_right a1 (Int.le_of_lt hp)
      have b2 := Int.mul_le_mul_of_nonneg_right g1 (Int.le_of_lt h1)
      have c1 : at2 T d c * (at2 T n e * at2 T i c) = at2 T n e * at2 T d c * at2 T i c := by grind
      have c2 : at2 T d c * (at2 T i e * at2 T n c) = at2 T i e * at2 T d c * at2 T n c := by grind
      have c3 : at2 T d e * at2 T n c * at2 T i c = at2 T d e * at2 T i c * at2 T n c := by grind
      refine ⟨zKs hdp (by omega), fun he => ?_⟩
      have d1 : at2 T d c * (at2 T n e * at2 T i c) = at2 T d c * (at2 T i e * at2 T n c) := by rw [he]
      -- all equal
      have d2 : at2 T n e * at2 T d c * at2 T i c = at2 T d e * at2 T n c * at2 T i c := by omega
      have d3 : at2 T n e * at2 T d c = at2 T d e * at2 T n c := Int.eq_of_mul_eq_mul_right (by omega) d2
      have d4 : at2 T d e * at2 T i c * at2 T n c = at2 T i e * at2 T d c * at2 T n c := by omega
      have d5 : at2 T d e * at2 T i c = at2 T i e * at2 T d c := Int.eq_of_mul_eq_mul_right (by omega) d4
      rcases h2 with h2 | h2
      ·omega
      ·have := g2 d5
       omega
    ·rename_i h2
     obtain rfl : d = b := by simpa using h
     refine ⟨by have := hd.lt; omega, hd.pos, fun i hi hp => ?_⟩
     by_cases e2 : i = n
     ·subst e2
      unfold zH4 at h2
      refine ⟨by omega, fun he => ?_⟩
      omega
     ·exact hd.le i (by omega) hp
/-- One step: none if nothing can be improved, or if there is no end. -/
def zB1 (m N w : Nat) (s : St) : Option St :=
 if zCW s.rows m w 0 = w then none
 else match zBg s.rows s.basis (zCW s.rows m w 0) N m with
  | none => none
  | some r => some (piv s r (zCW s.rows m w 0))
def zAn (m N w : Nat) (s : St) : Nat → St
 | 0 => s
 | k + 1 => (zB1 m N w (zAn m N w s k)).getD (zAn m N w s k)
def zDf (m N : Nat) (s : St) : Prop := ∀ i, i < m → 0 ≤ at2 s.rows i N
theorem zIz {m N w : Nat} {s s' : St} (h : zB1 m N w s = some s') : ∃ c r, c < w ∧ at2 s.rows m c < 0 ∧ (∀ a, a < c → 0 ≤ at2 s.rows m a) ∧ Least s.rows s.basis c N m r ∧ s' = piv s r c := by
 unfold zB1 at h
 obtain ⟨e1, e2, e3, e4⟩ := zE7 s.rows m w 0
 split at h
 ·cases h
 ·rename_i h1
  split at h
  ·cases h
  ·rename_i r hr
   refine ⟨_, r, by omega, e4 (by omega), fun a ha => e3 a (Nat.zero_le _) ha, zGJ _ _ _ _ _ _ hr, ?_⟩
   exact (Option.some.inj h).symm
/-- the elements after a pivot, without quotients -/
theorem Inv.entry {m N : Nat} {M : Tab} {s : St} (h : Inv m N M s) {r c : Nat} (hr : r < m) (hc : c < N) (hp : at2 s.rows r c ≠ 0) {i j : Nat} (hi : i < m + 1) (hj : j < N + 1) :
 s.den * at2 (Sx.piv s r c).rows i j = sgZ (at2 s.rows r c) * (if i = r then s.den * at2 s.rows r j else at2 s.rows i j * at2 s.rows r c - at2 s.rows i c * at2 s.rows r j) := by
 obtain ⟨σ, hs, hD⟩ := h.sg
 have hd : s.den ≠ 0 := by have := h.dp; omega
 obtain ⟨p1, _⟩ := zLw hd hs hD (h.sol c (by omega)) (h.sol j hj) (show r < m + 1 by omega) hp
 have := zPV s.rows r c s.den h.row (i := i) (j := j) (by rw [h.n]; exact hi) hj
 have e : at2 (Sx.piv s r c).rows i j = at2 (zEd s.rows r c s.den) i j := rfl
 rw [e, this, Int.mul_left_comm]
 congr 1
 by_cases e : i = r
 ·rw [if_pos e, if_pos e]
 ·have e3 := zL0 hd (p1 i hi e)
  have e4 := Int.mul_ediv_cancel' (p1 i hi e)
  rw [← e3] at e4
  rw [if_neg e, if_neg e]
  exact e4
theorem Inv.feas_step {m N : Nat} {M : Tab} {s : St} (h : Inv m N M s) (hf : zDf m N s) {r c : Nat} (hc : c < N) (hl : Least s.rows s.basis c N m r) : zDf m N (Sx.piv s r c) := by
 intro i hi
 have hp := hl.pos
 have h1 := h.entry hl.lt hc (by omega) (i := i) (j := N) (by omega) (by omega)
 have hd := h.dp
 have hsg : sgZ (at2 s.rows r c) = 1 := by unfold sgZ; rw [if_neg (by omega)]
 rw [hsg, Int.one_mul] at h1
 have : 0 ≤ s.den * at2 (Sx.piv s r c).rows i N := by
  rw [h1]
  split
  ·exact Int.mul_nonneg (Int.le_of_lt hd) (hf r hl.lt)
  ·by_cases hpi : 0 < at2 s.rows i c
   ·have := (hl.le i hi hpi).1
    rw [Int.mul_comm (at2 s.rows i c)]
    omega
   ·have h2 := Int.mul_nonneg (hf i hi) (Int.le_of_lt hp)
    have h3 := Int.mul_nonneg (show 0 ≤ -(at2 s.rows i c) by omega) (hf r hl.lt)
    rw [Int.neg_mul] at h3
    omega
 exact Int.le_of_mul_le_mul_left (by rw [Int.mul_zero]; exact this) hd
/-- Pigeons. -/
theorem pig : ∀ (K : Nat) (f : Nat → Nat), (∀ i, i ≤ K → f i < K) → ∃ a b, a < b ∧ b ≤ K ∧ f a = f b
 | 0, f, h => absurd (h 0 (Nat.le_refl _)) (Nat.not_lt_zero _)
 | K + 1, f, h => by
  by_cases hx : ∃ a, a ≤ K ∧ f a = f (K + 1)
  ·obtain ⟨a, h1, h2⟩ := hx
   exact ⟨a, K + 1, by omega, Nat.le_refl _, h2⟩
  ·have hne : ∀ a, a ≤ K → f a ≠ f (K + 1) := fun a ha e => hx ⟨a, ha, e⟩
   obtain ⟨a, b, h1, h2, h3⟩ := pig K (fun i => if f i < f (K + 1) then f i else f i - 1) (fun i hi => by
    have e1 := h i (by omega)
    have e2 := h (K + 1) (Nat.le_refl _)
    have e3 := hne i hi
    show (if f i < f (K + 1) then f i else f i - 1) < K
    split <;> omega)
   refine ⟨a, b, h1, by omega, ?_⟩
   have e1 := hne a (by omega)
   have e2 := hne b h2
   have h3 : (if f a < f (K + 1) then f a else f a - 1) = (if f b < f (K + 1) then f b else f b - 1) := h3
   split at h3 <;> split at h3 <;> omega
def zFP (N : Nat) : List Nat → Nat
 | [] => 0
 | x :: r => x + N * zFP N r
theorem zPT {N : Nat} : ∀ (l : List Nat), (∀ x ∈ l, x < N) → zFP N l < N ^ l.length
 | [], _ => by rw [zFP, List.length_nil, Nat.pow_zero]; exact Nat.one_pos
 | x :: r, h => by
  have h1 := zPT r (fun y hy => h y (by simp [hy]))
  have h2 := h x (by simp)
  rw [zFP, List.length_cons, Nat.pow_succ]
  have h3 : N * (zFP N r + 1) ≤ N * N ^ r.length := Nat.mul_le_mul_left _ h1
  rw [Nat.mul_add, Nat.mul_one] at h3
  rw [Nat.mul_comm (N ^ r.length)]
  omega
theorem zMt {N : Nat} : ∀ (l l' : List Nat), l.length = l'.length → (∀ x ∈ l, x < N) → (∀ x ∈ l', x < N) → zFP N l = zFP N l' → l = l'
 | [], [], _, _, _, _ => rfl
 | [], _ :: _, h, _, _, _ => by simp at h
 | _ :: _, [], h, _, _, _ => by simp at h
 | x :: r, y :: q, hl, h, h', e => by
  have h1 := h x (by simp)
  have h2 := h' y (by simp)
  rw [zFP, zFP] at e
  have e1 := congrArg (fun n => n % N) e
  simp only [Nat.add_mul_mod_self_left, Nat.mod_eq_of_lt h1, Nat.mod_eq_of_lt h2] at e1
  subst e1
  have e2 : zFP N r = zFP N q := Nat.eq_of_mul_eq_mul_left (by omega) (show N * zFP N r = N * zFP N q by omega)
  rw [zMt r q (by simpa using hl) (fun z hz => h z (by simp [hz])) (fun z hz => h' z (by simp [hz])) e2]
/-- An endless row of tables. -/
structure Endless (m N : Nat) (M : Tab) (s : Nat → St) (c r : Nat → Nat) : Prop where
 inv : ∀ k, Inv m N M (s k)
 feas : ∀ k, zDf m N (s k)
 cN : ∀ k, c k < N
 neg : ∀ k, at2 (s k).rows m (c k) < 0
 low : ∀ k a, a < c k → 0 ≤ at2 (s k).rows m a
 lea : ∀ k, Least (s k).rows (s k).basis (c k) N m (r k)
 nx : ∀ k, s (k + 1) = piv (s k) (r k) (c k)
def zCh (m : Nat) (s : St) (v : Nat) : Prop := ∃ i, i < m ∧ s.basis.getD i 0 = v
theorem Inv.nodup {m N : Nat} {M : Tab} {s : St} (h : Inv m N M s) {i k : Nat} (hi : i < m) (hk : k < m) (he : s.basis.getD i 0 = s.basis.getD k 0) : i = k := by
 by_cases e : i = k
 ·exact e
 ·have h1 := h.unit i k (by omega) hk
  have h2 := h.unit i i (by omega) hi
  rw [if_neg e] at h1
  rw [if_pos rfl, he] at h2
  have := h.dp
  omega
theorem Inv.cost_basic {m N : Nat} {M : Tab} {s : St} (h : Inv m N M s) {v : Nat} (hb : zCh m s v) : at2 s.rows m v = 0 := by
 obtain ⟨i, hi, rfl⟩ := hb
 rw [h.unit m i (by omega) hi, if_neg (by omega)]
theorem zEp {m N : Nat} {M : Tab} {s : St} (h : Inv m N M s) {r c : Nat} (hr : r < m) (i : Nat) : (Sx.piv s r c).basis.getD i 0 = if i = r then c else s.basis.getD i 0 := by
 show (s.basis.set r c).getD i 0 = _
 rw [getD_set]
 by_cases e : i = r
 ·rw [if_pos ⟨e, by rw [h.b]; exact hr⟩, if_pos e]
 ·rw [if_neg (fun q => e q.1), if_neg e]
section
variable {m N : Nat} {M : Tab} {s : Nat → St} {c r : Nat → Nat}
theorem Endless.den (h : Endless m N M s c r) (k : Nat) : (s (k + 1)).den = at2 (s k).rows (r k) (c k) := by
 rw [h.nx, zIW]
 have := (h.lea k).pos
 unfold sgZ
 rw [if_neg (by omega)]; omega
theorem Endless.entry (h : Endless m N M s c r) (k : Nat) {i j : Nat} (hi : i < m + 1) (hj : j < N + 1) :
 (s k).den * at2 (s (k + 1)).rows i j = if i = r k then (s k).den * at2 (s k).rows (r k) j else at2 (s k).rows i j * at2 (s k).rows (r k) (c k) - at2 (s k).rows i (c k) * at2 (s k).rows (r k) j := by
 have hp := (h.lea k).pos
 rw [h.nx, (h.inv k).entry (h.lea k).lt (h.cN k) (by omega) hi hj]
 have hsg : sgZ (at2 (s k).rows (r k) (c k)) = 1 := by unfold sgZ; rw [if_neg (by omega)]
 rw [hsg, Int.one_mul]
/-- the value -/
def zIA (N m : Nat) (s : St) : Rat := (at2 s.rows m N : Rat) * (s.den : Rat)⁻¹
theorem zD8 {x : Int} (h : 0 < x) : (0 : Rat) < (x : Rat) := by
 have := (Rat.intCast_lt_intCast (a := 0) (b := x)).2 h
 exact this
theorem zIo {m N : Nat} {s : St} (hd : 0 < s.den) : zIA N m s * (s.den : Rat) = (at2 s.rows m N : Rat) := by
 unfold zIA
 have : (s.den : Rat) ≠ 0 := fun e => by
  have := zD8 hd
  rw [e] at this
  exact absurd this (by decide +kernel)
 rw [Rat.mul_assoc, Rat.inv_mul_cancel _ this, Rat.mul_one]
theorem Endless.value (h : Endless m N M s c r) (k : Nat) : zIA N m (s k) ≤ zIA N m (s (k + 1)) ∧ (zIA N m (s k) = zIA N m (s (k + 1)) → at2 (s k).rows (r k) N = 0) := by
 have hd := (h.inv k).dp
 have hd' := (h.inv (k + 1)).dp
 have hp := (h.lea k).pos
 have h1 := h.entry k (i := m) (j := N) (by omega) (by omega)
 have hrm := (h.lea k).lt
 rw [if_neg (by omega), ← h.den] at h1
 have h2 := zIo (m := m) (N := N) hd
 have h3 := zIo (m := m) (N := N) hd'
 have h4 := congrArg (fun x : Int => (x : Rat)) h1
 simp only [Rat.intCast_mul, Rat.intCast_sub] at h4
 rw [← h2, ← h3] at h4
 have hX : at2 (s k).rows m (c k) * at2 (s k).rows (r k) N ≤ 0 := by
  have := Int.mul_nonneg (show 0 ≤ -(at2 (s k).rows m (c k)) by have := h.neg k; omega) (h.feas k (r k) hrm)
  rw [Int.neg_mul] at this; omega
 have hXr : ((at2 (s k).rows m (c k) : Int) : Rat) * ((at2 (s k).rows (r k) N : Int) : Rat) ≤ 0 := by
  rw [← Rat.intCast_mul]
  exact (Rat.intCast_le_intCast (a := _) (b := 0)).2 hX
 have hpd : (0 : Rat) < ((s k).den : Rat) * ((s (k + 1)).den : Rat) := Rat.mul_pos (zD8 hd) (zD8 hd')
 constructor
 ·refine Rat.le_of_mul_le_mul_right ?_ hpd
  grind
 ·intro e
  rw [← e] at h4
  have h5 : ((at2 (s k).rows m (c k) : Int) : Rat) * ((at2 (s k).rows (r k) N : Int) : Rat) = 0 := by grind
  rw [← Rat.intCast_mul] at h5
  have h6 : at2 (s k).rows m (c k) * at2 (s k).rows (r k) N = 0 := Rat.intCast_inj.1 h5
  rcases Int.mul_eq_zero.1 h6 with h7 | h7
  ·have := h.neg k; omega
  ·exact h7
theorem Endless.mono (h : Endless m N M s c r) (a : Nat) : ∀ d, zIA N m (s a) ≤ zIA N m (s (a + d))
 | 0 => Rat.le_refl
 | d + 1 => Rat.le_trans (h.mono a d) (h.value (a + d)).1
/-- with the same basis the value is the same -/
theorem Endless.same (h : Endless m N M s c r) {a b : Nat} (he : (s a).basis = (s b).basis) : zIA N m (s a) = zIA N m (s b) := by
 have h1 := (h.inv a).cross (h.inv b) (i := m) (c := N) (by omega) (by omega)
 rw [if_pos rfl, zB6 (fun k hk => by rw [he, (h.inv b).unit m k (by omega) hk, if_neg (by omega), Int.zero_mul])] at h1
 have da := (h.inv a).dp
 have db := (h.inv b).dp
 have h2 := zIo (m := m) (N := N) da
 have h3 := zIo (m := m) (N := N) db
 have h4 := congrArg (fun x : Int => (x : Rat)) h1
 simp only [Rat.intCast_mul, Rat.intCast_add, Rat.intCast_zero] at h4
 rw [← h2, ← h3] at h4
 have hpd : (0 : Rat) < ((s a).den : Rat) * ((s b).den : Rat) := Rat.mul_pos (zD8 da) (zD8 db)
 have le1 : zIA N m (s a) ≤ zIA N m (s b) := Rat.le_of_mul_le_mul_right (by grind) hpd
 have le2 : zIA N m (s b) ≤ zIA N m (s a) := Rat.le_of_mul_le_mul_right (by grind) hpd
 exact Rat.le_antisymm le1 le2
theorem Endless.still (h : Endless m N M s c r) {a b : Nat} (he : (s a).basis = (s b).basis) {k : Nat} (h1 : a ≤ k) (h2 : k < b) : at2 (s k).rows (r k) N = 0 := by
 refine (h.value k).2 (Rat.le_antisymm (h.value k).1 ?_)
 have g1 := h.mono (k + 1) (b - (k + 1))
 rw [show k + 1 + (b - (k + 1)) = b by omega] at g1
 have g2 := h.mono a (k - a)
 rw [show a + (k - a) = k by omega] at g2
 rw [← h.same he] at g1
 exact Rat.le_trans g1 g2
/-- a variable has the value 0 -/
def Zero (m N : Nat) (s : St) (v : Nat) : Prop := ∀ i, i < m → s.basis.getD i 0 = v → at2 s.rows i N = 0
theorem Endless.zero (h : Endless m N M s c r) {k : Nat} (h0 : at2 (s k).rows (r k) N = 0) (v : Nat) : Zero m N (s k) v ↔ Zero m N (s (k + 1)) v := by
 have hp := (h.lea k).pos
 have hr := (h.lea k).lt
 have hd := (h.inv k).dp
 have hbas : ∀ i, (s (k + 1)).basis.getD i 0 = if i = r k then c k else (s k).basis.getD i 0 := fun i => by rw [h.nx]; exact zEp (h.inv k) hr i
 have hent : ∀ i, i < m → i ≠ r k → (at2 (s (k + 1)).rows i N = 0 ↔ at2 (s k).rows i N = 0) := by
  intro i hi hne
  have h1 := h.entry k (i := i) (j := N) (by omega) (by omega)
  rw [if_neg hne, h0, Int.mul_zero, Int.sub_zero] at h1
  constructor
  ·intro e
   rw [e, Int.mul_zero] at h1
   rcases Int.mul_eq_zero.1 h1.symm with h2 | h2
   ·exact h2
   ·omega
  ·intro e
   rw [e, Int.zero_mul] at h1
   rcases Int.mul_eq_zero.1 h1 with h2 | h2
   ·omega
   ·exact h2
 constructor
 ·intro hz i hi he
  rw [hbas] at he
  by_cases e : i = r k
  ·have h1 := h.entry k (i := i) (j := N) (by omega) (by omega)
   rw [if_pos e, h0, Int.mul_zero] at h1
   rcases Int.mul_eq_zero.1 h1 with h2 | h2
   ·omega
   ·exact h2
  ·rw [if_neg e] at he
   exact (hent i hi e).2 (hz i hi he)
 ·intro hz i hi he
  by_cases e : i = r k
  ·rw [e]; exact h0
  ·exact (hent i hi e).1 (hz i hi (by rw [hbas, if_neg e]; exact he))
theorem Endless.zeros (h : Endless m N M s c r) {a b : Nat} (he : (s a).basis = (s b).basis) (v : Nat) : ∀ d, a + d ≤ b → (Zero m N (s a) v ↔ Zero m N (s (a + d)) v)
 | 0, _ => Iff.rfl
 | d + 1, hd => (h.zeros he v d (by omega)).trans (h.zero (h.still he (by omega) (by omega)) v)
/-- who is in the basis -/
theorem Endless.stays (h : Endless m N M s c r) {k v : Nat} (hb : zCh m (s k) v) (hv : v ≠ (s k).basis.getD (r k) 0) : zCh m (s (k + 1)) v := by
 obtain ⟨i, hi, rfl⟩ := hb
 refine ⟨i, hi, ?_⟩
 rw [h.nx, zEp (h.inv k) (h.lea k).lt, if_neg]
 intro e; rw [e] at hv; exact hv rfl
theorem Endless.was (h : Endless m N M s c r) {k v : Nat} (hb : zCh m (s (k + 1)) v) (hv : v ≠ c k) : zCh m (s k) v := by
 obtain ⟨i, hi, rfl⟩ := hb
 have h1 := zEp (c := c k) (h.inv k) (h.lea k).lt i
 rw [← h.nx] at h1
 rw [h1] at hv ⊢
 by_cases e : i = r k
 ·rw [if_pos e] at hv; exact absurd rfl hv
 ·rw [if_neg e]; exact ⟨i, hi, rfl⟩
theorem Endless.enters (h : Endless m N M s c r) (k : Nat) : ¬ zCh m (s k) (c k) ∧ zCh m (s (k + 1)) (c k) := by
 constructor
 ·intro hb
  have := (h.inv k).cost_basic hb
  have := h.neg k
  omega
 ·refine ⟨r k, (h.lea k).lt, ?_⟩
  rw [h.nx, zEp (h.inv k) (h.lea k).lt, if_pos rfl]
theorem Endless.false (h : Endless m N M s c r) : False := by
 -- a basis comes twice
 obtain ⟨a, b, hab, he⟩ : ∃ a b, a < b ∧ (s a).basis = (s b).basis := by
  have hlt : ∀ k, ∀ x ∈ (s k).basis, x < N := by
   intro k x hx
   obtain ⟨i, hi, rfl⟩ := List.getElem_of_mem hx
   have := (h.inv k).bc i (by rw [← (h.inv k).b]; exact hi)
   simpa [List.getD, hi] using this
  obtain ⟨a, b, h1, h2, h3⟩ := pig (N ^ m) (fun k => zFP N (s k).basis) (fun k _ => by
   have := zPT (s k).basis (hlt k)
   rwa [(h.inv k).b] at this)
  exact ⟨a, b, h1, zMt _ _ (by rw [(h.inv a).b, (h.inv b).b]) (hlt a) (hlt b) h3⟩
 -- who is in some basis between, and not in another one, enters
 have fick : ∀ v, (∃ k, a ≤ k ∧ k ≤ b ∧ zCh m (s k) v) → (∃ k, a ≤ k ∧ k ≤ b ∧ ¬ zCh m (s k) v) → ∃ k, a ≤ k ∧ k < b ∧ c k = v := by
  rintro v ⟨k1, l1, l2, hb⟩ ⟨k2, l3, l4, hn⟩
  apply Classical.byContradiction
  intro hno
  have hno : ∀ k, a ≤ k → k < b → v ≠ c k := fun k q1 q2 e => hno ⟨k, q1, q2, e.symm⟩
  have back : ∀ d k, a ≤ k → k + d ≤ b → zCh m (s (k + d)) v → zCh m (s k) v := by
   intro d
   induction d with
   | zero => intro k _ _ hb; exact hb
   | succ d ih => intro k q1 q2 hb; exact ih k q1 (by omega) (h.was hb (hno (k + d) (by omega) (by omega)))
  have ha : zCh m (s a) v := back (k1 - a) a (Nat.le_refl _) (by omega) (by rw [show a + (k1 - a) = k1 by omega]; exact hb)
  have hbb : zCh m (s b) v := by unfold zCh at ha ⊢; rw [← he]; exact ha
  exact hn (back (b - k2) k2 l3 (by omega) (by rw [show k2 + (b - k2) = b by omega]; exact hbb))
 -- the greatest one that enters
 obtain ⟨k', q1, q2, hmax⟩ : ∃ k', a ≤ k' ∧ k' < b ∧ ∀ k, a ≤ k → k < b → c k ≤ c k' := by
  have : ∀ d, a + d < b + 0 → ∃ k', a ≤ k' ∧ k' ≤ a + d ∧ ∀ k, a ≤ k → k ≤ a + d → c k ≤ c k' := by
   intro d
   induction d with
   | zero => intro _; exact ⟨a, Nat.le_refl _, Nat.le_refl _, fun k h1 h2 => by rw [show k = a by omega]; exact Nat.le_refl _⟩
   | succ d ih =>
    intro hd
    obtain ⟨k', g1, g2, g3⟩ := ih (by omega)
    by_cases hc : c k' ≤ c (a + (d + 1))
    ·refine ⟨a + (d + 1), by omega, Nat.le_refl _, fun k h1 h2 => ?_⟩
     by_cases e : k = a + (d + 1)
     ·rw [e]; exact Nat.le_refl _
     ·exact Nat.le_trans (g3 k h1 (by omega)) hc
    ·refine ⟨k', g1, by omega, fun k h1 h2 => ?_⟩
     by_cases e : k = a + (d + 1)
     ·rw [e]; omega
     ·exact g3 k h1 (by omega)
  obtain ⟨k', g1, g2, g3⟩ := this (b - 1 - a) (by omega)
  exact ⟨k', g1, by omega, fun k h1 h2 => g3 k h1 (by omega)⟩
 obtain ⟨t1, t2⟩ := h.enters k'
 -- it leaves, too
 obtain ⟨k, l1, l2, l3⟩ : ∃ k, a ≤ k ∧ k < b ∧ (s k).basis.getD (r k) 0 = c k' := by
  apply Classical.byContradiction
  intro hno
  have hno : ∀ k, a ≤ k → k < b → c k' ≠ (s k).basis.getD (r k) 0 := fun k q1 q2 e => hno ⟨k, q1, q2, e.symm⟩
  have fwd : ∀ d k, a ≤ k → k + d ≤ b → zCh m (s k) (c k') → zCh m (s (k + d)) (c k') := by
   intro d
   induction d with
   | zero => intro k _ _ hb; exact hb
   | succ d ih => intro k q1 q2 hb; exact h.stays (ih k q1 (by omega) hb) (hno (k + d) (by omega) (by omega))
  have hb := fwd (b - (k' + 1)) (k' + 1) (by omega) (by omega) t2
  rw [show k' + 1 + (b - (k' + 1)) = b by omega] at hb
  have ha : zCh m (s a) (c k') := by unfold zCh at hb ⊢; rw [he]; exact hb
  have := fwd (k' - a) a (Nat.le_refl _) (by omega) ha
  rw [show a + (k' - a) = k' by omega] at this
  exact t1 this
 have hc1 := hmax k l1 l2
 have hlea := h.lea k
 have hc2 : c k ≠ c k' := by
  intro e
  exact (h.enters k).1 ⟨r k, hlea.lt, by rw [l3, e]⟩
 have hlow := h.low k' (c k) (by omega)
 have hX := (h.inv k).cross (h.inv k') (i := m) (c := c k) (by omega) (by have := h.cN k; omega)
 rw [if_pos rfl] at hX
 have d1 := (h.inv k).dp
 have d2 := (h.inv k').dp
 have n1 := h.neg k
 have p1 := Int.mul_nonneg (Int.le_of_lt d1) hlow
 have p2 := Int.mul_pos d2 (show 0 < -(at2 (s k).rows m (c k)) by omega)
 rw [Int.mul_neg] at p2
 obtain ⟨i, hi, hpos⟩ := zOD (n := m) (f := fun i => at2 (s k').rows m ((s k).basis.getD i 0) * at2 (s k).rows i (c k)) (by omega)
 have hpos : 0 < at2 (s k').rows m ((s k).basis.getD i 0) * at2 (s k).rows i (c k) := hpos
 have hnb : ¬ zCh m (s k') ((s k).basis.getD i 0) := by
  intro hb
  rw [(h.inv k').cost_basic hb, Int.zero_mul] at hpos
  omega
 obtain ⟨k2, g1, g2, g3⟩ := fick ((s k).basis.getD i 0) ⟨k, l1, by omega, i, hi, rfl⟩ ⟨k', q1, by omega, hnb⟩
 have hle := hmax k2 g1 g2
 rw [g3] at hle
 have hmp : ∀ x y : Int, 0 < x * y → 0 ≤ x → 0 < x ∧ 0 < y := by
  intro x y hxy hx
  by_cases hx0 : x = 0
  ·rw [hx0, Int.zero_mul] at hxy; omega
  ·refine ⟨by omega, ?_⟩
   apply Classical.byContradiction
   intro hy
   have := Int.mul_nonneg hx (show 0 ≤ -y by omega)
   rw [Int.mul_neg] at this
   omega
 by_cases ht : (s k).basis.getD i 0 = c k'
 ·have hir : i = r k := (h.inv k).nodup hi hlea.lt (by rw [ht, l3])
  rw [ht, hir] at hpos
  have h1 := h.neg k'
  have h2 := Int.mul_pos (show 0 < -(at2 (s k').rows m (c k')) by omega) hlea.pos
  rw [Int.neg_mul] at h2
  omega
 ·have hlow2 := h.low k' ((s k).basis.getD i 0) (by omega)
  obtain ⟨w1, w2⟩ := hmp _ _ hpos hlow2
  have z' : Zero m N (s k') ((s k).basis.getD i 0) := fun j hj e => absurd ⟨j, hj, e⟩ hnb
  have za := (h.zeros he ((s k).basis.getD i 0) (k' - a) (by omega)).2 (by rw [show a + (k' - a) = k' by omega]; exact z')
  have zk := (h.zeros he ((s k).basis.getD i 0) (k - a) (by omega)).1 za
  rw [show a + (k - a) = k by omega] at zk
  have h0 := zk i hi rfl
  have hst := h.still he l1 l2
  have := (hlea.le i hi w2).2 (by rw [h0, hst, Int.zero_mul, Int.zero_mul])
  rw [l3] at this
  omega
end
/-- The algorithm ends. -/
theorem ends {m N w : Nat} {M : Tab} {s : St} (hi : Inv m N M s) (hf : zDf m N s) (hw : w ≤ N) : ∃ K, zB1 m N w (zAn m N w s K) = none := by
 apply Classical.byContradiction
 intro hno
 have hno : ∀ k, zB1 m N w (zAn m N w s k) ≠ none := fun k e => hno ⟨k, e⟩
 have hex : ∀ k, ∃ c r, c < w ∧ at2 (zAn m N w s k).rows m c < 0 ∧ (∀ a, a < c → 0 ≤ at2 (zAn m N w s k).rows m a) ∧ Least (zAn m N w s k).rows (zAn m N w s k).basis c N m r ∧ zAn m N w s (k + 1) = piv (zAn m N w s k) r c := by
  intro k
  cases hs : zB1 m N w (zAn m N w s k) with
  | none => exact absurd hs (hno k)
  | some s' =>
   obtain ⟨c, r, h1, h2, h3, h4, h5⟩ := zIz hs
   refine ⟨c, r, h1, h2, h3, h4, ?_⟩
   show (zB1 m N w (zAn m N w s k)).getD _ = _
   rw [hs, ← h5]; rfl
 have both : ∀ k, Inv m N M (zAn m N w s k) ∧ zDf m N (zAn m N w s k) := by
  intro k
  induction k with
  | zero => exact ⟨hi, hf⟩
  | succ k ih =>
   obtain ⟨c, r, h1, h2, h3, h4, h5⟩ := hex k
   rw [h5]
   have := h4.pos
   exact ⟨ih.1.piv h4.lt (by omega) (by omega), ih.1.feas_step ih.2 (by omega) h4⟩
 exact Endless.false (m := m) (N := N) (M := M) (s := zAn m N w s) (c := fun k => Classical.choose (hex k)) (r := fun k => Classical.choose (Classical.choose_spec (hex k)))
  { inv := fun k => (both k).1
    feas := fun k => (both k).2
    cN := fun k => by have := (Classical.choose_spec (Classical.choose_spec (hex k))).1; omega
    neg := fun k => (Classical.choose_spec (Classical.choose_spec (hex k))).2.1
    low := fun k => (Classical.choose_spec (Classical.choose_spec (hex k))).2.2.1
    lea := fun k => (Classical.choose_spec (Classical.choose_spec (hex k))).2.2.2.1
    nx := fun k => (Classical.choose_spec (Classical.choose_spec (hex k))).2.2.2.2 }
end Go.Ax.Sx
namespace Go.Ax.Sx
open Go.Ax.Dt
/-- a row in place of the last one -/
def zBQ (T : Tab) (m : Nat) (L : List Int) : Tab := T.take m ++ [L]
theorem zJR {T : Tab} {m : Nat} (h : m ≤ T.length) (L : List Int) : (zBQ T m L).length = m + 1 := by
 unfold zBQ
 rw [List.length_append, List.length_take]
 show min m T.length + 1 = m + 1
 omega
theorem zJV {T : Tab} {m : Nat} (h : m ≤ T.length) (L : List Int) (i : Nat) : (zBQ T m L).getD i [] = if i < m then T.getD i [] else if i = m then L else [] := by
 unfold zBQ
 simp only [List.getD, List.getElem?_append, List.length_take, Nat.min_eq_left h]
 by_cases h1 : i < m
 ·rw [if_pos h1, if_pos h1, List.getElem?_take, if_pos h1]
 ·rw [if_neg h1, if_neg h1]
  by_cases h2 : i = m
  ·subst h2; simp
  ·rw [if_neg h2]
   have : [L][i - m]? = none := List.getElem?_eq_none (by simp; omega)
   rw [this]; rfl
theorem zGO {T : Tab} {m : Nat} (h : m ≤ T.length) (L : List Int) {i : Nat} (hi : i < m) (j : Nat) : at2 (zBQ T m L) i j = at2 T i j := by
 unfold at2; rw [zJV h, if_pos hi]
theorem zIM {T : Tab} {m : Nat} (h : m ≤ T.length) (L : List Int) (j : Nat) : at2 (zBQ T m L) m j = L.getD j 0 := by
 unfold at2; rw [zJV h, if_neg (Nat.lt_irrefl _), if_pos rfl]
theorem zBL {f : Nat → Int} {n j : Nat} (hj : j < n) : ((List.range n).map f).getD j 0 = f j := by simp [List.getD, hj]
/-- Only the last column of the other rows is changed. -/
theorem zNA {m : Nat} {D E : Mx} (hD : ∀ c, c < m + 1 → D m c = if c = m then 1 else 0) (hE : ∀ c, c < m + 1 → E m c = if c = m then 1 else 0) (h : ∀ a c, a < m → c < m → D a c = E a c) : det (m + 1) E = det (m + 1) D := by
 let F : Nat → Mx := fun k a => if a < k then E a else D a
 have step : ∀ k, k ≤ m → det (m + 1) (F k) = det (m + 1) D := by
  intro k
  induction k with
  | zero =>
   intro _
   exact zDa (fun a c _ _ => by show (if a < 0 then E a else D a) c = D a c; rw [if_neg (Nat.not_lt_zero _)])
  | succ k ih =>
   intro hk
   have e : det (m + 1) (F (k + 1)) = det (m + 1) (put (F k) k (E k)) := by
    refine zDa (fun a c _ _ => ?_)
    show (if a < k + 1 then E a else D a) c = (if a = k then E k else (if a < k then E a else D a)) c
    by_cases e1 : a = k
    ·subst e1; rw [if_pos (Nat.lt_succ_self _), if_pos rfl]
    ·rw [if_neg e1]
     by_cases e2 : a < k
     ·rw [if_pos (by omega), if_pos e2]
     ·rw [if_neg (by omega), if_neg e2]
   rw [e, zEe (t := fun i => if i = k then 1 else if i = m then E k m - D k m else 0) (show k < m + 1 by omega), if_pos rfl, Int.one_mul]
   ·exact ih (by omega)
   ·intro c hc
    rw [zN7 k m (by omega) (by omega) (by omega) (fun i hi h1 h2 => by rw [if_neg h1, if_neg h2, Int.zero_mul])]
    rw [if_pos rfl, if_neg (by omega), if_pos rfl, Int.one_mul]
    show E k c = (if k < k then E k else D k) c + _ * (if m < k then E m else D m) c
    rw [if_neg (Nat.lt_irrefl _), if_neg (by omega), hD c hc]
    by_cases e3 : c = m
    ·subst e3; rw [if_pos rfl]; omega
    ·rw [if_neg e3, Int.mul_zero, Int.add_zero]
     exact (h k c (by omega) (by omega)).symm
 have h2 := step m (Nat.le_refl _)
 rw [← h2]
 refine zDa (fun a c ha hc => ?_)
 show E a c = (if a < m then E a else D a) c
 by_cases e : a < m
 ·rw [if_pos e]
 ·rw [if_neg e]
  obtain rfl : a = m := by omega
  rw [hD c hc, hE c hc]
/-- the costs of a table, for costs of the columns -/
def zHN (k : Nat → Int) (m N : Nat) (s : St) : List Int := (List.range (N + 1)).map (fun j => s.den * k j - zAC (fun i => k (s.basis.getD i 0) * at2 s.rows i j) m)
def recost (k : Nat → Int) (m N : Nat) (s : St) : St := ⟨zBQ s.rows m (zHN k m N s), s.den, s.basis⟩
def zCS (k : Nat → Int) (m N : Nat) (M : Tab) : Tab := zBQ M m ((List.range (N + 1)).map k)
theorem Inv.recost {m N : Nat} {M : Tab} {s : St} (h : Inv m N M s) (k : Nat → Int) (hM : m ≤ M.length) : Inv m N (zCS k m N M) (recost k m N s) := by
 have hT : m ≤ s.rows.length := by rw [h.n]; omega
 have r1 : ∀ i j, i < m → at2 (Sx.recost k m N s).rows i j = at2 s.rows i j := fun i j hi => zGO hT _ hi j
 have r2 : ∀ j, j < N + 1 → at2 (Sx.recost k m N s).rows m j = s.den * k j - zAC (fun i => k (s.basis.getD i 0) * at2 s.rows i j) m := fun j hj => by
  show at2 (zBQ _ _ _) _ _ = _
  rw [zIM hT]
  exact zBL hj
 have m1 : ∀ i j, i < m → at2 (zCS k m N M) i j = at2 M i j := fun i j hi => zGO hM _ hi j
 have m2 : ∀ j, j < N + 1 → at2 (zCS k m N M) m j = k j := fun j hj => by
  show at2 (zBQ _ _ _) _ _ = _
  rw [zIM hM]
  exact zBL hj
 have bD : ∀ (M : Tab) c, c < m + 1 → zDI M m s.basis m c = if c = m then 1 else 0 := fun M c hc => by
  show (if m < m then zHl M _ else fun c => if c = m then (1 : Int) else 0) c = _
  rw [if_neg (Nat.lt_irrefl _)]
 have bA : ∀ (M : Tab) a c, a < m → zDI M m s.basis a c = at2 M c (s.basis.getD a 0) := fun M a c ha => by
  show (if a < m then zHl M _ else fun c => if c = a then (1 : Int) else 0) c = _
  rw [if_pos ha]; rfl
 have hdet := zNA (D := zDI M m s.basis) (E := zDI (zCS k m N M) m s.basis) (bD M) (bD _) (fun a c ha hc => by rw [bA _ _ _ ha, bA _ _ _ ha, m1 c _ hc])
 refine ⟨zJR hT _, fun x hx => ?_, h.b, h.bc, h.dp, fun i a hi ha => ?_, ?_, fun j hj c hc => ?_⟩
 ·rcases List.mem_append.1 hx with h1 | h1
  ·exact h.row x (List.mem_of_mem_take h1)
  ·rw [List.mem_singleton.1 h1]
   unfold zHN
   rw [List.length_map, List.length_range]
 ·show at2 (Sx.recost k m N s).rows i (s.basis.getD a 0) = if i = a then s.den else 0
  by_cases e : i < m
  ·rw [r1 i _ e, h.unit i a hi ha]
  ·obtain rfl : i = m := by omega
   rw [r2 _ (by have := h.bc a ha; omega), if_neg (by omega)]
   have e2 : ∀ q, q < i → k (s.basis.getD q 0) * at2 s.rows q (s.basis.getD a 0) = if q = a then k (s.basis.getD q 0) * s.den else 0 := by
    intro q hq
    rw [h.unit q a (by omega) ha]
    split
    ·rfl
    ·rw [Int.mul_zero]
   rw [zt e2, zCR (f := fun q => k (s.basis.getD q 0) * s.den) ha, Int.mul_comm]
   omega
 ·obtain ⟨σ, h1, h2⟩ := h.sg
  exact ⟨σ, h1, by show det (m + 1) (zDI (zCS k m N M) m s.basis) = σ * s.den; rw [hdet, h2]⟩
 ·show zAC (fun i => at2 (Sx.recost k m N s).rows i j * zDI (zCS k m N M) m s.basis i c) (m + 1) = s.den * at2 (zCS k m N M) c j
  show zAC (fun i => at2 (Sx.recost k m N s).rows i j * zDI (zCS k m N M) m s.basis i c) m + at2 (Sx.recost k m N s).rows m j * zDI (zCS k m N M) m s.basis m c = _
  rw [bD _ c hc]
  have old := h.sol j hj c hc
  have old : zAC (fun i => at2 s.rows i j * zDI M m s.basis i c) m + at2 s.rows m j * zDI M m s.basis m c = s.den * at2 M c j := old
  rw [bD _ c hc] at old
  by_cases e : c = m
  ·subst e
   rw [if_pos rfl, m2 j hj, r2 j hj]
   have e2 : ∀ i, i < c → at2 (Sx.recost k c N s).rows i j * zDI (zCS k c N M) c s.basis i c = k (s.basis.getD i 0) * at2 s.rows i j := by
    intro i hi
    rw [r1 i j hi, bA _ _ _ hi, m2 _ (by have := h.bc i hi; omega), Int.mul_comm]
   rw [zt e2]
   omega
  ·rw [if_neg e, Int.mul_zero, Int.add_zero] at *
   rw [m1 c j (by omega), ← old]
   exact zt (fun i hi => by rw [r1 i j hi, bA _ _ _ hi, bA _ _ _ hi, m1 c _ (by omega)])
/-- a row times a vector with few elements -/
theorem zLC {T : Tab} {N m i c : Nat} {d : Int} {p : Nat → Nat} {y : Nat → Int} (hc : c < N + 1) (hp : ∀ k, k < m → p k < N + 1) :
 zB0 T N (fun j => (if j = c then d else 0) - zAC (fun k => if j = p k then y k else 0) m) i = at2 T i c * d - zAC (fun k => at2 T i (p k) * y k) m := by
 unfold zB0
 have e1 : ∀ j, j < N + 1 → at2 T i j * ((if j = c then d else 0) - zAC (fun k => if j = p k then y k else 0) m) = (if j = c then at2 T i j * d else 0) + zAC (fun k => if j = p k then -(at2 T i j * y k) else 0) m := by
  intro j hj
  rw [Int.mul_sub, Int.sub_eq_add_neg]
  congr 1
  ·split
   ·rfl
   ·rw [Int.mul_zero]
  ·rw [← Int.mul_neg, show -(zAC (fun k => if j = p k then y k else 0) m) = zAC (fun k => -1 * (if j = p k then y k else 0)) m from by rw [zBT]; omega, ← zBT]
   exact zt (fun k _ => by
    split
    ·rw [Int.neg_mul, Int.one_mul, Int.mul_neg]
    ·rw [Int.mul_zero, Int.mul_zero])
 rw [zt e1, zDE, zCR (f := fun j => at2 T i j * d) hc, zGE, Int.sub_eq_add_neg]
 congr 1
 have e2 : ∀ k, k < m → zAC (fun j => if j = p k then -(at2 T i j * y k) else 0) (N + 1) = -1 * (at2 T i (p k) * y k) := by
  intro k hk
  rw [zCR (f := fun j => -(at2 T i j * y k)) (hp k hk)]
  omega
 rw [zt e2, zBT]
 omega
/-- A column for each condition with a 1 or a -1 there, and nothing else. -/
structure Slack (m N n : Nat) (M : Tab) (e : Nat → Int) : Prop where
 lt : n + m < N + 1
 sq : ∀ i, i < m → e i * e i = 1
 at' : ∀ i k, i < m → k < m → at2 M i (n + k) = if i = k then e i else 0
 cost : ∀ k, k < m → at2 M m (n + k) = 0
/-- Each row is a sum of multiples of the rows of the beginning; the factors stand at the slacks. -/
theorem Inv.combo {m N n : Nat} {M : Tab} {s : St} {e : Nat → Int} (h : Inv m N M s) (hs : Slack m N n M e) {q j : Nat} (hq : q < m + 1) (hj : j < N + 1) :
 at2 s.rows q j = zAC (fun k => at2 s.rows q (n + k) * (e k * at2 M k j)) m + (if q = m then s.den * at2 M m j else 0) := by
 have hlt := hs.lt
 have hp : ∀ k, k < m → n + k < N + 1 := fun k hk => by omega
 have hker := (h.ker (fun v => (if v = j then 1 else 0) - zAC (fun k => if v = n + k then e k * at2 M k j else 0) m) (-(at2 M m j))).1 (fun i hi => by
  rw [zLC hj hp, Int.mul_one]
  by_cases e1 : i = m
  ·subst e1
   rw [if_pos rfl, zB6 (fun k hk => by rw [hs.cost k hk, Int.zero_mul])]
   omega
  ·rw [if_neg e1]
   have e2 : ∀ k, k < m → at2 M i (n + k) * (e k * at2 M k j) = if k = i then e k * (e k * at2 M k j) else 0 := by
    intro k hk
    rw [hs.at' i k (by omega) hk]
    by_cases e3 : i = k
    ·rw [if_pos e3, if_pos e3.symm, e3]
    ·rw [if_neg e3, if_neg (fun q => e3 q.symm), Int.zero_mul]
   rw [zt e2, zCR (f := fun k => e k * (e k * at2 M k j)) (by omega), ← Int.mul_assoc, hs.sq i (by omega), Int.one_mul]
   omega) q hq
 rw [zLC hj hp, Int.mul_one] at hker
 by_cases e1 : q = m
 ·rw [if_pos e1] at hker ⊢
  rw [Int.mul_neg] at hker
  omega
 ·rw [if_neg e1] at hker ⊢
  omega
/-- The beginning: unit columns in the basis. -/
theorem Inv.init {T : Tab} {β : List Nat} {m N : Nat} (h1 : T.length = m + 1) (h2 : ∀ x ∈ T, x.length = N + 1) (h3 : β.length = m) (h4 : ∀ i, i < m → β.getD i 0 < N) (h5 : ∀ i k, i < m + 1 → k < m → at2 T i (β.getD k 0) = if i = k then 1 else 0) : Inv m N T ⟨T, 1, β⟩ := by
 have hu : ∀ a c, a < m + 1 → c < m + 1 → zDI T m β a c = zKg a c := by
  intro a c ha hc
  show (if a < m then zHl T _ else fun c => if c = a then (1 : Int) else 0) c = if a = c then 1 else 0
  by_cases e : a < m
  ·rw [if_pos e]
   show at2 T c _ = _
   rw [h5 c a hc e]
   by_cases e2 : c = a
   ·rw [if_pos e2, if_pos e2.symm]
   ·rw [if_neg e2, if_neg (fun q => e2 q.symm)]
  ·rw [if_neg e]
   by_cases e2 : c = a
   ·rw [if_pos e2]; exact (if_pos e2.symm).symm
   ·rw [if_neg e2]; exact (if_neg (fun q => e2 q.symm)).symm
 refine ⟨h1, h2, h3, h4, by show (0 : Int) < 1; omega, h5, ⟨1, Z, ?_⟩, fun j hj c hc => ?_⟩
 ·show det (m + 1) (zDI T m β) = 1 * 1
  rw [zDa hu, zNb]; rfl
 ·show zAC (fun i => at2 T i j * zDI T m β i c) (m + 1) = 1 * at2 T c j
  have e : ∀ i, i < m + 1 → at2 T i j * zDI T m β i c = if i = c then at2 T i j else 0 := by
   intro i hi
   rw [hu i c hi hc]
   show _ * (if i = c then (1 : Int) else 0) = _
   split
   ·rw [Int.mul_one]
   ·rw [Int.mul_zero]
  rw [zt e, zCR (f := fun i => at2 T i j) hc, Int.one_mul]
end Go.Ax.Sx
namespace Go.Ax.Sx
open Go.Ax.Dt Go.Ax.Rt Go.Ax.Bg
/-- the first conditions that need an artificial unknown -/
def zAe (B : List Rat) : Nat → List Nat
 | 0 => []
 | k + 1 => if (B.getD k 0).num < 0 then zAe B k ++ [k] else zAe B k
abbrev zBm (B : List Rat) (i : Nat) : Nat := (zAe B i).length
abbrev zGi (B : List Rat) : Nat := zBm B B.length
theorem zIF {B : List Rat} : ∀ {n k : Nat}, k ∈ zAe B n ↔ k < n ∧ (B.getD k 0).num < 0
 | 0, k => by simp [zAe]
 | n + 1, k => by
  rw [zAe]
  split
  ·rename_i h
   rw [List.mem_append, zIF, List.mem_singleton]
   constructor
   ·rintro (h1 | h1)
    ·exact ⟨by omega, h1.2⟩
    ·rw [h1]; exact ⟨by omega, h⟩
   ·rintro ⟨h1, h2⟩
    by_cases e : k = n
    ·exact .inr e
    ·exact .inl ⟨by omega, h2⟩
  ·rename_i h
   rw [zIF]
   constructor
   ·rintro ⟨h1, h2⟩; exact ⟨by omega, h2⟩
   ·rintro ⟨h1, h2⟩
    refine ⟨?_, h2⟩
    by_cases e : k = n
    ·rw [e] at h2; exact absurd h2 h
    ·omega
theorem zNq (B : List Rat) (i : Nat) : ∀ d, zBm B i ≤ zBm B (i + d)
 | 0 => Nat.le_refl _
 | d + 1 => by
  refine Nat.le_trans (zNq B i d) ?_
  show _ ≤ (zAe B (i + d + 1)).length
  rw [zAe]
  split
  ·rw [List.length_append]; exact Nat.le_add_right _ _
  ·exact Nat.le_refl _
theorem zNy {B : List Rat} {i : Nat} (h : (B.getD i 0).num < 0) : zBm B (i + 1) = zBm B i + 1 := by
 show (zAe B (i + 1)).length = _
 rw [zAe, if_pos h, List.length_append]; rfl
theorem zIu {B : List Rat} {i k : Nat} (h : (B.getD i 0).num < 0) (hk : i < k) : zBm B i < zBm B k := by
 have h1 := zNq B (i + 1) (k - (i + 1))
 rw [show i + 1 + (k - (i + 1)) = k by omega, zNy h] at h1
 omega
theorem art_inj {B : List Rat} {i k : Nat} (h : (B.getD i 0).num < 0) (h' : (B.getD k 0).num < 0) (e : zBm B i = zBm B k) : i = k := by
 by_cases h1 : i < k
 ·have := zIu h h1; omega
 ·by_cases h2 : k < i
  ·have := zIu h' h2; omega
  ·omega
theorem zKj (B : List Rat) : ∀ i, zBm B i ≤ i
 | 0 => Nat.le_refl _
 | i + 1 => by
  show (zAe B (i + 1)).length ≤ _
  rw [zAe]
  have := zKj B i
  split
  ·rw [List.length_append]
   show zBm B i + 1 ≤ _
   omega
  ·show zBm B i ≤ _
   omega
/-- a row before its sign is considered -/
def zIe (n m a : Nat) (l : List Int) (i j : Nat) : Int := if j < n then l.getD j 0 else if j = n + i then 1 else if j = n + m + a then l.getD n 0 else 0
def zHD (n m a : Nat) (l : List Int) (i : Nat) (neg : Bool) (k j : Nat) : Int := if neg then (if j = n + m + k then 1 else -(zIe n m a l i j)) else zIe n m a l i j
def zDN (n m a : Nat) (l : List Int) (i : Nat) (neg : Bool) (k : Nat) : List Int := (List.range (n + m + a + 1)).map (zHD n m a l i neg k)
/-- a linear program: the conditions, the right sides, and the costs -/
structure Prog where
 A : List (List Rat)
 B : List Rat
 C : List Rat
abbrev Prog.n (p : Prog) : Nat := p.C.length
abbrev Prog.m (p : Prog) : Nat := p.B.length
abbrev Prog.a (p : Prog) : Nat := zGi p.B
abbrev Prog.N (p : Prog) : Nat := p.C.length + p.B.length + zGi p.B
abbrev Prog.neg (p : Prog) (i : Nat) : Bool := decide ((p.B.getD i 0).num < 0)
def Prog.full (p : Prog) (i : Nat) : List Rat := p.A.getD i [] ++ [p.B.getD i 0]
def Prog.whole (p : Prog) (i : Nat) : List Int := zA6 (p.full i)
/-- the factor of a row -/
def Prog.fac (p : Prog) (i : Nat) : Nat := zDH 1 (p.full i)
structure Prog.Ok (p : Prog) : Prop where
 rows : p.A.length = p.B.length
 cols : ∀ r ∈ p.A, r.length = p.C.length
def zBK (p : Prog) : Tab := (List.range p.m).map (fun i => zDN p.n p.m p.a (p.whole i) i (p.neg i) (zBm p.B i))
def zBl (p : Prog) : List Nat := (List.range p.m).map (fun i => if p.neg i then p.n + p.m + zBm p.B i else p.n + i)
def zAX (p : Prog) : St := ⟨zBK p ++ [List.replicate (p.N + 1) 0], 1, zBl p⟩
/-- the sign of a row -/
def Prog.eps (p : Prog) (i : Nat) : Int := if p.neg i then -1 else 1
theorem zL7 (p : Prog) (i : Nat) : p.eps i * p.eps i = 1 := by unfold Prog.eps; split <;> rfl
theorem zCb (p : Prog) : (zBK p).length = p.m := by simp [zBK]
theorem zGU (p : Prog) : (zBl p).length = p.m := by simp [zBl]
theorem zDz {α : Type} {f : Nat → α} {n j : Nat} {d : α} (hj : j < n) : ((List.range n).map f).getD j d = f j := by simp [List.getD, hj]
theorem zHX (p : Prog) {i j : Nat} (hi : i < p.m) (hj : j < p.N + 1) : at2 (zAX p).rows i j = zHD p.n p.m p.a (p.whole i) i (p.neg i) (zBm p.B i) j := by
 unfold at2
 have e : (zAX p).rows.getD i [] = zDN p.n p.m p.a (p.whole i) i (p.neg i) (zBm p.B i) := by
  show (zBK p ++ _).getD i [] = _
  rw [zJs [] (by rw [zCb]; exact hi)]
  exact zDz hi
 rw [e]
 exact zDz hj
theorem zGs (p : Prog) (j : Nat) : at2 (zAX p).rows p.m j = 0 := by
 unfold at2
 have e : (zAX p).rows.getD p.m [] = List.replicate (p.N + 1) 0 := by
  show (zBK p ++ [_]).getD p.m [] = _
  rw [← zCb p]
  exact zPd
 rw [e]
 simp only [List.getD, List.getElem?_replicate]
 split <;> rfl
theorem zGM (p : Prog) {i : Nat} (hi : i < p.m) : (zBl p).getD i 0 = if p.neg i then p.n + p.m + zBm p.B i else p.n + i := zDz hi
/-- the elements of the first table -/
theorem zMV (p : Prog) {i j : Nat} (hi : i < p.m) (hj : j < p.n) : at2 (zAX p).rows i j = p.eps i * (p.whole i).getD j 0 := by
 have hjn : j < p.C.length := hj
 have hii : i < p.B.length := hi
 rw [zHX p hi (by show j < p.C.length + p.B.length + zGi p.B + 1; omega)]
 unfold zHD Prog.eps zIe
 by_cases e : p.neg i = true
 ·rw [if_pos e, if_pos e, if_pos hj, if_neg (by show ¬ j = p.C.length + p.B.length + zBm p.B i; omega)]; omega
 ·rw [if_neg e, if_neg e, if_pos hj]; omega
theorem zJr (p : Prog) {i k : Nat} (hi : i < p.m) (hk : k < p.m) : at2 (zAX p).rows i (p.n + k) = if i = k then p.eps i else 0 := by
 have hii : i < p.B.length := hi
 have hkk : k < p.B.length := hk
 rw [zHX p hi (by show p.C.length + k < p.C.length + p.B.length + zGi p.B + 1; omega)]
 unfold zHD Prog.eps zIe
 have h1 : ¬ p.n + k < p.n := by omega
 have h2 : ¬ p.n + k = p.n + p.m + zBm p.B i := by show ¬ p.C.length + k = p.C.length + p.B.length + zBm p.B i; omega
 have h3 : ¬ p.n + k = p.n + p.m + p.a := by show ¬ p.C.length + k = p.C.length + p.B.length + zGi p.B; omega
 rw [if_neg h2, if_neg h1, if_neg h3]
 by_cases e : i = k
 ·subst e
  rw [if_pos rfl, if_pos rfl]
 ·rw [if_neg (show ¬ p.n + k = p.n + i by omega), if_neg e]
  split <;> rfl
theorem zPu (p : Prog) {i k : Nat} (hi : i < p.m) (hk : k < p.a) : at2 (zAX p).rows i (p.n + p.m + k) = if p.neg i = true ∧ k = zBm p.B i then 1 else 0 := by
 have hii : i < p.B.length := hi
 have hkk : k < zGi p.B := hk
 rw [zHX p hi (by show p.C.length + p.B.length + k < p.C.length + p.B.length + zGi p.B + 1; omega)]
 unfold zHD zIe
 have h1 : ¬ p.n + p.m + k < p.n := by omega
 have h2 : ¬ p.n + p.m + k = p.n + i := by show ¬ p.C.length + p.B.length + k = p.C.length + i; omega
 have h3 : ¬ p.n + p.m + k = p.n + p.m + p.a := by show ¬ p.C.length + p.B.length + k = p.C.length + p.B.length + zGi p.B; omega
 rw [if_neg h1, if_neg h2, if_neg h3]
 by_cases e : p.neg i = true
 ·rw [if_pos e]
  by_cases e2 : k = zBm p.B i
  ·rw [if_pos (by omega), if_pos ⟨e, e2⟩]
  ·rw [if_neg (by omega), if_neg (fun q => e2 q.2)]; rfl
 ·rw [if_neg e, if_neg (fun q => e q.1)]
theorem zJ2 (p : Prog) {i : Nat} (hi : i < p.m) : at2 (zAX p).rows i p.N = p.eps i * (p.whole i).getD p.n 0 := by
 have hii : i < p.B.length := hi
 rw [zHX p hi (by show p.C.length + p.B.length + zGi p.B < p.C.length + p.B.length + zGi p.B + 1; omega)]
 unfold zHD Prog.eps zIe
 have h1 : ¬ p.N < p.n := by show ¬ p.C.length + p.B.length + zGi p.B < p.C.length; omega
 have h2 : ¬ p.N = p.n + i := by show ¬ p.C.length + p.B.length + zGi p.B = p.C.length + i; omega
 have h3 : p.N = p.n + p.m + p.a := rfl
 rw [if_neg h1, if_neg h2, if_pos h3]
 by_cases e : p.neg i = true
 ·have e2 : (p.B.getD i 0).num < 0 := by simpa using e
  have h4 : zBm p.B i < zGi p.B := zIu e2 hii
  rw [if_pos e, if_pos e, if_neg (by show ¬ p.C.length + p.B.length + zGi p.B = p.C.length + p.B.length + zBm p.B i; omega)]; omega
 ·rw [if_neg e, if_neg e]; omega
theorem zN6 (p : Prog) : Slack p.m p.N p.n (zAX p).rows p.eps := by
 refine ⟨by show p.C.length + p.B.length < p.C.length + p.B.length + zGi p.B + 1; omega, fun i _ => zL7 p i, fun i k hi hk => zJr p hi hk, fun k _ => zGs p _⟩
theorem zEq (p : Prog) : Inv p.m p.N (zAX p).rows (zAX p) := by
 refine Inv.init ?_ ?_ (zGU p) ?_ ?_
 ·show (zBK p ++ [_]).length = _
  rw [List.length_append, zCb]; rfl
 ·intro x hx
  rcases List.mem_append.1 hx with h | h
  ·obtain ⟨i, _, rfl⟩ := List.mem_map.1 h
   unfold zDN
   rw [List.length_map, List.length_range]
  ·rw [List.mem_singleton.1 h, List.length_replicate]
 ·intro i hi
  have hii : i < p.B.length := hi
  rw [zGM p hi]
  show (if p.neg i = true then p.C.length + p.B.length + zBm p.B i else p.C.length + i) < p.C.length + p.B.length + zGi p.B
  by_cases e : p.neg i = true
  ·have h3 : zBm p.B i < zGi p.B := zIu (by simpa using e) hii
   rw [if_pos e]
   exact Nat.add_lt_add_left h3 _
  ·rw [if_neg e]
   omega
 ·intro i k hi hk
  have hkk : k < p.B.length := hk
  rw [zGM p hk]
  by_cases him : i = p.m
  ·rw [him, zGs, if_neg (by show ¬ p.B.length = k; omega)]
  ·have hi' : i < p.m := Nat.lt_of_le_of_ne (Nat.le_of_lt_succ hi) him
   by_cases e : p.neg k = true
   ·have e2 : (p.B.getD k 0).num < 0 := by simpa using e
    rw [if_pos e, zPu p hi' (zIu e2 hkk)]
    by_cases e3 : i = k
    ·subst e3; rw [if_pos ⟨e, rfl⟩, if_pos rfl]
    ·rw [if_neg e3, if_neg]
     rintro ⟨q1, q2⟩
     exact e3 (art_inj (by simpa using q1) e2 q2.symm)
   ·rw [if_neg e, zJr p hi' hk]
    by_cases e3 : i = k
    ·subst e3; rw [if_pos rfl, if_pos rfl]; unfold Prog.eps; rw [if_neg e]
    ·rw [if_neg e3, if_neg e3]
theorem zEr (p : Prog) (hp : p.Ok) {i : Nat} (hi : i < p.m) : (p.full i).length = p.n + 1 := by
 unfold Prog.full
 rw [List.length_append, hp.cols _ (zAr [] (by rw [hp.rows]; exact hi))]; rfl
theorem zLo (p : Prog) (hp : p.Ok) {i j : Nat} (hi : i < p.m) (hj : j < p.n + 1) : (p.whole i).getD j 0 = ((p.full i).getD j 0).num * ((p.fac i / ((p.full i).getD j 0).den : Nat) : Int) := by
 unfold Prog.whole zA6
 rw [zCe _ _ 0 _ _ (by rw [zEr p hp hi]; exact hj)]
 rfl
theorem zHI (p : Prog) (hp : p.Ok) {i j : Nat} (hi : i < p.m) (hj : j < p.n + 1) : (((p.whole i).getD j 0 : Int) : Rat) = ((p.fac i : Nat) : Rat) * (p.full i).getD j 0 := by
 rw [zLo p hp hi hj]
 exact zLX (zAr 0 (by rw [zEr p hp hi]; exact hj))
theorem full_x (p : Prog) (hp : p.Ok) {i j : Nat} (hi : i < p.m) (hj : j < p.n) : (p.full i).getD j 0 = (p.A.getD i []).getD j 0 := by
 unfold Prog.full
 rw [zJs 0 (by rw [hp.cols _ (zAr [] (by rw [hp.rows]; exact hi))]; exact hj)]
theorem zPA (p : Prog) (hp : p.Ok) {i : Nat} (hi : i < p.m) : (p.full i).getD p.n 0 = p.B.getD i 0 := by
 unfold Prog.full
 have := hp.cols _ (zAr [] (show i < p.A.length by rw [hp.rows]; exact hi))
 show (p.A.getD i [] ++ [_]).getD p.C.length 0 = _
 rw [← this]
 exact zPd
theorem zLB (p : Prog) (hp : p.Ok) : zDf p.m p.N (zAX p) := by
 intro i hi
 rw [zJ2 p hi, zLo p hp hi (Nat.lt_succ_self _), zPA p hp hi]
 have h2 : (0 : Int) ≤ ((p.fac i / (p.B.getD i 0).den : Nat) : Int) := Int.natCast_nonneg _
 unfold Prog.eps
 split
 ·rename_i e
  have e2 : (p.B.getD i 0).num < 0 := by simpa using e
  have := Int.mul_nonneg (show 0 ≤ -(p.B.getD i 0).num by omega) h2
  rw [Int.neg_mul] at this
  omega
 ·rename_i e
  have e2 : ¬ (p.B.getD i 0).num < 0 := by simpa using e
  have := Int.mul_nonneg (show 0 ≤ (p.B.getD i 0).num by omega) h2
  omega
theorem zE4 (f : Nat → Int) (a : Nat) : ∀ b, zAC f (a + b) = zAC f a + zAC (fun k => f (a + k)) b
 | 0 => by show zAC f a = zAC f a + 0; omega
 | b + 1 => by
  show zAC f (a + b) + f (a + b) = zAC f a + (zAC (fun k => f (a + k)) b + f (a + b))
  rw [zE4 f a b]; omega
theorem zFW : ∀ {n : Nat} {f : Nat → Int}, (∀ i, i < n → 0 ≤ f i) → 0 ≤ zAC f n
 | 0, f, _ => Int.le_refl 0
 | n + 1, f, h => by
  have h1 := zFW (n := n) (f := f) (fun i hi => h i (by omega))
  have h2 := h n (Nat.lt_succ_self n)
  show 0 ≤ zAC f n + f n
  omega
theorem zLr : ∀ {n : Nat} {f : Nat → Int}, (∀ i, i < n → 0 ≤ f i) → zAC f n = 0 → ∀ i, i < n → f i = 0
 | 0, f, _, _, i, hi => absurd hi (Nat.not_lt_zero i)
 | n + 1, f, h, h0, i, hi => by
  have h1 := zFW (n := n) (f := f) (fun i hi => h i (by omega))
  have h2 := h n (Nat.lt_succ_self n)
  have h0 : zAC f n + f n = 0 := h0
  by_cases e : i = n
  ·rw [e]; omega
  ·exact zLr (n := n) (fun i hi => h i (by omega)) (by omega) i (by omega)
theorem zEs {m N w : Nat} {M : Tab} {s : St} (hi : Inv m N M s) (hf : zDf m N s) (hw : w ≤ N) : ∀ K, Inv m N M (zAn m N w s K) ∧ zDf m N (zAn m N w s K)
 | 0 => ⟨hi, hf⟩
 | K + 1 => by
  obtain ⟨h1, h2⟩ := zEs hi hf hw K
  show Inv m N M ((zB1 m N w (zAn m N w s K)).getD _) ∧ zDf m N ((zB1 m N w (zAn m N w s K)).getD _)
  cases hs : zB1 m N w (zAn m N w s K) with
  | none => exact ⟨h1, h2⟩
  | some s' =>
   obtain ⟨c, r, g1, g2, g3, g4, rfl⟩ := zIz hs
   have := g4.pos
   exact ⟨h1.piv g4.lt (by omega) (by omega), h1.feas_step h2 (by omega) g4⟩
/-- the column that enters, or w -/
def zCX (m w : Nat) (s : St) : Nat := zCW s.rows m w 0
theorem zLk {m N w : Nat} {s : St} (h : zB1 m N w s = none) :
 (zCX m w s = w ∧ ∀ a, a < w → 0 ≤ at2 s.rows m a) ∨ (zCX m w s < w ∧ at2 s.rows m (zCX m w s) < 0 ∧ ∀ i, i < m → at2 s.rows i (zCX m w s) ≤ 0) := by
 unfold zB1 at h
 obtain ⟨e1, e2, e3, e4⟩ := zE7 s.rows m w 0
 split at h
 ·rename_i h1
  exact .inl ⟨h1, fun a ha => e3 a (Nat.zero_le _) (by rw [h1]; exact ha)⟩
 ·split at h
  ·rename_i h1 _ hl
   exact .inr ⟨by unfold zCX; omega, e4 (by omega), zH0 _ _ _ _ _ hl⟩
  ·cases h
/-- The vector of a column: it satisfies the conditions of the beginning. -/
def zBc (m : Nat) (s : St) (c j : Nat) : Int := (if j = c then s.den else 0) - zAC (fun k => if j = s.basis.getD k 0 then at2 s.rows k c else 0) m
section
variable {m N w : Nat} {M : Tab} {s : St}
theorem Inv.vec (h : Inv m N M s) {c : Nat} (hc : c < N + 1) {i : Nat} (hi : i < m + 1) : zB0 M N (zBc m s c) i = if i = m then at2 s.rows m c else 0 := by
 have := (h.ker (zBc m s c) (-(at2 s.rows m c))).2 (fun i hi => by
  rw [show zB0 s.rows N (zBc m s c) i = at2 s.rows i c * s.den - zAC (fun k => at2 s.rows i (s.basis.getD k 0) * at2 s.rows k c) m from zLC hc (fun k hk => by have := h.bc k hk; omega)]
  by_cases e : i = m
  ·subst e
   rw [if_pos rfl, zB6 (fun k hk => by rw [h.unit i k (by omega) hk, if_neg (by omega), Int.zero_mul]), Int.mul_neg, Int.mul_comm]
   omega
  ·rw [if_neg e]
   have e3 : ∀ k, k < m → at2 s.rows i (s.basis.getD k 0) * at2 s.rows k c = if k = i then s.den * at2 s.rows k c else 0 := by
    intro k hk
    rw [h.unit i k hi hk]
    by_cases e4 : i = k
    ·rw [if_pos e4, if_pos e4.symm]
    ·rw [if_neg e4, if_neg (fun q => e4 q.symm), Int.zero_mul]
   rw [zt e3, zCR (f := fun k => s.den * at2 s.rows k c) (by omega), Int.mul_comm]
   omega) i hi
 by_cases e : i = m
 ·rw [if_pos e] at this ⊢; omega
 ·rw [if_neg e] at this ⊢; omega
theorem Inv.vec_basic (h : Inv m N M s) {c k : Nat} (hk : k < m) : zBc m s c (s.basis.getD k 0) = (if s.basis.getD k 0 = c then s.den else 0) - at2 s.rows k c := by
 unfold zBc
 congr 1
 rw [zEF k hk (fun i hi hne => by rw [if_neg (fun e => hne (h.nodup hi hk e.symm))]), if_pos rfl]
theorem zGN {c j : Nat} (hn : ∀ k, k < m → s.basis.getD k 0 ≠ j) : zBc m s c j = if j = c then s.den else 0 := by
 unfold zBc
 rw [zB6 (fun k hk => by rw [if_neg (fun e => hn k hk e.symm)]), Int.sub_zero]
theorem Inv.vec_end (h : Inv m N M s) : zBc m s N N = s.den := by
 rw [zGN (fun k hk => by have := h.bc k hk; omega), if_pos rfl]
/-- the values are not negative -/
theorem Inv.vec_val (h : Inv m N M s) (hf : zDf m N s) {j : Nat} (hj : j < N) : zBc m s N j ≤ 0 := by
 by_cases hb : zCh m s j
 ·obtain ⟨k, hk, rfl⟩ := hb
  rw [h.vec_basic hk, if_neg (by omega)]
  have := hf k hk
  omega
 ·rw [zGN (fun k hk e => hb ⟨k, hk, e⟩), if_neg (by omega)]
  exact Int.le_refl 0
/-- a direction without an end -/
theorem Inv.vec_ray (h : Inv m N M s) {c : Nat} (hle : ∀ i, i < m → at2 s.rows i c ≤ 0) (j : Nat) : 0 ≤ zBc m s c j := by
 have hd := h.dp
 by_cases hb : zCh m s j
 ·obtain ⟨k, hk, rfl⟩ := hb
  rw [h.vec_basic hk]
  have := hle k hk
  split <;> omega
 ·rw [zGN (fun k hk e => hb ⟨k, hk, e⟩)]
  split <;> omega
end
theorem zLQ {T : Tab} {m : Nat} (h : m ≤ T.length) (L L' : List Int) : zBQ (zBQ T m L) m L' = zBQ T m L' := by
 unfold zBQ
 congr 1
 rw [List.take_append_of_le_length (by rw [List.length_take]; omega), List.take_take, Nat.min_self]
theorem zNQ {T : Tab} {m N : Nat} (h : m ≤ T.length) (k k' : Nat → Int) : zCS k m N (zCS k' m N T) = zCS k m N T := zLQ h _ _
theorem zJa {k : Nat → Int} {m N : Nat} {s : St} (hT : m ≤ s.rows.length) (hf : zDf m N s) : zDf m N (recost k m N s) := fun i hi => by
 show 0 ≤ at2 (zBQ _ _ _) i N
 rw [zGO hT _ hi]; exact hf i hi
theorem zIZ {k : Nat → Int} {m N : Nat} {T : Tab} (hT : m ≤ T.length) (x : Nat → Int) : zB0 (zCS k m N T) N x m = zAC (fun j => k j * x j) (N + 1) := by
 unfold zB0
 refine zt (fun j hj => ?_)
 show at2 (zBQ _ _ _) m j * _ = _
 rw [zIM hT, zBL hj]
theorem cost_row {k : Nat → Int} {m N : Nat} {T : Tab} (hT : m ≤ T.length) (x : Nat → Int) {i : Nat} (hi : i < m) : zB0 (zCS k m N T) N x i = zB0 T N x i := by
 unfold zB0
 refine zt (fun j hj => ?_)
 show at2 (zBQ _ _ _) i j * _ = _
 rw [zGO hT _ hi]
theorem zJu {k : Nat → Int} {m N : Nat} {T : Tab} (hT : m ≤ T.length) {j : Nat} (hj : j < N + 1) : at2 (zCS k m N T) m j = k j := by
 show at2 (zBQ _ _ _) m j = _
 rw [zIM hT, zBL hj]
theorem zID {k : Nat → Int} {m N : Nat} {T : Tab} (hT : m ≤ T.length) {i : Nat} (hi : i < m) (j : Nat) : at2 (zCS k m N T) i j = at2 T i j := by
 show at2 (zBQ _ _ _) i j = _
 rw [zGO hT _ hi]
theorem zQx (p : Prog) : (zAX p).rows.length = p.m + 1 := (zEq p).n
theorem zBf (p : Prog) : p.m ≤ (zAX p).rows.length := by rw [zQx]; exact Nat.le_succ _
/-- the costs of the first phase -/
def zC6 (p : Prog) (j : Nat) : Int := if p.n + p.m ≤ j ∧ j < p.N then 1 else 0
theorem zK3 (p : Prog) (j : Nat) : 0 ≤ zC6 p j := by unfold zC6; split <;> omega
def ph1 (p : Prog) : St := recost (zC6 p) p.m p.N (zAX p)
def M1 (p : Prog) : Tab := zCS (zC6 p) p.m p.N (zAX p).rows
theorem zMI (p : Prog) : Inv p.m p.N (M1 p) (ph1 p) := (zEq p).recost (zC6 p) (zBf p)
theorem zKa (p : Prog) (hp : p.Ok) : zDf p.m p.N (ph1 p) := zJa (zBf p) (zLB p hp)
/-- The first phase has no direction without an end. -/
theorem zNX {p : Prog} {s : St} (h : Inv p.m p.N (M1 p) s) {c : Nat} (hc : c < p.N) (hneg : at2 s.rows p.m c < 0) (hle : ∀ i, i < p.m → at2 s.rows i c ≤ 0) : False := by
 have h1 := h.vec (c := c) (i := p.m) (Nat.lt_succ_of_lt hc) (Nat.lt_succ_self _)
 have h2 := zIZ (k := zC6 p) (N := p.N) (zBf p) (zBc p.m s c)
 have h2 : zB0 (M1 p) p.N (zBc p.m s c) p.m = zAC (fun j => zC6 p j * zBc p.m s c j) (p.N + 1) := h2
 rw [h1, if_pos rfl] at h2
 have h3 : 0 ≤ zAC (fun j => zC6 p j * zBc p.m s c j) (p.N + 1) := zFW (fun j _ => Int.mul_nonneg (zK3 p j) (h.vec_ray hle j))
 omega
/-- its value -/
theorem zHJ {p : Prog} {s : St} (h : Inv p.m p.N (M1 p) s) (hf : zDf p.m p.N s) :
 at2 s.rows p.m p.N ≤ 0 ∧ (at2 s.rows p.m p.N = 0 → ∀ i, i < p.m → p.n + p.m ≤ s.basis.getD i 0 → at2 s.rows i p.N = 0) := by
 have h1 := h.vec (c := p.N) (i := p.m) (Nat.lt_succ_self _) (Nat.lt_succ_self _)
 have h2 : zB0 (M1 p) p.N (zBc p.m s p.N) p.m = zAC (fun j => zC6 p j * zBc p.m s p.N j) (p.N + 1) := zIZ (k := zC6 p) (N := p.N) (zBf p) (zBc p.m s p.N)
 rw [h1, if_pos rfl] at h2
 have hz : ∀ j, j < p.N + 1 → 0 ≤ zC6 p j * -(zBc p.m s p.N j) := by
  intro j hj
  by_cases e : j = p.N
  ·have : zC6 p j = 0 := by unfold zC6; rw [if_neg (by omega)]
   rw [this, Int.zero_mul]; exact Int.le_refl 0
  ·have := h.vec_val hf (j := j) (Nat.lt_of_le_of_ne (Nat.le_of_lt_succ hj) e)
   exact Int.mul_nonneg (zK3 p j) (by omega)
 have h3 : zAC (fun j => zC6 p j * -(zBc p.m s p.N j)) (p.N + 1) = -(at2 s.rows p.m p.N) := by
  have : zAC (fun j => zC6 p j * -(zBc p.m s p.N j)) (p.N + 1) = zAC (fun j => -1 * (zC6 p j * zBc p.m s p.N j)) (p.N + 1) := zt (fun j _ => by rw [Int.mul_neg]; omega)
  rw [this, zBT, ← h2]; omega
 have h4 := zFW hz
 refine ⟨by omega, fun h0 i hi hb => ?_⟩
 have hbc := h.bc i hi
 have h5 := zLr hz (by rw [h3, h0]; rfl) (s.basis.getD i 0) (Nat.lt_succ_of_lt hbc)
 have h6 : zC6 p (s.basis.getD i 0) = 1 := by unfold zC6; rw [if_pos ⟨hb, hbc⟩]
 rw [h6, Int.one_mul, h.vec_basic hi, if_neg (Nat.ne_of_lt hbc)] at h5
 omega
/-- the first element of a row that is not 0 -/
def nzN (T : Tab) (i : Nat) : Nat → Nat → Nat
 | 0, c => c
 | f + 1, c => if at2 T i c ≠ 0 then c else nzN T i f (c + 1)
theorem zPW (T : Tab) (i : Nat) : ∀ f c, c ≤ nzN T i f c ∧ nzN T i f c ≤ c + f ∧ (∀ a, c ≤ a → a < nzN T i f c → at2 T i a = 0) ∧ (nzN T i f c < c + f → at2 T i (nzN T i f c) ≠ 0)
 | 0, c => ⟨Nat.le_refl _, Nat.le_refl _, fun a h1 h2 => absurd h2 (by rw [nzN]; omega), fun h => absurd h (by rw [nzN]; omega)⟩
 | f + 1, c => by
  rw [nzN]
  by_cases h : at2 T i c ≠ 0
  ·rw [if_pos h]
   exact ⟨Nat.le_refl _, by omega, fun a h1 h2 => absurd h2 (by omega), fun _ => h⟩
  ·rw [if_neg h]
   obtain ⟨h1, h2, h3, h4⟩ := zPW T i f (c + 1)
   refine ⟨by omega, by omega, fun a ha hb => ?_, fun hb => h4 (by omega)⟩
   by_cases e : a = c
   ·subst e; omega
   ·exact h3 a (by omega) hb
/-- an artificial unknown leaves the basis -/
def zB7 (w : Nat) (s : St) (k : Nat) : St := if s.basis.getD k 0 < w then s else if nzN s.rows k w 0 = w then s else piv s k (nzN s.rows k w 0)
def zBb (w : Nat) (s : St) : Nat → St
 | 0 => s
 | k + 1 => zB7 w (zBb w s k) k
/-- artificial unknowns are 0; the first k are of no use any more -/
structure Dry (m N w : Nat) (s : St) (k : Nat) : Prop where
 z : ∀ i, i < m → w ≤ s.basis.getD i 0 → at2 s.rows i N = 0
 r : ∀ i, i < k → w ≤ s.basis.getD i 0 → ∀ j, j < w → at2 s.rows i j = 0
theorem zKh {d x y : Int} (hd : 0 < d) (h : d * x = y) (hy : y = 0) : x = 0 := by
 rw [hy] at h
 rcases Int.mul_eq_zero.1 h with h1 | h1
 ·omega
 ·exact h1
theorem zPH {d x y : Int} (hd : 0 < d) (h : d * x = y) (hy : 0 ≤ y) : 0 ≤ x := Int.le_of_mul_le_mul_left (by rw [Int.mul_zero, h]; exact hy) hd
section
variable {m N w : Nat} {M : Tab} {s : St}
theorem Inv.drive (h : Inv m N M s) (hf : zDf m N s) {k : Nat} (hd : Dry m N w s k) (hk : k < m) (hw : w ≤ N) :
 Inv m N M (zB7 w s k) ∧ zDf m N (zB7 w s k) ∧ Dry m N w (zB7 w s k) (k + 1) := by
 unfold zB7
 obtain ⟨e1, e2, e3, e4⟩ := zPW s.rows k w 0
 by_cases hb : s.basis.getD k 0 < w
 ·rw [if_pos hb]
  refine ⟨h, hf, hd.z, fun i hi hb' => ?_⟩
  by_cases e : i = k
  ·rw [e] at hb'; omega
  ·exact hd.r i (by omega) hb'
 ·rw [if_neg hb]
  by_cases hn : nzN s.rows k w 0 = w
  ·rw [if_pos hn]
   refine ⟨h, hf, hd.z, fun i hi hb' => ?_⟩
   by_cases e : i = k
   ·rw [e]; exact fun j hj => e3 j (Nat.zero_le _) (by omega)
   ·exact hd.r i (by omega) hb'
  ·rw [if_neg hn]
   have hp := e4 (by omega)
   have hcw : nzN s.rows k w 0 < w := by omega
   generalize nzN s.rows k w 0 = c at *
   have hz := hd.z k hk (by omega)
   have hpz := zP2 hp
   have hbas : ∀ i, (Sx.piv s k c).basis.getD i 0 = if i = k then c else s.basis.getD i 0 := fun i => zEp h hk i
   have hN : ∀ i, i < m → s.den * at2 (Sx.piv s k c).rows i N = at2 s.rows i N * (sgZ (at2 s.rows k c) * at2 s.rows k c) := by
    intro i hi
    rw [h.entry hk (show c < N by omega) hp (show i < m + 1 by omega) (Nat.lt_succ_self N), hz]
    by_cases e : i = k
    ·rw [if_pos e, e, hz, Int.mul_zero, Int.mul_zero, Int.zero_mul]
    ·rw [if_neg e, Int.mul_zero, Int.sub_zero, Int.mul_left_comm]
   refine ⟨h.piv hk (by omega) hp, fun i hi => zPH h.dp (hN i hi) (Int.mul_nonneg (hf i hi) (Int.le_of_lt hpz)), fun i hi hb' => ?_, fun i hi hb' j hj => ?_⟩
   ·rw [hbas] at hb'
    by_cases e : i = k
    ·rw [if_pos e] at hb'; omega
    ·rw [if_neg e] at hb'
     exact zKh h.dp (hN i hi) (by rw [hd.z i hi hb', Int.zero_mul])
   ·rw [hbas] at hb'
    by_cases e : i = k
    ·rw [if_pos e] at hb'; omega
    ·rw [if_neg e] at hb'
     have q1 := hd.r i (by omega) hb' j hj
     have q2 := hd.r i (by omega) hb' c hcw
     refine zKh h.dp (h.entry hk (show c < N by omega) hp (show i < m + 1 by omega) (show j < N + 1 by omega)) ?_
     rw [if_neg e, q1, q2, Int.zero_mul, Int.zero_mul]
     exact Int.mul_zero _
theorem Inv.drives (h : Inv m N M s) (hf : zDf m N s) (hd : ∀ i, i < m → w ≤ s.basis.getD i 0 → at2 s.rows i N = 0) (hw : w ≤ N) :
 ∀ k, k ≤ m → Inv m N M (zBb w s k) ∧ zDf m N (zBb w s k) ∧ Dry m N w (zBb w s k) k
 | 0, _ => ⟨h, hf, hd, fun i hi => absurd hi (Nat.not_lt_zero i)⟩
 | k + 1, hk => by
  obtain ⟨h1, h2, h3⟩ := Inv.drives h hf hd hw k (by omega)
  exact h1.drive h2 h3 (by omega) hw
theorem Inv.dry_step (h : Inv m N M s) (hd : Dry m N w s m) {r c : Nat} (hw : w ≤ N) (hc : c < w) (hl : Least s.rows s.basis c N m r) : Dry m N w (Sx.piv s r c) m := by
 have hp := hl.pos
 have hr := hl.lt
 have hbas : ∀ i, (Sx.piv s r c).basis.getD i 0 = if i = r then c else s.basis.getD i 0 := fun i => zEp h hr i
 have key : ∀ i, i < m → w ≤ (Sx.piv s r c).basis.getD i 0 → ∀ j, (j < w ∨ j = N) → at2 (Sx.piv s r c).rows i j = 0 := by
  intro i hi hb j hj
  rw [hbas] at hb
  by_cases e : i = r
  ·rw [if_pos e] at hb; omega
  ·rw [if_neg e] at hb
   have q1 : at2 s.rows i j = 0 := by
    rcases hj with hj | hj
    ·exact hd.r i hi hb j hj
    ·rw [hj]; exact hd.z i hi hb
   have q2 := hd.r i hi hb c hc
   refine zKh h.dp (h.entry hr (show c < N by omega) (by omega) (show i < m + 1 by omega) (show j < N + 1 by omega)) ?_
   rw [if_neg e, q1, q2, Int.zero_mul, Int.zero_mul]
   exact Int.mul_zero _
 exact ⟨fun i hi hb => key i hi hb N (.inr Z), fun i hi hb j hj => key i hi hb j (.inl hj)⟩
theorem zNK (h : Inv m N M s) (hf : zDf m N s) (hd : Dry m N w s m) (hw : w ≤ N) : ∀ K, Dry m N w (zAn m N w s K) m
 | 0 => hd
 | K + 1 => by
  have h1 := zNK h hf hd hw K
  have h2 := (zEs h hf hw K).1
  show Dry m N w ((zB1 m N w (zAn m N w s K)).getD _) m
  cases hs : zB1 m N w (zAn m N w s K) with
  | none => exact h1
  | some s' =>
   obtain ⟨c, r, g1, g2, g3, g4, rfl⟩ := zIz hs
   exact h2.dry_step h1 hw g1 g4
theorem zPB {k : Nat → Int} (hT : m ≤ s.rows.length) (hd : Dry m N w s m) : Dry m N w (recost k m N s) m := by
 refine ⟨fun i hi hb => ?_, fun i hi hb j hj => ?_⟩
 ·show at2 (zBQ _ _ _) i N = 0
  rw [zGO hT _ hi]; exact hd.z i hi hb
 ·show at2 (zBQ _ _ _) i j = 0
  rw [zGO hT _ hi]; exact hd.r i hi hb j hj
end
/-- the costs of the second phase -/
def zBh (p : Prog) (j : Nat) : Int := if j < p.n then -((zA6 p.C).getD j 0) else 0
def M2 (p : Prog) : Tab := zCS (zBh p) p.m p.N (zAX p).rows
/-- the table after K steps of the first phase -/
def zCL (p : Prog) (K : Nat) : St := zAn p.m p.N (p.n + p.m) (ph1 p) K
/-- the table before the second phase -/
def mid (p : Prog) (K : Nat) : St := if p.a = 0 then zAX p else zBb (p.n + p.m) (zCL p K) p.m
def ph2 (p : Prog) (K : Nat) : St := recost (zBh p) p.m p.N (mid p K)
def zD2 (p : Prog) (K L : Nat) : St := zAn p.m p.N (p.n + p.m) (ph2 p K) L
theorem zF5 (p : Prog) : p.n + p.m ≤ p.N := Nat.le_add_right _ _
theorem zEt (p : Prog) (hp : p.Ok) (K : Nat) : Inv p.m p.N (M1 p) (zCL p K) ∧ zDf p.m p.N (zCL p K) := zEs (zMI p) (zKa p hp) (zF5 p) K
/-- The second phase begins well. -/
theorem mid_keep (p : Prog) (hp : p.Ok) (K : Nat) (h0 : 0 < p.a → at2 (zCL p K).rows p.m p.N = 0) :
 (∃ M, Inv p.m p.N M (mid p K) ∧ p.m ≤ M.length ∧ zCS (zBh p) p.m p.N M = M2 p) ∧ zDf p.m p.N (mid p K) ∧ Dry p.m p.N (p.n + p.m) (mid p K) p.m := by
 unfold mid
 by_cases e : p.a = 0
 ·rw [if_pos e]
  have hno : ∀ i, i < p.m → ¬ p.n + p.m ≤ (zAX p).basis.getD i 0 := by
   intro i hi
   have h1 := (zEq p).bc i hi
   have h2 : p.N = p.n + p.m + p.a := rfl
   omega
  exact ⟨⟨_, zEq p, zBf p, Z⟩, zLB p hp, fun i hi hb => absurd hb (hno i hi), fun i hi hb => absurd hb (hno i hi)⟩
 ·rw [if_neg e]
  obtain ⟨h1, h2⟩ := zEt p hp K
  obtain ⟨_, hz⟩ := zHJ h1 h2
  obtain ⟨g1, g2, g3⟩ := h1.drives h2 (hz (h0 (by omega))) (zF5 p) p.m (Nat.le_refl _)
  refine ⟨⟨_, g1, ?_, zNQ (zBf p) _ _⟩, g2, g3⟩
  have : (M1 p).length = p.m + 1 := zJR (zBf p) _
  omega
theorem zKf (p : Prog) (hp : p.Ok) (K : Nat) (h0 : 0 < p.a → at2 (zCL p K).rows p.m p.N = 0) :
 Inv p.m p.N (M2 p) (ph2 p K) ∧ zDf p.m p.N (ph2 p K) ∧ Dry p.m p.N (p.n + p.m) (ph2 p K) p.m := by
 obtain ⟨⟨M, h1, h2, h3⟩, h4, h5⟩ := mid_keep p hp K h0
 have hT : p.m ≤ (mid p K).rows.length := by rw [h1.n]; exact Nat.le_succ _
 have h6 := h1.recost (zBh p) h2
 rw [h3] at h6
 exact ⟨h6, zJa hT h4, zPB hT h5⟩
theorem zJD (p : Prog) (hp : p.Ok) (K L : Nat) (h0 : 0 < p.a → at2 (zCL p K).rows p.m p.N = 0) :
 Inv p.m p.N (M2 p) (zD2 p K L) ∧ zDf p.m p.N (zD2 p K L) ∧ Dry p.m p.N (p.n + p.m) (zD2 p K L) p.m := by
 obtain ⟨h1, h2, h3⟩ := zKf p hp K h0
 obtain ⟨h4, h5⟩ := zEs h1 h2 (zF5 p) L
 exact ⟨h4, h5, zNK h1 h2 h3 (zF5 p) L⟩
end Go.Ax.Sx
namespace Go.Ax.Sx
open Go.Ax.Dt Go.Ax.Rt Go.Ax.Bg
structure Res where
 kind : Nat
 X : List Rat
 Y : List Rat
 R : List Rat
 V : Rat
/-- elements at the places of the basis -/
def zB3 (n : Nat) (β : List Nat) (f : Nat → Rat) (l : List Rat) : Nat → List Rat
 | 0 => l
 | k + 1 => if β.getD k 0 < n then (zB3 n β f l k).set (β.getD k 0) (f k) else zB3 n β f l k
theorem zDn (n : Nat) (β : List Nat) (f : Nat → Rat) (l : List Rat) : ∀ k, (zB3 n β f l k).length = l.length
 | 0 => rfl
 | k + 1 => by
  rw [zB3]
  split
  ·rw [List.length_set, zDn n β f l k]
  ·exact zDn n β f l k
theorem zKT {n : Nat} {β : List Nat} {f : Nat → Rat} {l : List Rat} {j : Nat} : ∀ {K : Nat}, (∀ k, k < K → β.getD k 0 ≠ j) → (zB3 n β f l K).getD j 0 = l.getD j 0
 | 0, _ => rfl
 | K + 1, h => by
  have h1 := zKT (n := n) (f := f) (l := l) (K := K) (fun k hk => h k (by omega))
  rw [zB3]
  split
  ·rw [getD_set, if_neg (fun e => h K (Nat.lt_succ_self K) e.1.symm)]; exact h1
  ·exact h1
theorem zHp {n : Nat} {β : List Nat} {f : Nat → Rat} {l : List Rat} {k : Nat} (hl : l.length = n) (hlt : β.getD k 0 < n) :
 ∀ {K : Nat}, (∀ i, i < K → β.getD i 0 = β.getD k 0 → i = k) → k < K → (zB3 n β f l K).getD (β.getD k 0) 0 = f k
 | 0, _, hk => absurd hk (Nat.not_lt_zero k)
 | K + 1, hi, hk => by
  rw [zB3]
  by_cases e : k = K
  ·subst e
   rw [if_pos hlt, getD_set, if_pos ⟨rfl, by rw [zDn, hl]; exact hlt⟩]
  ·have h1 := zHp (f := f) hl hlt (K := K) (fun i h => hi i (by omega)) (by omega)
   have hne : β.getD K 0 ≠ β.getD k 0 := fun q => e (hi K (Nat.lt_succ_self K) q).symm
   split
   ·rw [getD_set, if_neg (fun q => hne q.1.symm)]; exact h1
   ·exact h1
def zBs (p : Prog) (s : St) : List Rat := zB3 p.n s.basis (fun k => Rat.divInt (at2 s.rows k p.N) s.den) (List.replicate p.n 0) p.m
def zFM (n c : Nat) : List Rat := if c < n then (List.replicate n 0).set c 1 else List.replicate n 0
def zHc (p : Prog) (s : St) (c : Nat) : List Rat := zB3 p.n s.basis (fun k => Rat.divInt (-(at2 s.rows k c)) s.den) (zFM p.n c) p.m
def yL (p : Prog) (s : St) (d : Int) : List Rat := (List.range p.m).map (fun i => Rat.divInt (at2 s.rows p.m (p.n + i)) d * ((p.fac i : Nat) : Rat))
/-- the factor of the costs -/
def Prog.fc (p : Prog) : Nat := zDH 1 p.C
/-- what the program returns after K and L steps -/
def zAF (p : Prog) (K L : Nat) : Res :=
 if 0 < p.a ∧ at2 (zCL p K).rows p.m p.N < 0 then ⟨1, [], yL p (zCL p K) (zCL p K).den, [], 0⟩
 else if zCX p.m (p.n + p.m) (zD2 p K L) < p.n + p.m then ⟨2, zBs p (zD2 p K L), [], zHc p (zD2 p K L) (zCX p.m (p.n + p.m) (zD2 p K L)), 0⟩
 else ⟨0, zBs p (zD2 p K L), yL p (zD2 p K L) ((zD2 p K L).den * (p.fc : Nat)), [], Rat.divInt (at2 (zD2 p K L).rows p.m p.N) ((zD2 p K L).den * (p.fc : Nat))⟩
structure Stops (p : Prog) (K L : Nat) : Prop where
 one : 0 < p.a → zB1 p.m p.N (p.n + p.m) (zCL p K) = none
 two : ¬ (0 < p.a ∧ at2 (zCL p K).rows p.m p.N < 0) → zB1 p.m p.N (p.n + p.m) (zD2 p K L) = none
theorem zIG {p : Prog} (hp : p.Ok) {K : Nat} (h : ¬ (0 < p.a ∧ at2 (zCL p K).rows p.m p.N < 0)) : 0 < p.a → at2 (zCL p K).rows p.m p.N = 0 := by
 intro ha
 obtain ⟨h1, h2⟩ := zEt p hp K
 have := (zHJ h1 h2).1
 have : ¬ at2 (zCL p K).rows p.m p.N < 0 := fun q => h ⟨ha, q⟩
 omega
/-- The algorithm ends. -/
theorem runs (p : Prog) (hp : p.Ok) : ∃ K L, Stops p K L := by
 obtain ⟨K, hK⟩ := ends (zMI p) (zKa p hp) (zF5 p)
 by_cases h : 0 < p.a ∧ at2 (zCL p K).rows p.m p.N < 0
 ·exact ⟨K, 0, fun _ => hK, fun q => absurd h q⟩
 ·obtain ⟨h1, h2, _⟩ := zKf p hp K (zIG hp h)
  obtain ⟨L, hL⟩ := ends h1 h2 (zF5 p)
  exact ⟨K, L, fun _ => hK, fun _ => hL⟩
/-- A result with its proof. -/
inductive Good (p : Prog) : Res → Prop
 | best {X Y : List Rat} {V : Rat} (hx : X.length = p.n) (hy : Y.length = p.m) (x0 : ∀ j, j < p.n → 0 ≤ X.getD j 0) (y0 : ∀ i, i < p.m → 0 ≤ Y.getD i 0)
  (ax : ∀ i, i < p.m → zAB (p.A.getD i []) X ≤ p.B.getD i 0) (ya : ∀ j, j < p.n → p.C.getD j 0 ≤ zAB (zCK p.A j) Y) (cx : zAB p.C X = V) (yb : zAB p.B Y = V) : Good p ⟨0, X, Y, [], V⟩
 | none {Y : List Rat} (hm : 0 < p.m) (hy : Y.length = p.m) (y0 : ∀ i, i < p.m → 0 ≤ Y.getD i 0) (ya : ∀ j, j < p.n → 0 ≤ zAB (zCK p.A j) Y) (yb : zAB p.B Y < 0) : Good p ⟨1, [], Y, [], 0⟩
 | free {X R : List Rat} (hn : 0 < p.n) (hx : X.length = p.n) (hr : R.length = p.n) (x0 : ∀ j, j < p.n → 0 ≤ X.getD j 0) (r0 : ∀ j, j < p.n → 0 ≤ R.getD j 0)
  (ax : ∀ i, i < p.m → zAB (p.A.getD i []) X ≤ p.B.getD i 0) (ar : ∀ i, i < p.m → zAB (p.A.getD i []) R ≤ 0) (cr : 0 < zAB p.C R) : Good p ⟨2, X, [], R, 0⟩
theorem mul_le0 {a x : Rat} (ha : 0 < a) (h : a * x ≤ 0) : x ≤ 0 := Rat.le_of_mul_le_mul_right (c := a) (by rw [Rat.zero_mul, Rat.mul_comm]; exact h) ha
theorem zIa {a x : Rat} (ha : 0 < a) (h : 0 ≤ a * x) : 0 ≤ x := Rat.le_of_mul_le_mul_right (c := a) (by rw [Rat.zero_mul, Rat.mul_comm x]; exact h) ha
theorem zFs {k : Nat} (h : 0 < k) : (0 : Rat) < (k : Rat) := by
 have h1 : ((k : Int) : Rat) = (k : Rat) := Rat.intCast_natCast k
 rw [← h1]; exact zD8 (by omega)
theorem zJ0 (p : Prog) (i : Nat) : 0 < p.fac i := zIp _ 1 (by decide)
theorem zI7 (p : Prog) : 0 < p.fc := zIp _ 1 (by decide)
theorem zPQ {x : Int} (h : x ≤ 0) : (x : Rat) ≤ 0 := (Rat.intCast_le_intCast (a := x) (b := 0)).2 h
theorem zHQ {x : Int} (h : 0 ≤ x) : (0 : Rat) ≤ (x : Rat) := (Rat.intCast_le_intCast (a := 0) (b := x)).2 h
theorem zMp {x : Int} (h : x < 0) : (x : Rat) < 0 := (Rat.intCast_lt_intCast (a := x) (b := 0)).2 h
theorem zFJ {x d : Int} (h : d ≠ 0) : Rat.divInt x d * (d : Rat) = (x : Rat) := by rw [Rat.divInt_eq_div, Rat.div_mul_cancel (intc_ne h)]
section
variable {p : Prog} {k : Nat → Int} {s : St}
/-- the sum of a condition -/
theorem zRR {x : Nat → Int} {i : Nat} (hi : i < p.m) (ha : ∀ q, q < p.a → x (p.n + p.m + q) = 0) :
 zB0 (zAX p).rows p.N x i = p.eps i * (zAC (fun j => (p.whole i).getD j 0 * x j) p.n + x (p.n + i) + (p.whole i).getD p.n 0 * x p.N) := by
 have e1 : ∀ j, j < p.n → at2 (zAX p).rows i j * x j = p.eps i * ((p.whole i).getD j 0 * x j) := fun j hj => by rw [zMV p hi hj, Int.mul_assoc]
 have e2 : ∀ q, q < p.m → at2 (zAX p).rows i (p.n + q) * x (p.n + q) = if q = i then p.eps i * x (p.n + q) else 0 := fun q hq => by
  rw [zJr p hi hq]
  by_cases e : i = q
  ·rw [if_pos e, if_pos e.symm]
  ·rw [if_neg e, if_neg (fun h => e h.symm), Int.zero_mul]
 have e3 : ∀ q, q < p.a → at2 (zAX p).rows i (p.n + p.m + q) * x (p.n + p.m + q) = 0 := fun q hq => by rw [ha q hq, Int.mul_zero]
 show zAC (fun j => at2 (zAX p).rows i j * x j) (p.n + p.m + p.a) + at2 (zAX p).rows i p.N * x p.N = _
 rw [zE4 _ (p.n + p.m) p.a, zE4 _ p.n p.m, zB6 e3, zt e1, zt e2, zBT, zCR (f := fun q => p.eps i * x (p.n + q)) hi, zJ2 p hi, Int.mul_add, Int.mul_add, Int.mul_assoc]
 omega
/-- the conditions, for the vector of a column -/
theorem prim (h : Inv p.m p.N (zCS k p.m p.N (zAX p).rows) s) (hd : Dry p.m p.N (p.n + p.m) s p.m) {c : Nat} (hc : c < p.n + p.m ∨ c = p.N) {i : Nat} (hi : i < p.m) :
 zAC (fun j => (p.whole i).getD j 0 * zBc p.m s c j) p.n + zBc p.m s c (p.n + i) + (p.whole i).getD p.n 0 * zBc p.m s c p.N = 0 := by
 have hw := zF5 p
 have hcN : c < p.N + 1 := by omega
 have h1 := h.vec hcN (i := i) (by omega)
 rw [if_neg (Nat.ne_of_lt hi), cost_row (zBf p) _ hi, zRR hi] at h1
 ·have h2 := zL7 p i
  generalize zAC (fun j => (p.whole i).getD j 0 * zBc p.m s c j) p.n + zBc p.m s c (p.n + i) + (p.whole i).getD p.n 0 * zBc p.m s c p.N = z at *
  have h3 : p.eps i * (p.eps i * z) = 0 := by rw [h1, Int.mul_zero]
  rw [← Int.mul_assoc, h2, Int.one_mul] at h3
  exact h3
 ·intro q hq
  have hlt : p.n + p.m + q < p.N := Nat.add_lt_add_left hq _
  by_cases hb : zCh p.m s (p.n + p.m + q)
  ·obtain ⟨b, hbm, hbe⟩ := hb
   have h2 := h.vec_basic (c := c) hbm
   rw [hbe, if_neg (by omega)] at h2
   rw [h2]
   have : at2 s.rows b c = 0 := by
    rcases hc with hc | hc
    ·exact hd.r b hbm (by omega) c hc
    ·rw [hc]; exact hd.z b hbm (by omega)
   omega
  ·rw [zGN (fun b hb' e => hb ⟨b, hb', e⟩), if_neg (by omega)]
/-- the costs, told by the rows -/
theorem zNT (hk : ∀ i, i < p.m → k (p.n + i) = 0) : Slack p.m p.N p.n (zCS k p.m p.N (zAX p).rows) p.eps := by
 have hs := zN6 p
 refine ⟨hs.lt, hs.sq, fun i q hi hq => ?_, fun q hq => ?_⟩
 ·rw [zID (zBf p) hi]; exact hs.at' i q hi hq
 ·rw [zJu (zBf p) (by have := hs.lt; omega)]; exact hk q hq
theorem dual_x (h : Inv p.m p.N (zCS k p.m p.N (zAX p).rows) s) (hk : ∀ i, i < p.m → k (p.n + i) = 0) {j : Nat} (hj : j < p.n) :
 at2 s.rows p.m j = zAC (fun q => at2 s.rows p.m (p.n + q) * (p.whole q).getD j 0) p.m + s.den * k j := by
 have hw := zF5 p
 have hjN : j < p.N + 1 := by omega
 rw [h.combo (zNT hk) (Nat.lt_succ_self _) hjN, if_pos rfl, zJu (zBf p) hjN]
 congr 1
 refine zt (fun q hq => ?_)
 rw [zID (zBf p) hq, zMV p hq hj, ← Int.mul_assoc (p.eps q), zL7, Int.one_mul]
theorem dual_r (h : Inv p.m p.N (zCS k p.m p.N (zAX p).rows) s) (hk : ∀ i, i < p.m → k (p.n + i) = 0) :
 at2 s.rows p.m p.N = zAC (fun q => at2 s.rows p.m (p.n + q) * (p.whole q).getD p.n 0) p.m + s.den * k p.N := by
 rw [h.combo (zNT hk) (Nat.lt_succ_self _) (Nat.lt_succ_self _), if_pos rfl, zJu (zBf p) (Nat.lt_succ_self _)]
 congr 1
 refine zt (fun q hq => ?_)
 rw [zID (zBf p) hq, zJ2 p hq, ← Int.mul_assoc (p.eps q), zL7, Int.one_mul]
theorem a_len (hp : p.Ok) {i : Nat} (hi : i < p.m) : (p.A.getD i []).length = p.n := hp.cols _ (zAr [] (by rw [hp.rows]; exact hi))
theorem zQD (hp : p.Ok) {i : Nat} (hi : i < p.m) {x : Nat → Int} {X : List Rat} {d : Rat} (hX : ∀ j, j < p.n → X.getD j 0 * d = ((x j : Int) : Rat)) :
 ((zAC (fun j => (p.whole i).getD j 0 * x j) p.n : Int) : Rat) = ((p.fac i : Nat) : Rat) * zAB (p.A.getD i []) X * d := by
 rw [zF3, zCz (a_len hp hi), ← zGy, ← zEv]
 refine zBi (fun j hj => ?_)
 have hj' : j < p.n + 1 := by omega
 rw [Rat.intCast_mul, ← hX j hj, zHI p hp hi hj', full_x p hp hi hj]
 grind
theorem zLD {C : List Rat} {j : Nat} (hj : j < C.length) : (((zA6 C).getD j 0 : Int) : Rat) = ((zDH 1 C : Nat) : Rat) * C.getD j 0 := by
 unfold zA6
 rw [zCe _ _ 0 _ _ hj]
 exact zLX (zAr 0 hj)
theorem zP4 {x : Nat → Int} {X : List Rat} {d : Rat} (hX : ∀ j, j < p.n → X.getD j 0 * d = ((x j : Int) : Rat)) :
 ((zAC (fun j => (zA6 p.C).getD j 0 * x j) p.n : Int) : Rat) = ((p.fc : Nat) : Rat) * zAB p.C X * d := by
 rw [zF3, zCz (a := p.C) (n := p.n) rfl, ← zGy, ← zEv]
 refine zBi (fun j hj => ?_)
 rw [Rat.intCast_mul, ← hX j hj, zLD hj]
 show ((p.fc : Nat) : Rat) * _ * _ = _
 grind
theorem zPr (hp : p.Ok) {j : Nat} (hj : j < p.n) {y : Nat → Int} {Y : List Rat} {d : Rat} (hY : ∀ q, q < p.m → Y.getD q 0 * d = ((y q : Int) : Rat) * ((p.fac q : Nat) : Rat)) :
 ((zAC (fun q => y q * (p.whole q).getD j 0) p.m : Int) : Rat) = zAB (zCK p.A j) Y * d := by
 rw [zF3, zCz (n := p.m) (by rw [zFI]; exact hp.rows), ← zEv]
 refine zBi (fun q hq => ?_)
 have h1 := hY q hq
 have hj' : j < p.n + 1 := by omega
 rw [Rat.intCast_mul, zHI p hp hq hj', full_x p hp hq hj, zIK]
 grind
theorem zPk (hp : p.Ok) {y : Nat → Int} {Y : List Rat} {d : Rat} (hY : ∀ q, q < p.m → Y.getD q 0 * d = ((y q : Int) : Rat) * ((p.fac q : Nat) : Rat)) :
 ((zAC (fun q => y q * (p.whole q).getD p.n 0) p.m : Int) : Rat) = zAB p.B Y * d := by
 rw [zF3, zCz (a := p.B) (n := p.m) rfl, ← zEv]
 refine zBi (fun q hq => ?_)
 have h1 := hY q hq
 rw [Rat.intCast_mul, zHI p hp hq (Nat.lt_succ_self _), zPA p hp hq]
 grind
theorem zKC (p : Prog) (s : St) : (zBs p s).length = p.n := by unfold zBs; rw [zDn, List.length_replicate]
theorem zHB (n c : Nat) : (zFM n c).length = n := by
 unfold zFM
 split
 ·rw [List.length_set, List.length_replicate]
 ·rw [List.length_replicate]
theorem ray_len (p : Prog) (s : St) (c : Nat) : (zHc p s c).length = p.n := by unfold zHc; rw [zDn, zHB]
theorem y_len (p : Prog) (s : St) (d : Int) : (yL p s d).length = p.m := by simp [yL]
theorem zMm (n j : Nat) : (List.replicate n (0 : Rat)).getD j 0 = 0 := by
 simp only [List.getD, List.getElem?_replicate]
 split <;> rfl
theorem zHv {M : Tab} (h : Inv p.m p.N M s) {j : Nat} (hj : j < p.n) : (zBs p s).getD j 0 * (s.den : Rat) = ((-(zBc p.m s p.N j) : Int) : Rat) := by
 have hw := zF5 p
 have hd : s.den ≠ 0 := by have := h.dp; omega
 unfold zBs
 by_cases hb : zCh p.m s j
 ·obtain ⟨b, hbm, rfl⟩ := hb
  rw [zHp (by rw [List.length_replicate]) hj (fun i hi e => h.nodup hi hbm e) hbm, zFJ hd, h.vec_basic hbm, if_neg (by omega)]
  congr 1; omega
 ·rw [zKT (fun b hb' e => hb ⟨b, hb', e⟩), zMm, Rat.zero_mul, zGN (fun b hb' e => hb ⟨b, hb', e⟩), if_neg (by omega)]
  rfl
theorem zMA {M : Tab} (h : Inv p.m p.N M s) {c : Nat} (hc : at2 s.rows p.m c < 0) {j : Nat} (hj : j < p.n) : (zHc p s c).getD j 0 * (s.den : Rat) = ((zBc p.m s c j : Int) : Rat) := by
 have hd : s.den ≠ 0 := by have := h.dp; omega
 have hnb : ¬ zCh p.m s c := fun hb => by have := h.cost_basic hb; omega
 unfold zHc
 by_cases hb : zCh p.m s j
 ·have hjc : j ≠ c := fun e => hnb (e ▸ hb)
  obtain ⟨b, hbm, rfl⟩ := hb
  rw [zHp (zHB _ _) hj (fun i hi e => h.nodup hi hbm e) hbm, zFJ hd, h.vec_basic hbm, if_neg hjc]
  congr 1; omega
 ·rw [zKT (fun b hb' e => hb ⟨b, hb', e⟩), zGN (fun b hb' e => hb ⟨b, hb', e⟩)]
  unfold zFM
  by_cases e : j = c
  ·subst e
   rw [if_pos hj, if_pos rfl, getD_set, if_pos ⟨rfl, by rw [List.length_replicate]; exact hj⟩, Rat.one_mul]
  ·rw [if_neg e]
   have : (if c < p.n then (List.replicate p.n (0 : Rat)).set c 1 else List.replicate p.n 0).getD j 0 = 0 := by
    split
    ·rw [getD_set, if_neg (fun q => e q.1), zMm]
    ·exact zMm _ _
   rw [this, Rat.zero_mul]
   rfl
theorem y_get {d : Int} (hd : d ≠ 0) {i : Nat} (hi : i < p.m) : (yL p s d).getD i 0 * (d : Rat) = ((at2 s.rows p.m (p.n + i) : Int) : Rat) * ((p.fac i : Nat) : Rat) := by
 have : (yL p s d).getD i 0 = Rat.divInt (at2 s.rows p.m (p.n + i)) d * ((p.fac i : Nat) : Rat) := by
  have hi : i < p.B.length := hi
  simp [yL, List.getD, hi]
 rw [this, Rat.mul_assoc, Rat.mul_comm ((p.fac i : Nat) : Rat), ← Rat.mul_assoc, zFJ hd]
/-- the values satisfy the conditions -/
theorem zFy (hp : p.Ok) (h : Inv p.m p.N (zCS k p.m p.N (zAX p).rows) s) (hf : zDf p.m p.N s) (hd : Dry p.m p.N (p.n + p.m) s p.m) :
 (∀ j, j < p.n → 0 ≤ (zBs p s).getD j 0) ∧ ∀ i, i < p.m → zAB (p.A.getD i []) (zBs p s) ≤ p.B.getD i 0 := by
 have hw := zF5 p
 have hdp := zD8 h.dp
 refine ⟨fun j hj => ?_, fun i hi => ?_⟩
 ·have h1 := zHv h hj
  have h2 := h.vec_val hf (j := j) (by omega)
  refine zIa hdp ?_
  rw [Rat.mul_comm, h1]
  exact zHQ (by omega)
 ·have h1 := prim h hd (c := p.N) (.inr rfl) hi
  rw [h.vec_end] at h1
  have h2 := zQD hp hi (x := fun j => -(zBc p.m s p.N j)) (X := zBs p s) (fun j hj => zHv h hj)
  have h3 : zAC (fun j => (p.whole i).getD j 0 * -(zBc p.m s p.N j)) p.n = -(zAC (fun j => (p.whole i).getD j 0 * zBc p.m s p.N j) p.n) := by
   have : zAC (fun j => (p.whole i).getD j 0 * -(zBc p.m s p.N j)) p.n = zAC (fun j => -1 * ((p.whole i).getD j 0 * zBc p.m s p.N j)) p.n := zt (fun j _ => by rw [Int.mul_neg]; omega)
   rw [this, zBT]; omega
  have h2 : ((zAC (fun j => (p.whole i).getD j 0 * -(zBc p.m s p.N j)) p.n : Int) : Rat) = ((p.fac i : Nat) : Rat) * zAB (p.A.getD i []) (zBs p s) * (s.den : Rat) := h2
  rw [h3] at h2
  have h4 := h.vec_val hf (j := p.n + i) (by omega)
  have h5 : -(zAC (fun j => (p.whole i).getD j 0 * zBc p.m s p.N j) p.n) = zBc p.m s p.N (p.n + i) + (p.whole i).getD p.n 0 * s.den := by omega
  rw [h5, Rat.intCast_add, Rat.intCast_mul, zHI p hp hi (Nat.lt_succ_self _), zPA p hp hi] at h2
  have h6 := zPQ h4
  have hpos : (0 : Rat) < ((p.fac i : Nat) : Rat) * (s.den : Rat) := Rat.mul_pos (zFs (zJ0 p i)) hdp
  refine Rat.le_of_mul_le_mul_right ?_ hpos
  grind
theorem zRU (hp : p.Ok) (h : Inv p.m p.N (M2 p) s) (hf : zDf p.m p.N s) (hd : Dry p.m p.N (p.n + p.m) s p.m) (hc : ∀ a, a < p.n + p.m → 0 ≤ at2 s.rows p.m a) :
 Good p ⟨0, zBs p s, yL p s (s.den * (p.fc : Nat)), [], Rat.divInt (at2 s.rows p.m p.N) (s.den * (p.fc : Nat))⟩ := by
 have hw := zF5 p
 have hdp := zD8 h.dp
 have hfp := zFs (zI7 p)
 have hD : s.den * (p.fc : Int) ≠ 0 := by
  have h1 := h.dp
  have h2 := zI7 p
  have := Int.mul_pos h1 (show (0 : Int) < (p.fc : Int) by omega)
  omega
 have hDr : ((s.den * (p.fc : Nat) : Int) : Rat) = (s.den : Rat) * ((p.fc : Nat) : Rat) := by rw [Rat.intCast_mul]; rfl
 have hpos : (0 : Rat) < (s.den : Rat) * ((p.fc : Nat) : Rat) := Rat.mul_pos hdp hfp
 have hY := fun q (hq : q < p.m) => y_get (p := p) (s := s) hD hq
 have hk : ∀ i, i < p.m → zBh p (p.n + i) = 0 := fun i hi => by unfold zBh; rw [if_neg (by omega)]
 have hkN : zBh p p.N = 0 := by unfold zBh; rw [if_neg (by omega)]
 obtain ⟨v1, v2⟩ := zFy hp h hf hd
 refine .best (zKC p s) (y_len p s _) v1 (fun i hi => ?_) v2 (fun j hj => ?_) ?_ ?_
 ·have h1 := hY i hi
  rw [hDr] at h1
  refine zIa hpos ?_
  rw [Rat.mul_comm, h1]
  exact Rat.mul_nonneg (zHQ (hc _ (by omega))) (Rat.le_of_lt (zFs (zJ0 p i)))
 ·have h1 := zPr hp hj hY
  have h2 := dual_x h hk hj
  have hkj : zBh p j = -((zA6 p.C).getD j 0) := by unfold zBh; rw [if_pos hj]
  rw [hkj] at h2
  have h3 := hc j (by omega)
  have h4 : zAC (fun q => at2 s.rows p.m (p.n + q) * (p.whole q).getD j 0) p.m = at2 s.rows p.m j + s.den * (zA6 p.C).getD j 0 := by
   rw [Int.mul_neg] at h2; omega
  rw [h4, hDr, Rat.intCast_add, Rat.intCast_mul, zLD hj] at h1
  have h5 := zHQ h3
  refine Rat.le_of_mul_le_mul_right ?_ hpos
  have e : ((zDH 1 p.C : Nat) : Rat) = ((p.fc : Nat) : Rat) := rfl
  rw [e] at h1
  grind
 ·have h1 := zP4 (p := p) (x := fun j => -(zBc p.m s p.N j)) (X := zBs p s) (fun j hj => zHv h hj)
  have h2 := h.vec (c := p.N) (i := p.m) (Nat.lt_succ_self _) (Nat.lt_succ_self _)
  rw [if_pos rfl] at h2
  have h3 : zB0 (M2 p) p.N (zBc p.m s p.N) p.m = zAC (fun j => zBh p j * zBc p.m s p.N j) (p.N + 1) := zIZ (zBf p) _
  have h4 : zAC (fun j => zBh p j * zBc p.m s p.N j) (p.N + 1) = zAC (fun j => (zA6 p.C).getD j 0 * -(zBc p.m s p.N j)) p.n := by
   rw [show p.N + 1 = p.n + (p.m + p.a + 1) by show p.n + p.m + p.a + 1 = _; omega, zE4, zB6 (f := fun q => zBh p (p.n + q) * zBc p.m s p.N (p.n + q)) (fun q _ => by
    show zBh p (p.n + q) * _ = 0
    unfold zBh
    rw [if_neg (by omega), Int.zero_mul]), Int.add_zero]
   exact zt (fun j hj => by
    show zBh p j * _ = _
    unfold zBh
    rw [if_pos hj, Int.neg_mul, Int.mul_neg])
  rw [h4] at h3
  have h1 : ((zAC (fun j => (zA6 p.C).getD j 0 * -(zBc p.m s p.N j)) p.n : Int) : Rat) = _ := h1
  rw [← h3, h2] at h1
  have h5 : Rat.divInt (at2 s.rows p.m p.N) (s.den * (p.fc : Nat)) * ((s.den : Rat) * ((p.fc : Nat) : Rat)) = ((at2 s.rows p.m p.N : Int) : Rat) := by rw [← hDr]; exact zFJ hD
  refine Rat.le_antisymm (Rat.le_of_mul_le_mul_right ?_ hpos) (Rat.le_of_mul_le_mul_right ?_ hpos) <;> grind
 ·have h1 := zPk hp hY
  have h2 := dual_r h hk
  rw [hkN, Int.mul_zero, Int.add_zero] at h2
  rw [← h2, hDr] at h1
  have h5 : Rat.divInt (at2 s.rows p.m p.N) (s.den * (p.fc : Nat)) * ((s.den : Rat) * ((p.fc : Nat) : Rat)) = ((at2 s.rows p.m p.N : Int) : Rat) := by rw [← hDr]; exact zFJ hD
  refine Rat.le_antisymm (Rat.le_of_mul_le_mul_right ?_ hpos) (Rat.le_of_mul_le_mul_right ?_ hpos) <;> grind
theorem zQS (hp : p.Ok) (h : Inv p.m p.N (M1 p) s) (hm : 0 < p.m) (hc : ∀ a, a < p.n + p.m → 0 ≤ at2 s.rows p.m a) (hv : at2 s.rows p.m p.N < 0) : Good p ⟨1, [], yL p s s.den, [], 0⟩ := by
 have hw := zF5 p
 have hdp := zD8 h.dp
 have hD : s.den ≠ 0 := by have := h.dp; omega
 have hY := fun q (hq : q < p.m) => y_get (p := p) (s := s) hD hq
 have hk : ∀ i, i < p.m → zC6 p (p.n + i) = 0 := fun i hi => by unfold zC6; rw [if_neg (by omega)]
 have hkN : zC6 p p.N = 0 := by unfold zC6; rw [if_neg (by omega)]
 refine .none hm (y_len p s _) (fun i hi => ?_) (fun j hj => ?_) ?_
 ·refine zIa hdp ?_
  rw [Rat.mul_comm, hY i hi]
  exact Rat.mul_nonneg (zHQ (hc _ (by omega))) (Rat.le_of_lt (zFs (zJ0 p i)))
 ·have h1 := zPr hp hj hY
  have h2 := dual_x h hk hj
  have hkj : zC6 p j = 0 := by unfold zC6; rw [if_neg (by omega)]
  rw [hkj, Int.mul_zero, Int.add_zero] at h2
  rw [← h2] at h1
  refine zIa hdp ?_
  rw [Rat.mul_comm, ← h1]
  exact zHQ (hc j (by omega))
 ·have h1 := zPk hp hY
  have h2 := dual_r h hk
  rw [hkN, Int.mul_zero, Int.add_zero] at h2
  rw [← h2] at h1
  have h3 := zMp hv
  refine Rat.not_le.1 (fun h4 => Rat.not_le.2 h3 ?_)
  rw [h1]
  exact Rat.mul_nonneg h4 (Rat.le_of_lt hdp)
theorem zQ8 (hp : p.Ok) (h : Inv p.m p.N (M2 p) s) (hf : zDf p.m p.N s) (hd : Dry p.m p.N (p.n + p.m) s p.m) {c : Nat} (hcw : c < p.n + p.m) (hneg : at2 s.rows p.m c < 0) (hle : ∀ i, i < p.m → at2 s.rows i c ≤ 0) :
 Good p ⟨2, zBs p s, [], zHc p s c, 0⟩ := by
 have hw := zF5 p
 have hdp := zD8 h.dp
 obtain ⟨v1, v2⟩ := zFy hp h hf hd
 have hN : zBc p.m s c p.N = 0 := by rw [zGN (fun b hb => by have := h.bc b hb; omega), if_neg (by omega)]
 have hcost : ((at2 s.rows p.m c : Int) : Rat) = -(((p.fc : Nat) : Rat) * zAB p.C (zHc p s c) * (s.den : Rat)) := by
  have h1 := zP4 (p := p) (x := fun j => zBc p.m s c j) (X := zHc p s c) (fun j hj => zMA h hneg hj)
  have h2 := h.vec (c := c) (i := p.m) (by omega) (Nat.lt_succ_self _)
  rw [if_pos rfl] at h2
  have h3 : zB0 (M2 p) p.N (zBc p.m s c) p.m = zAC (fun j => zBh p j * zBc p.m s c j) (p.N + 1) := zIZ (zBf p) _
  have h4 : zAC (fun j => zBh p j * zBc p.m s c j) (p.N + 1) = -(zAC (fun j => (zA6 p.C).getD j 0 * zBc p.m s c j) p.n) := by
   rw [show p.N + 1 = p.n + (p.m + p.a + 1) by show p.n + p.m + p.a + 1 = _; omega, zE4, zB6 (f := fun q => zBh p (p.n + q) * zBc p.m s c (p.n + q)) (fun q _ => by
    show zBh p (p.n + q) * _ = 0
    unfold zBh
    rw [if_neg (by omega), Int.zero_mul]), Int.add_zero]
   have : zAC (fun j => zBh p j * zBc p.m s c j) p.n = zAC (fun j => -1 * ((zA6 p.C).getD j 0 * zBc p.m s c j)) p.n := zt (fun j hj => by
    unfold zBh
    rw [if_pos hj, Int.neg_mul]; omega)
   rw [this, zBT]; omega
  rw [h4, h2] at h3
  have h1 : ((zAC (fun j => (zA6 p.C).getD j 0 * zBc p.m s c j) p.n : Int) : Rat) = _ := h1
  rw [← h1, h3, Rat.intCast_neg]
 have hn : 0 < p.n := by
  apply Classical.byContradiction
  intro h0
  have e : zAB p.C (zHc p s c) = 0 := by
   rw [zCz (a := p.C) (n := p.n) rfl, show p.n = 0 by omega]; rfl
  rw [e, Rat.mul_zero, Rat.zero_mul] at hcost
  have := zMp hneg
  rw [hcost] at this
  exact absurd this (by decide +kernel)
 refine .free hn (zKC p s) (ray_len p s c) v1 (fun j hj => ?_) v2 (fun i hi => ?_) ?_
 ·refine zIa hdp ?_
  rw [Rat.mul_comm, zMA h hneg hj]
  exact zHQ (h.vec_ray hle j)
 ·have h1 := prim h hd (c := c) (.inl hcw) hi
  rw [hN, Int.mul_zero, Int.add_zero] at h1
  have h2 := zQD hp hi (x := fun j => zBc p.m s c j) (X := zHc p s c) (fun j hj => zMA h hneg hj)
  have h4 := h.vec_ray hle (p.n + i)
  have h5 : zAC (fun j => (p.whole i).getD j 0 * zBc p.m s c j) p.n ≤ 0 := by omega
  have h2 : ((zAC (fun j => (p.whole i).getD j 0 * zBc p.m s c j) p.n : Int) : Rat) = _ := h2
  have h6 := zPQ h5
  rw [h2] at h6
  have hpos : (0 : Rat) < ((p.fac i : Nat) : Rat) * (s.den : Rat) := Rat.mul_pos (zFs (zJ0 p i)) hdp
  refine mul_le0 hpos ?_
  grind
 ·have h1 := zMp hneg
  rw [hcost] at h1
  have hpos : (0 : Rat) < ((p.fc : Nat) : Rat) * (s.den : Rat) := Rat.mul_pos (zFs (zI7 p)) hdp
  refine Rat.not_le.1 (fun h4 => Rat.not_le.2 h1 ?_)
  have h5 := Rat.mul_nonneg (show (0 : Rat) ≤ -(zAB p.C (zHc p s c)) by grind) (Rat.le_of_lt hpos)
  grind
end
/-- Each result is proved. -/
theorem zGt {p : Prog} (hp : p.Ok) {K L : Nat} (hs : Stops p K L) : Good p (zAF p K L) := by
 unfold zAF
 by_cases h0 : 0 < p.a ∧ at2 (zCL p K).rows p.m p.N < 0
 ·rw [if_pos h0]
  obtain ⟨h1, h2⟩ := zEt p hp K
  have hm : 0 < p.m := by
   have := zKj p.B p.B.length
   have h3 : 0 < zGi p.B := h0.1
   show 0 < p.B.length
   exact Nat.lt_of_lt_of_le h3 this
  rcases zLk (hs.one h0.1) with ⟨_, h3⟩ | ⟨h3, h4, h5⟩
  ·exact zQS hp h1 hm h3 h0.2
  ·exact (zNX h1 (Nat.lt_of_lt_of_le h3 (zF5 p)) h4 h5).elim
 ·rw [if_neg h0]
  obtain ⟨h1, h2, h3⟩ := zJD p hp K L (zIG hp h0)
  rcases zLk (hs.two h0) with ⟨g1, g2⟩ | ⟨g1, g2, g3⟩
  ·rw [if_neg (by omega)]
   exact zRU hp h1 h2 h3 g2
  ·rw [if_pos g1]
   exact zQ8 hp h1 h2 h3 g1 g2 g3
end Go.Ax.Sx
namespace Go.Ax.Sx
open Go.Ax.Dt Go.Ax.Rt Go.Ax.Bg
/-- numbers of at most k digits -/
structure Prog.Dig (p : Prog) (k : Nat) : Prop where
 a : ∀ r ∈ p.A, ∀ q ∈ r, D k q
 b : ∀ q ∈ p.B, D k q
 c : ∀ q ∈ p.C, D k q
def Prog.E (p : Prog) (k : Nat) : Nat := k + k * (p.n + 1)
def Prog.T (p : Prog) (k : Nat) : Nat := (p.E k + 2) * (p.m + 1)
def Prog.W (p : Prog) (k : Nat) : Nat := p.T k + 2 + 2 * (k * (p.n + 1))
section
variable {p : Prog} {k : Nat}
theorem zOJ (hp : p.Ok) (hk : p.Dig k) {i : Nat} (hi : i < p.m) : ∀ q ∈ p.full i, D k q := by
 intro q hq
 rcases List.mem_append.1 hq with h | h
 ·exact hk.a _ (zAr [] (by rw [hp.rows]; exact hi)) q h
 ·rw [List.mem_singleton.1 h]; exact hk.b _ (zAr 0 hi)
theorem zNM (hp : p.Ok) (hk : p.Dig k) {i j : Nat} (hi : i < p.m) (hj : j < p.n + 1) : ((p.whole i).getD j 0).natAbs ≤ 10 ^ p.E k := by
 have h1 := zLi (zOJ hp hk hi)
 rw [zEr p hp hi] at h1
 exact h1 _ (zAr 0 (by rw [zGP, zEr p hp hi]; exact hj))
theorem zI6 (hk : p.Dig k) {j : Nat} (hj : j < p.n) : ((zA6 p.C).getD j 0).natAbs ≤ 10 ^ p.E k := by
 refine Nat.le_trans (zLi hk.c _ (zAr 0 (by rw [zGP]; exact hj))) (Nat.pow_le_pow_right (by decide) ?_)
 exact Nat.add_le_add_left (Nat.mul_le_mul_left k (Nat.le_succ p.n)) k
theorem zMe (p : Prog) (i : Nat) : (p.eps i).natAbs = 1 := by unfold Prog.eps; split <;> rfl
theorem zFF (n : Nat) : 1 ≤ 10 ^ n := Nat.pow_pos (by decide)
theorem zL1 (hp : p.Ok) (hk : p.Dig k) {i j : Nat} (hi : i < p.m) (hj : j < p.N + 1) : (at2 (zAX p).rows i j).natAbs ≤ 10 ^ p.E k := by
 have h1 := zFF (p.E k)
 by_cases c1 : j < p.n
 ·rw [zMV p hi c1, Int.natAbs_mul, zMe, Nat.one_mul]
  exact zNM hp hk hi (by omega)
 ·by_cases c2 : j < p.n + p.m
  ·obtain ⟨q, rfl⟩ : ∃ q, j = p.n + q := ⟨j - p.n, by omega⟩
   rw [zJr p hi (by omega)]
   split
   ·rw [zMe]; exact h1
   ·exact Nat.zero_le _
  ·by_cases c3 : j < p.N
   ·obtain ⟨q, rfl⟩ : ∃ q, j = p.n + p.m + q := ⟨j - (p.n + p.m), by omega⟩
    rw [zPu p hi (Nat.lt_of_add_lt_add_left (show p.n + p.m + q < p.n + p.m + p.a from c3))]
    split
    ·exact h1
    ·exact Nat.zero_le _
   ·obtain rfl : j = p.N := by omega
    rw [zJ2 p hi, Int.natAbs_mul, zMe, Nat.one_mul]
    exact zNM hp hk hi (Nat.lt_succ_self _)
theorem M_abs (hp : p.Ok) (hk : p.Dig k) {f : Nat → Int} (hf : ∀ j, j < p.N + 1 → (f j).natAbs ≤ 10 ^ p.E k) : ∀ i j, i < p.m + 1 → j < p.N + 1 → (at2 (zCS f p.m p.N (zAX p).rows) i j).natAbs ≤ 10 ^ p.E k := by
 intro i j hi hj
 by_cases e : i = p.m
 ·rw [e, zJu (zBf p) hj]; exact hf j hj
 ·have hi' : i < p.m := Nat.lt_of_le_of_ne (Nat.le_of_lt_succ hi) e
  rw [zID (zBf p) hi']; exact zL1 hp hk hi' hj
theorem zOv (hp : p.Ok) (hk : p.Dig k) : ∀ i j, i < p.m + 1 → j < p.N + 1 → (at2 (M1 p) i j).natAbs ≤ 10 ^ p.E k :=
 M_abs hp hk (fun j _ => by
  have h1 := zFF (p.E k)
  unfold zC6
  split
  ·exact h1
  ·exact Nat.zero_le _)
theorem zG9 (hp : p.Ok) (hk : p.Dig k) : ∀ i j, i < p.m + 1 → j < p.N + 1 → (at2 (M2 p) i j).natAbs ≤ 10 ^ p.E k :=
 M_abs hp hk (fun j _ => by
  unfold zBh
  split
  ·rename_i h
   rw [Int.natAbs_neg]; exact zI6 hk h
  ·exact Nat.zero_le _)
/-- the elements of each table -/
theorem zEi {M : Tab} {s : St} (h : Inv p.m p.N M s) (hm : p.m + 1 ≤ 40) (hM : ∀ i j, i < p.m + 1 → j < p.N + 1 → (at2 M i j).natAbs ≤ 10 ^ p.E k) :
 (∀ i j, i < p.m + 1 → j < p.N + 1 → (at2 s.rows i j).natAbs ≤ 10 ^ p.T k) ∧ s.den.natAbs ≤ 10 ^ p.T k := by
 obtain ⟨h1, h2⟩ := h.bound (zFF (p.E k)) hM
 have h3 := det_ten (k := p.E k) hm
 exact ⟨fun i j hi hj => Nat.le_trans (h1 i j hi hj) h3, Nat.le_trans h2 h3⟩
theorem zDQ {x n : Nat} (h : x ≤ 10 ^ n) : x < 10 ^ (n + 1) := Nat.lt_of_le_of_lt h (Nat.pow_lt_pow_right (by decide) (Nat.lt_succ_self n))
theorem nat_D {x n : Nat} (h : x ≤ 10 ^ n) : D (n + 1) ((x : Nat) : Rat) := by
 refine ⟨?_, ?_⟩
 ·have : (((x : Nat) : Rat)).num = (x : Int) := rfl
  rw [this, Int.natAbs_natCast]; exact zDQ h
 ·have : (((x : Nat) : Rat)).den = 1 := rfl
  rw [this]
  exact Nat.lt_of_lt_of_le (show 1 < 10 ^ 1 by decide) (Nat.pow_le_pow_right (by decide) (Nat.le_add_left 1 n))
theorem zO8 (hp : p.Ok) (hk : p.Dig k) {i : Nat} (hi : i < p.m) : p.fac i ≤ 10 ^ (k * (p.n + 1)) := by
 have := zIT (p.full i) 1 (fun q hq => (zOJ hp hk hi q hq).2)
 rw [Nat.one_mul, zEr p hp hi] at this
 exact this
theorem fc_le (hk : p.Dig k) : p.fc ≤ 10 ^ (k * p.n) := by
 have := zIT p.C 1 (fun q hq => (hk.c q hq).2)
 rw [Nat.one_mul] at this
 exact this
theorem zKS {P : Rat → Prop} {n : Nat} {β : List Nat} {f : Nat → Rat} {l : List Rat} (hl : ∀ q ∈ l, P q) : ∀ {K : Nat}, (∀ i, i < K → P (f i)) → ∀ q ∈ zB3 n β f l K, P q
 | 0, _, q, hq => hl q hq
 | K + 1, hf, q, hq => by
  have h1 := zKS (n := n) (β := β) hl (K := K) (fun i hi => hf i (by omega))
  rw [zB3] at hq
  split at hq
  ·rcases List.mem_or_eq_of_mem_set hq with h | h
   ·exact h1 q h
   ·rw [h]; exact hf K (Nat.lt_succ_self K)
  ·exact h1 q hq
theorem zOS (n : Nat) : D (n + 1) 0 := nat_D (x := 0) (Nat.zero_le _)
theorem one_D (n : Nat) : D (n + 1) 1 := nat_D (x := 1) (zFF n)
theorem zOB {M : Tab} {s : St} (h : Inv p.m p.N M s) (hm : p.m + 1 ≤ 40) (hM : ∀ i j, i < p.m + 1 → j < p.N + 1 → (at2 M i j).natAbs ≤ 10 ^ p.E k) : ∀ q ∈ zBs p s, D (p.T k + 1) q := by
 obtain ⟨h1, h2⟩ := zEi h hm hM
 have hd := h.dp
 refine zKS (fun q hq => ?_) (fun i hi => zGj (by omega) (zDQ (h1 i p.N (by omega) (Nat.lt_succ_self _))) (zDQ h2))
 rw [List.eq_of_mem_replicate hq]; exact zOS _
theorem ray_D {M : Tab} {s : St} (h : Inv p.m p.N M s) (hm : p.m + 1 ≤ 40) (hM : ∀ i j, i < p.m + 1 → j < p.N + 1 → (at2 M i j).natAbs ≤ 10 ^ p.E k) {c : Nat} (hc : c < p.N) : ∀ q ∈ zHc p s c, D (p.T k + 1) q := by
 obtain ⟨h1, h2⟩ := zEi h hm hM
 have hd := h.dp
 have h0 : ∀ q ∈ List.replicate p.n (0 : Rat), D (p.T k + 1) q := fun q hq => by rw [List.eq_of_mem_replicate hq]; exact zOS _
 refine zKS (fun q hq => ?_) (fun i hi => zGj (by omega) (by rw [Int.natAbs_neg]; exact zDQ (h1 i c (by omega) (by omega))) (zDQ h2))
 unfold zFM at hq
 split at hq
 ·rcases List.mem_or_eq_of_mem_set hq with h' | h'
  ·exact h0 q h'
  ·rw [h']; exact one_D _
 ·exact h0 q hq
theorem y_D {M : Tab} {s : St} (hp : p.Ok) (hk : p.Dig k) (h : Inv p.m p.N M s) (hm : p.m + 1 ≤ 40) (hM : ∀ i j, i < p.m + 1 → j < p.N + 1 → (at2 M i j).natAbs ≤ 10 ^ p.E k) {f : Nat} (hf0 : 0 < f) (hf : f ≤ 10 ^ (k * p.n)) : ∀ q ∈ yL p s (s.den * (f : Nat)), D (p.W k) q := by
 obtain ⟨h1, h2⟩ := zEi h hm hM
 have hd := h.dp
 intro q hq
 obtain ⟨i, hi, rfl⟩ := List.mem_map.1 hq
 have hi : i < p.m := by simpa using hi
 have hD : s.den * (f : Nat) ≠ 0 := by
  have := Int.mul_pos hd (show (0 : Int) < ((f : Nat) : Int) by omega)
  omega
 have hw := zF5 p
 have hden : (s.den * (f : Nat)).natAbs ≤ 10 ^ (p.T k + k * p.n) := by
  rw [Int.natAbs_mul, Int.natAbs_natCast, Nat.pow_add]
  exact Nat.mul_le_mul h2 hf
 have a1 : D (p.T k + k * p.n + 1) (Rat.divInt (at2 s.rows p.m (p.n + i)) (s.den * (f : Nat))) :=
  zGj hD (zDQ (Nat.le_trans (h1 p.m (p.n + i) (Nat.lt_succ_self _) (by omega)) (Nat.pow_le_pow_right (by decide) (Nat.le_add_right _ _)))) (zDQ hden)
 refine (a1.mul (nat_D (zO8 hp hk hi))).mono ?_
 unfold Prog.W
 have : k * p.n ≤ k * (p.n + 1) := Nat.mul_le_mul_left k (Nat.le_succ p.n)
 omega
theorem v_D {M : Tab} {s : St} (h : Inv p.m p.N M s) (hm : p.m + 1 ≤ 40) (hM : ∀ i j, i < p.m + 1 → j < p.N + 1 → (at2 M i j).natAbs ≤ 10 ^ p.E k) {f : Nat} (hf0 : 0 < f) (hf : f ≤ 10 ^ (k * p.n)) : D (p.W k) (Rat.divInt (at2 s.rows p.m p.N) (s.den * (f : Nat))) := by
 obtain ⟨h1, h2⟩ := zEi h hm hM
 have hd := h.dp
 have hD : s.den * (f : Nat) ≠ 0 := by
  have := Int.mul_pos hd (show (0 : Int) < ((f : Nat) : Int) by omega)
  omega
 have hden : (s.den * (f : Nat)).natAbs ≤ 10 ^ (p.T k + k * p.n) := by
  rw [Int.natAbs_mul, Int.natAbs_natCast, Nat.pow_add]
  exact Nat.mul_le_mul h2 hf
 have a1 : D (p.T k + k * p.n + 1) (Rat.divInt (at2 s.rows p.m p.N) (s.den * (f : Nat))) :=
  zGj hD (zDQ (Nat.le_trans (h1 p.m p.N (Nat.lt_succ_self _) (Nat.lt_succ_self _)) (Nat.pow_le_pow_right (by decide) (Nat.le_add_right _ _)))) (zDQ hden)
 refine a1.mono ?_
 unfold Prog.W
 have : k * p.n ≤ k * (p.n + 1) := Nat.mul_le_mul_left k (Nat.le_succ p.n)
 omega
/-- All numbers of a result are short. -/
theorem run_D (hp : p.Ok) (hk : p.Dig k) (hm : p.m + 1 ≤ 40) {K L : Nat} (hs : Stops p K L) :
 (∀ q ∈ (zAF p K L).X, D (p.W k) q) ∧ (∀ q ∈ (zAF p K L).Y, D (p.W k) q) ∧ (∀ q ∈ (zAF p K L).R, D (p.W k) q) ∧ D (p.W k) (zAF p K L).V := by
 have hTW : p.T k + 1 ≤ p.W k := by unfold Prog.W; omega
 have h0 : D (p.W k) 0 := (zOS (p.T k)).mono hTW
 have hnil : ∀ q ∈ ([] : List Rat), D (p.W k) q := fun q hq => by simp at hq
 unfold zAF
 by_cases h : 0 < p.a ∧ at2 (zCL p K).rows p.m p.N < 0
 ·rw [if_pos h]
  obtain ⟨h1, h2⟩ := zEt p hp K
  have h3 := y_D hp hk h1 hm (zOv hp hk) (f := 1) (by decide) (zFF _)
  have e : (zCL p K).den * ((1 : Nat) : Int) = (zCL p K).den := by omega
  rw [e] at h3
  exact ⟨hnil, h3, hnil, h0⟩
 ·rw [if_neg h]
  obtain ⟨h1, h2, h3⟩ := zJD p hp K L (zIG hp h)
  by_cases h4 : zCX p.m (p.n + p.m) (zD2 p K L) < p.n + p.m
  ·rw [if_pos h4]
   exact ⟨fun q hq => (zOB h1 hm (zG9 hp hk) q hq).mono hTW, hnil, fun q hq => (ray_D h1 hm (zG9 hp hk) (Nat.lt_of_lt_of_le h4 (zF5 p)) q hq).mono hTW, h0⟩
  ·rw [if_neg h4]
   exact ⟨fun q hq => (zOB h1 hm (zG9 hp hk) q hq).mono hTW, y_D hp hk h1 hm (zG9 hp hk) (zI7 p) (fc_le hk), hnil, v_D h1 hm (zG9 hp hk) (zI7 p) (fc_le hk)⟩
end
end Go.Ax.Sx
namespace Go.Ax.Sx
open Go.Ax.Dt Go.Ax.Rt Go.Ax.Bg
section
variable {p : Prog}
end
section
variable {p : Prog}
end
end Go.Ax.Sx
namespace Go.Ax.Sx
open Go.Ax.Dt Go.Ax.Rt Go.Ax.Bg
structure Prob where
 A : List (List zp)
 B : List zp
 C : List zp
structure ResT where
 kind : Nat
 X : List zp
 Y : List zp
 R : List zp
 V : zp
/-- simplex.Check -/
def zAa (P : Prob) : Int :=
 if 40 < P.A.length ∨ 40 < P.C.length then 2 else if zGQ P.A ≠ 0 then zGQ P.A else if zBd P.B ≠ 0 then zBd P.B else if zBd P.C ≠ 0 then zBd P.C
 else if P.B.length ≠ P.A.length ∨ (P.A ≠ [] ∧ zEG P.A ≠ P.C.length) then 3 else 0
def Prob.prog (P : Prob) : Prog := ⟨inM P.A, P.B.map zg, P.C.map zg⟩
structure IsP (P : Prob) : Prop where
 m : IsM P.A P.B.length P.C.length
 b : zBd P.B = 0
 c : zBd P.C = 0
theorem zAg {P : Prob} (h : zAa P = 0) : IsP P := by
 unfold zAa at h
 split at h
 ·cases h
 split at h
 ·rename_i h1; exact absurd h h1
 split at h
 ·rename_i h1; exact absurd h h1
 split at h
 ·rename_i h1; exact absurd h h1
 split at h
 ·cases h
 rename_i h0 h1 h2 h3 h4
 have h1 : zGQ P.A = 0 := Decidable.byContradiction h1
 have h2 : zBd P.B = 0 := Decidable.byContradiction h2
 have h3 : zBd P.C = 0 := Decidable.byContradiction h3
 have hl : P.B.length = P.A.length := Decidable.byContradiction (fun e => h4 (.inl e))
 have hm := zJF h1
 refine ⟨⟨hl.symm, fun r hr => ?_, by rw [hl]; exact hm.sp, fun hne => (zAJ h3).1, hm.ok⟩, h2, h3⟩
 have hne : P.A ≠ [] := fun e => by rw [e] at hr; simp at hr
 have hw : zEG P.A = P.C.length := Decidable.byContradiction (fun e => h4 (.inr ⟨hne, e⟩))
 rw [hm.cols r hr, hw]
theorem zFD (P : Prob) : P.prog.n = P.C.length := List.length_map _
theorem zFg (P : Prob) : P.prog.m = P.B.length := List.length_map _
theorem IsP.Ok {P : Prob} (h : IsP P) : P.prog.Ok := by
 refine ⟨?_, fun r hr => ?_⟩
 ·show (inM P.A).length = (P.B.map zg).length
  unfold inM
  rw [List.length_map, List.length_map, h.m.rows]
 ·obtain ⟨t, ht, rfl⟩ := List.mem_map.1 hr
  show (t.map zg).length = (P.C.map zg).length
  rw [List.length_map, List.length_map, h.m.cols t ht]
theorem IsP.Dig {P : Prob} (h : IsP P) {k : Nat} (hk : 1 ≤ k) (hA : ∀ v ∈ P.A, ∀ s ∈ v, s.length ≤ k) (hB : ∀ s ∈ P.B, s.length ≤ k) (hC : ∀ s ∈ P.C, s.length ≤ k) : P.prog.Dig k := by
 refine ⟨fun r hr q hq => ?_, fun q hq => ?_, fun q hq => ?_⟩
 ·obtain ⟨t, ht, rfl⟩ := List.mem_map.1 hr
  obtain ⟨s, hs, rfl⟩ := List.mem_map.1 hq
  exact (IsQ.self (h.m.ok t ht s hs)).dig (hA t ht s hs) hk
 ·obtain ⟨s, hs, rfl⟩ := List.mem_map.1 hq
  exact (IsQ.self (zAS (zAJ h.b).2 s hs)).dig (hB s hs) hk
 ·obtain ⟨s, hs, rfl⟩ := List.mem_map.1 hq
  exact (IsQ.self (zAS (zAJ h.c).2 s hs)).dig (hC s hs) hk
def noR : ResT := ⟨0, [], [], [], []⟩
def zAd (r : Res) : ResT := ⟨r.kind, r.X.map zj, r.Y.map zj, r.R.map zj, if r.kind = 0 then zj r.V else []⟩
def zFA (r : Res) : Bool := r.X.all zCM && r.Y.all zCM && r.R.all zCM && (if r.kind = 0 then zCM r.V else true)
def outR (r : Res) : ResT × Int := if zFA r = true then (zAd r, 0) else (noR, 2)
/-- simplex.Solve, after K and L steps -/
def zAv (P : Prob) (K L : Nat) : ResT × Int := if zAa P ≠ 0 then (noR, zAa P) else outR (zAF P.prog K L)
/-- the form of a result -/
def zJX (P : Prob) (k x y r : Nat) : Prop := x = (if k = 1 then 0 else P.C.length) ∧ y = (if k = 2 then 0 else P.B.length) ∧ r = (if k = 2 then P.C.length else 0)
instance (P : Prob) (k x y r : Nat) : Decidable (zJX P k x y r) := inferInstanceAs (Decidable (_ ∧ _))
def zGd (P : Prob) (k : Nat) (X Y R : List zp) (V : zp) : Int :=
 if zBd X ≠ 0 then zBd X else if zBd Y ≠ 0 then zBd Y else if zBd R ≠ 0 then zBd R
 else if zJX P k X.length Y.length R.length then (if k = 0 then zAy V else if V = [] then 0 else 3) else 3
def formE (P : Prob) (r : ResT) : Int := zGd P r.kind r.X r.Y r.R r.V
theorem zHz {P : Prob} {k : Nat} {X Y R : List zp} {V : zp} (h : zGd P k X Y R V = 0) :
 zBd X = 0 ∧ zBd Y = 0 ∧ zBd R = 0 ∧ zJX P k X.length Y.length R.length ∧ (k = 0 → zAy V = 0) ∧ (k ≠ 0 → V = []) := by
 unfold zGd at h
 by_cases a1 : zBd X ≠ 0
 ·rw [if_pos a1] at h; exact absurd h a1
 rw [if_neg a1] at h
 by_cases a2 : zBd Y ≠ 0
 ·rw [if_pos a2] at h; exact absurd h a2
 rw [if_neg a2] at h
 by_cases a3 : zBd R ≠ 0
 ·rw [if_pos a3] at h; exact absurd h a3
 rw [if_neg a3] at h
 by_cases a4 : zJX P k X.length Y.length R.length
 ·rw [if_pos a4] at h
  refine ⟨Decidable.byContradiction a1, Decidable.byContradiction a2, Decidable.byContradiction a3, a4, fun e => ?_, fun e => ?_⟩
  ·rw [if_pos e] at h; exact h
  ·rw [if_neg e] at h
   by_cases a5 : V = []
   ·exact a5
   ·rw [if_neg a5] at h; exact absurd h (by decide)
 ·rw [if_neg a4] at h; exact absurd h (by decide)
theorem zNm {P : Prob} {k : Nat} {X Y R : List zp} {V : zp} (h1 : zBd X = 0) (h2 : zBd Y = 0) (h3 : zBd R = 0) (h4 : zJX P k X.length Y.length R.length) (h5 : k = 0 → zAy V = 0) (h6 : k ≠ 0 → V = []) : zGd P k X Y R V = 0 := by
 unfold zGd
 rw [if_neg (fun q => q h1), if_neg (fun q => q h2), if_neg (fun q => q h3), if_pos h4]
 by_cases e : k = 0
 ·rw [if_pos e]; exact h5 e
 ·rw [if_neg e, if_pos (h6 e)]
def zCD (l : List Rat) : Bool := l.all (fun q => decide (0 ≤ q))
def zLZ (p : Prog) (x : List Rat) : Bool := (List.range p.m).all (fun i => decide (zAB (p.A.getD i []) x ≤ p.B.getD i 0))
def zCp (p : Prog) (y : List Rat) : Bool := (List.range p.n).all (fun j => decide (p.C.getD j 0 ≤ zAB (zCK p.A j) y))
def zMg (p : Prog) (y : List Rat) : Bool := (List.range p.n).all (fun j => decide (0 ≤ zAB (zCK p.A j) y))
def rays0 (p : Prog) (r : List Rat) : Bool := (List.range p.m).all (fun i => decide (zAB (p.A.getD i []) r ≤ 0))
def zCC (p : Prog) (k : Nat) (x y r : List Rat) (v : Rat) : Bool :=
 zCD x && zCD y && zCD r &&
 (if k = 0 then zLZ p x && zCp p y && decide (zAB p.C x = v) && decide (zAB p.B y = v)
  else if k = 1 then zMg p y && decide (zAB p.B y < 0)
  else zLZ p x && rays0 p r && decide (0 < zAB p.C r))
/-- simplex.Verify -/
def zFL (P : Prob) (k : Nat) (X Y R : List zp) (V : zp) : Int :=
 if zAa P ≠ 0 then zAa P else if zGd P k X Y R V ≠ 0 then zGd P k X Y R V
 else if zCC P.prog k (X.map zg) (Y.map zg) (R.map zg) (zg V) = true then 0 else 16
theorem zLf {P : Prob} {k : Nat} {X Y R : List zp} {V : zp} (h : zFL P k X Y R V = 0) : zAa P = 0 ∧ zGd P k X Y R V = 0 ∧ zCC P.prog k (X.map zg) (Y.map zg) (R.map zg) (zg V) = true := by
 unfold zFL at h
 by_cases a1 : zAa P ≠ 0
 ·rw [if_pos a1] at h; exact absurd h a1
 rw [if_neg a1] at h
 by_cases a2 : zGd P k X Y R V ≠ 0
 ·rw [if_pos a2] at h; exact absurd h a2
 rw [if_neg a2] at h
 refine ⟨Decidable.byContradiction a1, Decidable.byContradiction a2, ?_⟩
 by_cases a3 : zCC P.prog k (X.map zg) (Y.map zg) (R.map zg) (zg V) = true
 ·exact a3
 ·rw [if_neg a3] at h; exact absurd h (by decide)
theorem zPN {P : Prob} {k : Nat} {X Y R : List zp} {V : zp} (h1 : zAa P = 0) (h2 : zGd P k X Y R V = 0) : zFL P k X Y R V = if zCC P.prog k (X.map zg) (Y.map zg) (R.map zg) (zg V) = true then 0 else 16 := by
 unfold zFL
 rw [if_neg (fun q => q h1), if_neg (fun q => q h2)]
theorem zEy {l : List Rat} {n : Nat} (hl : l.length = n) (h : ∀ j, j < n → 0 ≤ l.getD j 0) : zCD l = true := by
 unfold zCD
 rw [List.all_eq_true]
 intro q hq
 obtain ⟨i, hi, rfl⟩ := List.getElem_of_mem hq
 have := h i (by omega)
 rw [zDo 0 hi] at this
 exact decide_eq_true this
theorem zDx {n : Nat} {P : Nat → Prop} [DecidablePred P] (h : ∀ i, i < n → P i) : (List.range n).all (fun i => decide (P i)) = true := by
 rw [List.all_eq_true]
 intro i hi
 exact decide_eq_true (h i (by simpa using hi))
theorem Good.lens {p : Prog} {r : Res} (h : Good p r) : r.X.length = (if r.kind = 1 then 0 else p.n) ∧ r.Y.length = (if r.kind = 2 then 0 else p.m) ∧ r.R.length = (if r.kind = 2 then p.n else 0) ∧ (r.kind = 0 ∨ (r.kind = 1 ∧ 0 < p.m) ∨ (r.kind = 2 ∧ 0 < p.n)) := by
 cases h with
 | best hx hy x0 y0 ax ya cx yb => exact ⟨hx, hy, rfl, .inl rfl⟩
 | none hm hy y0 ya yb => exact ⟨rfl, hy, rfl, .inr (.inl ⟨rfl, hm⟩)⟩
 | free hn hx hr x0 r0 ax ar cr => exact ⟨hx, rfl, hr, .inr (.inr ⟨rfl, hn⟩)⟩
theorem Good.zero {p : Prog} {r : Res} (h : Good p r) (h0 : r.kind = 0) : zAB p.C r.X = r.V := by
 cases h with
 | best hx hy x0 y0 ax ya cx yb => exact cx
 | none hm hy y0 ya yb => exact absurd h0 (by show ¬ (1 : Nat) = 0; omega)
 | free hn hx hr x0 r0 ax ar cr => exact absurd h0 (by show ¬ (2 : Nat) = 0; omega)
theorem zE0 {r : Res} (h : zFA r = true) : (∀ q ∈ r.X, zCM q = true) ∧ (∀ q ∈ r.Y, zCM q = true) ∧ (∀ q ∈ r.R, zCM q = true) ∧ (r.kind = 0 → zCM r.V = true) := by
 unfold zFA at h
 rw [Bool.and_eq_true, Bool.and_eq_true, Bool.and_eq_true] at h
 obtain ⟨⟨⟨h1, h2⟩, h3⟩, h4⟩ := h
 refine ⟨List.all_eq_true.1 h1, List.all_eq_true.1 h2, List.all_eq_true.1 h3, fun e => ?_⟩
 rw [if_pos e] at h4; exact h4
theorem fits_D {r : Res} {k : Nat} (hk : k ≤ 2000) (h : (∀ q ∈ r.X, D k q) ∧ (∀ q ∈ r.Y, D k q) ∧ (∀ q ∈ r.R, D k q) ∧ D k r.V) : zFA r = true := by
 unfold zFA
 rw [List.all_eq_true.2 (fun q hq => (h.1 q hq).fit hk), List.all_eq_true.2 (fun q hq => (h.2.1 q hq).fit hk), List.all_eq_true.2 (fun q hq => (h.2.2.1 q hq).fit hk), h.2.2.2.fit hk]
 split <;> rfl
theorem zLG {l : List Rat} (hl : l.length ≤ 40) (h : ∀ q ∈ l, zCM q = true) : zBd (l.map zj) = 0 := by
 unfold zBd
 rw [if_neg (by rw [List.length_map]; omega)]
 exact zGa (zGK h).2
section
variable {P : Prob}
theorem IsP.le (h : IsP P) : P.prog.n ≤ 40 ∧ P.prog.m ≤ 40 := by
 rw [zFD, zFg]
 exact ⟨(zAJ h.c).1, (zAJ h.b).1⟩
theorem Good.len40 {r : Res} (h : IsP P) (hg : Good P.prog r) : r.X.length ≤ 40 ∧ r.Y.length ≤ 40 ∧ r.R.length ≤ 40 := by
 obtain ⟨l1, l2, l3, _⟩ := hg.lens
 obtain ⟨h1, h2⟩ := h.le
 refine ⟨?_, ?_, ?_⟩
 ·rw [l1]; split <;> omega
 ·rw [l2]; split <;> omega
 ·rw [l3]; split <;> omega
theorem zLq {r : Res} (h : IsP P) (hg : Good P.prog r) (hf : zFA r = true) : formE P (zAd r) = 0 := by
 obtain ⟨l1, l2, l3, _⟩ := hg.lens
 obtain ⟨f1, f2, f3, f4⟩ := zE0 hf
 obtain ⟨h1, h2, h3⟩ := Good.len40 h hg
 rw [zFD] at l1 l3
 rw [zFg] at l2
 refine zNm (zLG h1 f1) (zLG h2 f2) (zLG h3 f3) ⟨?_, ?_, ?_⟩ (fun e => ?_) (fun e => ?_)
 ·show (r.X.map zj).length = _
  rw [List.length_map]; exact l1
 ·show (r.Y.map zj).length = _
  rw [List.length_map]; exact l2
 ·show (r.R.map zj).length = _
  rw [List.length_map]; exact l3
 ·show zAy (if r.kind = 0 then zj r.V else []) = 0
  have e : r.kind = 0 := e
  rw [if_pos e]
  exact (zE1 (f4 e)).1
 ·exact if_neg e
theorem zNV {r : Res} (hf : zFA r = true) : (zAd r).X.map zg = r.X ∧ (zAd r).Y.map zg = r.Y ∧ (zAd r).R.map zg = r.R := by
 obtain ⟨f1, f2, f3, f4⟩ := zE0 hf
 exact ⟨(zGK f1).1, (zGK f2).1, (zGK f3).1⟩
/-- nothing negative is accepted -/
theorem zP7 {k : Nat} {X Y R : List zp} {V : zp} (h : zFL P k X Y R V = 0) : zCD (X.map zg) = true ∧ zCD (Y.map zg) = true := by
 have h1 := (zLf h).2.2
 unfold zCC at h1
 rw [Bool.and_eq_true, Bool.and_eq_true, Bool.and_eq_true] at h1
 exact ⟨h1.1.1.1, h1.1.1.2⟩
/-- sizes -/
structure TinyP (n k : Nat) (P : Prob) : Prop where
 m : P.B.length ≤ n
 c : P.C.length ≤ n
 ta : ∀ v ∈ P.A, ∀ s ∈ v, s.length ≤ k
 tb : ∀ s ∈ P.B, s.length ≤ k
 tc : ∀ s ∈ P.C, s.length ≤ k
theorem zK9 {n k : Nat} (h1 : zIi n k P.A = true) (h2 : zIi n k [P.B, P.C] = true) : TinyP n k P := by
 obtain ⟨a1, a2, a3⟩ := zK8 h1
 obtain ⟨b1, b2, b3⟩ := zK8 h2
 exact ⟨b2 P.B (by simp), b2 P.C (by simp), a3, b3 P.B (by simp), b3 P.C (by simp)⟩
theorem W_le {p : Prog} (hn : p.n ≤ 6) (hm : p.m ≤ 6) : p.W 12 ≤ 900 := by
 have h1 : p.E 12 ≤ 96 := by unfold Prog.E; omega
 have h2 : p.T 12 ≤ 98 * 7 := Nat.mul_le_mul (by omega) (by omega)
 unfold Prog.W
 omega
theorem tiny_D (hc : zAa P = 0) (ht : TinyP 6 12 P) {K L : Nat} (hs : Stops P.prog K L) :
 (∀ q ∈ (zAF P.prog K L).X, D 900 q) ∧ (∀ q ∈ (zAF P.prog K L).Y, D 900 q) ∧ (∀ q ∈ (zAF P.prog K L).R, D 900 q) ∧ D 900 (zAF P.prog K L).V := by
 have h := zAg hc
 have hm : P.prog.m ≤ 6 := by rw [zFg]; exact ht.m
 have hn : P.prog.n ≤ 6 := by rw [zFD]; exact ht.c
 obtain ⟨a, b, c, d⟩ := run_D h.Ok (h.Dig (by decide) ht.ta ht.tb ht.tc) (by omega) hs
 have hw := W_le hn hm
 exact ⟨fun q hq => (a q hq).mono hw, fun q hq => (b q hq).mono hw, fun q hq => (c q hq).mono hw, d.mono hw⟩
theorem zKF {K L : Nat} (h : (zAv P K L).2 = 0) : zAa P = 0 ∧ zFA (zAF P.prog K L) = true ∧ (zAv P K L).1 = zAd (zAF P.prog K L) := by
 unfold zAv at h ⊢
 by_cases hc : zAa P ≠ 0
 ·rw [if_pos hc] at h; exact absurd h hc
 ·rw [if_neg hc] at h ⊢
  have hc : zAa P = 0 := Decidable.byContradiction hc
  unfold outR at h ⊢
  by_cases hf : zFA (zAF P.prog K L) = true
  ·rw [if_pos hf]; exact ⟨hc, hf, rfl⟩
  ·rw [if_neg hf] at h; cases h
theorem text_ne (q : Rat) : zj q ≠ [] := by
 unfold zj
 intro h
 have h2 : Lib.decDigits q.num.natAbs = [] := by
  have := (List.append_eq_nil_iff.1 h).2
  exact (List.append_eq_nil_iff.1 this).1
 have h3 := zEx q.num.natAbs
 have h4 : (natE (Lib.decDigits q.num.natAbs)) = 0 ∨ True := .inr trivial
 rw [h2] at h3
 have h5 : q.num.natAbs = 0 := by simpa using h3
 rw [h5, Lib.decDigits_one (by decide)] at h2
 cases h2
/-- another kind is refused -/
theorem ver_kind {r : Res} (hg : Good P.prog r) {k : Nat} (hk : k ≠ r.kind) (hk3 : k < 3) : zFL P k (zAd r).X (zAd r).Y (zAd r).R (zAd r).V ≠ 0 := by
 intro h
 obtain ⟨a1, a2, a3, a4, a5, a6⟩ := zHz (zLf h).2.1
 obtain ⟨l1, l2, l3, l4⟩ := hg.lens
 rw [zFD] at l1 l3 l4
 rw [zFg] at l2 l4
 obtain ⟨m1, m2, m3⟩ := a4
 have m1 : (r.X.map zj).length = if k = 1 then 0 else P.C.length := m1
 have m2 : (r.Y.map zj).length = if k = 2 then 0 else P.B.length := m2
 rw [List.length_map, l1] at m1
 rw [List.length_map, l2] at m2
 by_cases e0 : k = 0
 ·have h1 := a5 e0
  have : (zAd r).V = [] := if_neg (fun e => hk (by rw [e0, e]))
  rw [this] at h1
  exact absurd h1 (by decide +kernel)
 ·have h1 := a6 e0
  by_cases e1 : r.kind = 0
  ·have : (zAd r).V = zj r.V := if_pos e1
   rw [this] at h1
   exact text_ne _ h1
  ·rcases l4 with q | ⟨q, q2⟩ | ⟨q, q2⟩
   ·exact e1 q
   ·rw [if_neg (by omega), if_pos (show k = 2 by omega)] at m2
    omega
   ·rw [if_neg (by omega), if_pos (show k = 1 by omega)] at m1
    omega
/-- another value is refused -/
theorem zQy {r : Res} (hc : zAa P = 0) (hg : Good P.prog r) (hf : zFA r = true) (h0 : r.kind = 0) {s : zp} {q : Rat} (hs : IsQ s q) (hq : q ≠ r.V) : zFL P (zAd r).kind (zAd r).X (zAd r).Y (zAd r).R s = 16 := by
 obtain ⟨e1, e2, e3⟩ := zNV hf
 obtain ⟨a1, a2, a3, a4, a5, a6⟩ := zHz (zLq (zAg hc) hg hf)
 rw [zPN hc (zNm a1 a2 a3 a4 (fun _ => hs.1) (fun e => absurd h0 e)), e1, e2, e3, hs.2]
 refine if_neg (fun hp => ?_)
 have h0 : (zAd r).kind = 0 := h0
 unfold zCC at hp
 rw [if_pos h0] at hp
 simp only [Bool.and_eq_true, decide_eq_true_eq] at hp
 have := hp.2.1.2
 rw [hg.zero h0] at this
 exact hq this.symm
theorem neg_one : IsQ [45, 49] (-1) := by decide +kernel
theorem one_is : IsQ [49] 1 := by decide +kernel
theorem zK0 {l : List zp} (h : zCD (l.map zg) = true) (hm : ([45, 49] : zp) ∈ l) : False := by
 unfold zCD at h
 have := List.all_eq_true.1 h (zg [45, 49]) (List.mem_map_of_mem hm)
 rw [neg_one.2] at this
 exact absurd (of_decide_eq_true this) (by decide +kernel)
/-- a negative element is refused -/
theorem ver_x {k : Nat} {X Y R : List zp} {V : zp} (hm : ([45, 49] : zp) ∈ X) : zFL P k X Y R V ≠ 0 := fun h => zK0 (zP7 h).1 hm
theorem ver_y {k : Nat} {X Y R : List zp} {V : zp} (hm : ([45, 49] : zp) ∈ Y) : zFL P k X Y R V ≠ 0 := fun h => zK0 (zP7 h).2 hm
end
end Go.Ax.Sx
namespace Go.Ax.Sx
open Go.Ax.Dt Go.Ax.Rt Go.Ax.Bg
section
variable {P : Prob}
/-- the numbers of a result with short numbers -/
theorem zMY (hc : zAa P = 0) (hd : P.prog.Dig 12) (hm : P.B.length ≤ 6) (hn : P.C.length ≤ 6) {K L : Nat} (hs : Stops P.prog K L) :
 (∀ q ∈ (zAF P.prog K L).X, D 900 q) ∧ (∀ q ∈ (zAF P.prog K L).Y, D 900 q) ∧ (∀ q ∈ (zAF P.prog K L).R, D 900 q) ∧ D 900 (zAF P.prog K L).V := by
 have h := zAg hc
 have hm : P.prog.m ≤ 6 := by rw [zFg]; exact hm
 have hn : P.prog.n ≤ 6 := by rw [zFD]; exact hn
 obtain ⟨a, b, c, d⟩ := run_D h.Ok hd (by omega) hs
 have hw := W_le hn hm
 exact ⟨fun q hq => (a q hq).mono hw, fun q hq => (b q hq).mono hw, fun q hq => (c q hq).mono hw, d.mono hw⟩
theorem zCs (hc : zAa P = 0) (hd : P.prog.Dig 12) (hm : P.B.length ≤ 6) (hn : P.C.length ≤ 6) {K L : Nat} (hs : Stops P.prog K L) :
 zAv P K L = (zAd (zAF P.prog K L), 0) ∧ zFA (zAF P.prog K L) = true := by
 have hf := fits_D (by decide) (zMY hc hd hm hn hs)
 refine ⟨?_, hf⟩
 unfold zAv outR
 rw [if_neg (fun q => q hc), if_pos hf]
/-- the value plus 1 -/
theorem more_one (hc : zAa P = 0) (ht : TinyP 6 12 P) {K L : Nat} (hs : Stops P.prog K L) :
 ∃ s, zKP (fun x y => x + y) (zj (zAF P.prog K L).V) [49] = (s, 0) ∧ IsQ s ((zAF P.prog K L).V + 1) := by
 have h := (tiny_D hc ht hs).2.2.2
 have h1 : D 902 ((zAF P.prog K L).V + 1) := (h.add (one_D 0)).mono (by decide)
 refine ⟨_, ?_, (h1.out (by decide)).2⟩
 rw [IsQ.two _ (h.out (by decide)).2 one_is]
 exact (h1.out (by decide)).1
theorem plus_ne (q : Rat) : q + 1 ≠ q := by
 intro h
 have : (1 : Rat) = 0 := by grind
 exact absurd this (by decide +kernel)
/-- SimplexRefuses -/
theorem refuses {K L : Nat} (hs : zAa P = 0 → Stops P.prog K L) (h : (zAv P K L).2 = 0) (ht : TinyP 6 12 P) :
 (zAv P K L).1.kind < 3 ∧
 (∀ k, k ≠ (zAv P K L).1.kind → k < 3 → zFL P k (zAv P K L).1.X (zAv P K L).1.Y (zAv P K L).1.R (zAv P K L).1.V ≠ 0) ∧
 ((zAv P K L).1.kind = 0 → ∃ s, zKP (fun x y => x + y) (zAv P K L).1.V [49] = (s, 0) ∧ zFL P 0 (zAv P K L).1.X (zAv P K L).1.Y (zAv P K L).1.R s = 16) := by
 obtain ⟨h1, h2, h3⟩ := zKF h
 have hg := zGt (zAg h1).Ok (hs h1)
 rw [h3]
 refine ⟨?_, fun k hk hk3 => ver_kind hg hk hk3, fun h0 => ?_⟩
 ·have := hg.lens.2.2.2
  show (zAF P.prog K L).kind < 3
  omega
 ·obtain ⟨s, s1, s2⟩ := more_one h1 ht (hs h1)
  have hk : (zAF P.prog K L).kind = 0 := h0
  refine ⟨s, ?_, ?_⟩
  ·have : (zAd (zAF P.prog K L)).V = zj (zAF P.prog K L).V := if_pos hk
   rw [this]; exact s1
  ·have := zQy h1 hg h2 hk s2 (plus_ne _)
   rw [h0] at this
   exact this
end
end Go.Ax.Sx
namespace Go.Ax
variable [Pins]
open Go.RowKit
def eqIs (P : Program) (e : TypeId) (L M : List AV) : List Nat → Option Bool
 | [] => some true
 | i :: is => match eqIs P e L M is, L[i]?, M[i]? with
  | some r, some x, some y => (sclEq P e x y).map (· && r)
  | _, _, _ => none
theorem zMy {P : Program} {w w' : World} {S : Nat → Prop} {σ : Nat → Option Blk} {L M : List AV} {xs ys : Array Value} {d : Nat} {e : TypeId} (h1 : xs.size = L.length) (h2 : ∀ i, i < L.length → VR w S σ (L.getD i .any) (xs.getD i undef)) (h3 : ys.size = M.length) (h4 : ∀ i, i < M.length → VR w S σ (M.getD i .any) (ys.getD i undef)) :
 ∀ (is : List Nat) (b : Bool), eqIs P e L M is = some b → (Op.eqItems (d + 1) e 1 xs ys is).run P w' = .ok b w'
 | [], b, h => by simp [eqIs] at h; subst h; simp [Op.eqItems]
 | i :: is, b, h => by
  simp only [eqIs] at h
  split at h
  ·rename_i r x y hr hL hM
   have ih := zMy (d := d) (w' := w') h1 h2 h3 h4 is r hr
   obtain ⟨v1, e1, r1⟩ := zQF h1 h2 hL
   obtain ⟨v2, e2, r2⟩ := zQF h3 h4 hM
   obtain ⟨q, hq, hb⟩ := Option.map_eq_some_iff.1 h
   obtain ⟨hp, hrun⟩ := zQz (w' := w') hq r1 r2 d
   simp only [Op.eqItems, Nat.mul_one]
   simp only [Sem.run_bind, run_part_plain w' hp e1, Result.andThen_ok, run_part_plain w' hp e2, hrun]
   subst hb
   cases q with
   | false => simp
   | true => simpa using ih
  ·cases h
section
variable {P : Program} {fn : Func} {c : Ctx} {fr : Fr} {H : zO} {k : List It} {ind : Bool} {d : Option Nat} {ty : TypeId} {pos : String} {after : Array Edge} {g : Option (Nat × Bool)}
theorem zF7 {x y : Operand} {t t' e : TypeId} {n : Nat} {inf : TypeInfo} {L M : List AV} {b : Bool} (hx : ev fr x = some (.agg L)) (hy : ev fr y = some (.agg M)) (ht : P.underlying t = some (.array n e)) (hi : P.info? e = some inf) (hc : P.cellsOf e = 1) (hg : P.eqGuardType P.depth t = false)
 (he : eqIs P e L M (List.range n) = some b) : QOp ind P fn c fr H ⟨d, .binOp .neq t x y t', ty, pos, after, g⟩ (.bool (!b)) := by
 intro w a σ S hr
 have h1 := hr.evAt hx
 have h2 := hr.evAt hy
 generalize hz : a.eval x = z at h1
 generalize hzy : a.eval y = zy at h2
 cases h1 with
 | agg _ _ xs a1 a2 a3 =>
  cases h2 with
  | agg _ _ ys b1 b2 b3 =>
   refine ⟨_, .bool _ _, fun w' _ => ?_⟩
   have hr := zMy (d := 9998) (w' := w') a1 a2 b1 b2 _ b he
   simp only [execOp, hz, hzy, Sem.run_bind, run_eqGuard_agg w' _ _ _ _ _ _ hg, Result.andThen_ok, run_neq_struct, show (10000 : Nat) = 9999 + 1 from rfl, run_equalIn_array w' 9999 _ _ ht hi, hc, hr]
   rfl
end
end Go.Ax
namespace Go.Ax
variable [Pins]
open Go.RowKit
/-- Does operation j wait, at last, for operation i? -/
def zNS (all : Array Oper) (idx : List Nat) : Nat → Nat → Nat → Bool
 | 0, _, _ => false
 | n + 1, j, i => match all[j]? with
  | some o => o.after.toList.any (fun e => Region.binds .any e && Nat.beq e.on i) || o.after.toList.any (fun e => Region.binds .any e && (idx.contains e.on && zNS all idx n e.on i))
  | none => false
theorem zLy {cur : Array Bool} {i : Nat} (h : cur.getD i false = true) : cur.getD i true = true := by
 have _p := ‹Pins›
 unfold Array.getD at h ⊢
 split at h
 ·rename_i q
  rw [dif_pos q]; exact h
 ·cases h
theorem zHq {all : Array Oper} {idx : List Nat} {cur : Array Bool} (hcl : ∀ m' ∈ idx, cur.getD m' true = true → ∀ o, all[m']? = some o → ∀ e ∈ o.after, Region.binds .any e = true → cur.getD e.on false = true) :
 ∀ (n j i : Nat), zNS all idx n j i = true → (∀ o, all[j]? = some o → ∀ e ∈ o.after, Region.binds .any e = true → cur.getD e.on false = true) → cur.getD i true = true
 | 0, _, _, h, _ => by cases h
 | n + 1, j, i, h, hd => by
  have _p := ‹Pins›
  rw [zNS] at h
  split at h
  ·rename_i o ho
   rw [Bool.or_eq_true] at h
   rcases h with h | h
   ·obtain ⟨e, he1, he2⟩ := List.any_eq_true.1 h
    rw [Bool.and_eq_true] at he2
    have h3 := hd o ho e (Array.mem_toList_iff.1 he1) he2.1
    rw [Nat.eq_of_beq_eq_true he2.2] at h3
    exact zLy h3
   ·obtain ⟨e, he1, he2⟩ := List.any_eq_true.1 h
    simp only [Bool.and_eq_true] at he2
    have h3 := zLy (hd o ho e (Array.mem_toList_iff.1 he1) he2.1)
    have hm : e.on ∈ idx := by simpa using he2.2.1
    exact zHq hcl n e.on i he2.2.2 (hcl e.on hm h3)
  ·cases h
theorem zNt {cur : Array Bool} {i j : Nat} (h : cur.getD j false = true) : (cur.setIfInBounds i true).getD j false = true := by
 have _p := ‹Pins›
 simp only [Array.getD_eq_getD_getElem?, Array.getElem?_setIfInBounds] at h ⊢
 split
 ·split
  ·rfl
  ·rename_i h1 h2
   subst h1
   rw [Array.getElem?_eq_none (by omega)] at h
   cases h
 ·exact h
theorem zLn {all : Array Oper} {idx : List Nat} {cur : Array Bool} {i : Nat} (_hi : i ∈ idx) (hcl : ∀ m' ∈ idx, cur.getD m' true = true → ∀ o, all[m']? = some o → ∀ e ∈ o.after, Region.binds .any e = true → cur.getD e.on false = true)
 (hd : ∀ o, all[i]? = some o → ∀ e ∈ o.after, Region.binds .any e = true → cur.getD e.on false = true) :
 ∀ m' ∈ idx, (cur.setIfInBounds i true).getD m' true = true → ∀ o, all[m']? = some o → ∀ e ∈ o.after, Region.binds .any e = true → (cur.setIfInBounds i true).getD e.on false = true := by
 have _p := ‹Pins›
 intro m' hm' hu o ho e he hb
 by_cases h : m' = i
 ·subst h
  exact zNt (hd o ho e he hb)
 ·refine zNt (hcl m' hm' ?_ o ho e he hb)
  have h' : ¬ i = m' := fun q => h q.symm
  simpa [Array.getD_eq_getD_getElem?, Array.getElem?_setIfInBounds, h'] using hu
/-- May these operations run in any order, ahead of all others? -/
def okRunT (all : Array Oper) (listed : Array Bool) (idx : List Nat) (k0 : List Nat) : Bool :=
 (idx.all fun i => !listed.getD i true && (match all[i]? with
  | some o => (match o.dst with | some d => !k0.contains d | none => false) && o.after.toList.all (fun e => !Region.binds .any e || (Nat.blt e.on i && (idx.contains e.on || listed.getD e.on false)))
  | none => false)) &&
 ((List.range all.size).all fun j => idx.contains j || listed.getD j true || idx.all (fun i => zNS all idx (idx.length + 1) j i)) &&
 (idx.all fun i => idx.all fun j => Nat.beq i j || !(match all[i]?, all[j]? with | some o, some o' => o.dst == o'.dst | _, _ => false))
section
variable {P : Program} {fn : Func} {c : Ctx} {fr : Fr} {H : zO} {k : List It}
theorem zFR {all : Array Oper} {fuel : Nat} {listed listed' : Array Bool} (idx : List Nat) (K0 : Fr) (hK : zB2 fr K0) (hok : okRunT all listed idx (K0.map (·.1)) = true) (hnd : idx.Nodup) (hd : zDS fn.ntmps all.toList = true) (hl : zGD listed idx = listed')
 (h : zEA P fn c H all K0 idx [] (fun st => Ax P fn c (.any all fuel listed' k) (st.map (·.2) ++ K0) H)) : Ax P fn c (.any all (fuel + idx.length) listed k) fr H := by
 obtain ⟨st, hG, hidx, hst⟩ := zGW h (fun s hs => by simp at hs)
 rw [List.map_nil, List.append_nil] at hidx
 clear h
 unfold okRunT at hok
 simp only [Bool.and_eq_true] at hok
 obtain ⟨⟨ok1, ok2⟩, ok3⟩ := hok
 rw [List.all_eq_true] at ok1 ok2 ok3
 have hmem : ∀ i, i ∈ idx ↔ ∃ s ∈ st, s.1 = i := fun i => by
  have : i ∈ idx.reverse ↔ ∃ s ∈ st, s.1 = i := by rw [← hidx]; simp
  rw [← this, List.mem_reverse]
 have hlen : st.length = idx.length := by
  have := congrArg List.length hidx
  simpa using this
 have hnd' : (st.map (·.1)).Nodup := by rw [hidx]; exact (List.reverse_perm idx).nodup_iff.2 hnd
 have hlt : ∀ i ∈ idx, i < listed.size := fun i hi => by
  have := ok1 i hi
  simp only [Bool.and_eq_true, Bool.not_eq_true'] at this
  rcases Nat.lt_or_ge i listed.size with q | q
  ·exact q
  ·have h1 := this.1
   simp only [Array.getD, show ¬ i < listed.size by omega, dite_false] at h1
   cases h1
 -- the induction
 have key : ∀ (m : Nat) (cur : Array Bool) (fr : Fr), cur.size = listed.size → (∀ j, j ∉ idx → cur[j]? = listed[j]?) → unl cur st = m → (∀ s ∈ st, cur.getD s.1 true = true → look s.2.1 fr = some s.2.2) → zB2 fr K0 → (∀ m' ∈ idx, cur.getD m' true = true → ∀ o, all[m']? = some o → ∀ e ∈ o.after, Region.binds .any e = true → cur.getD e.on false = true) → Ax P fn c (.any all (fuel + m) cur k) fr H := by
  intro m
  induction m with
  | zero =>
   intro cur fr hcs hco hcm hck hk0 hcl
   have hall : ∀ s ∈ st, cur.getD s.1 true = true := fun s hs => by
    cases hq : cur.getD s.1 true with
    | true => rfl
    | false =>
     exfalso
     have h0 : st.filter (fun s => !cur.getD s.1 true) = [] := List.length_eq_zero_iff.1 hcm
     have : s ∈ st.filter (fun s => !cur.getD s.1 true) := List.mem_filter.2 ⟨hs, by rw [hq]; rfl⟩
     rw [h0] at this; simp at this
   have hcur : cur = listed' := by
    rw [← hl]
    apply Array.ext_getElem?
    intro j
    rcases Nat.lt_or_ge j listed.size with q | q
    ·rw [zF9 idx listed j q]
     by_cases hj : j ∈ idx
     ·rw [if_pos hj]
      obtain ⟨s, hs1, hs2⟩ := (hmem j).1 hj
      have := hall s hs1
      rw [hs2] at this
      simp only [Array.getD, show j < cur.size by omega, dite_true] at this
      rw [Array.getElem?_eq_getElem (by omega)]
      exact congrArg some this
     ·rw [if_neg hj]; exact hco j hj
    ·rw [Array.getElem?_eq_none (by omega), Array.getElem?_eq_none (by rw [zFY]; omega)]
   subst hcur
   intro w a σ S hr
   refine hG w a σ S (hr.weaken (zDJ fun p hp => ?_))
   rcases List.mem_append.1 hp with q | q
   ·obtain ⟨s, q1, q2⟩ := List.mem_map.1 q
    rw [← q2]; exact hck s q1 (hall s q1)
   ·exact zDA hk0 p q
  | succ m ih =>
   intro cur fr hcs hco hcm hck hk0 hcl
   -- some step is left
   obtain ⟨s0, hs0, hs0u⟩ : ∃ s ∈ st, cur.getD s.1 true = false := by
    rcases hq : st.filter (fun s => !cur.getD s.1 true) with _ | ⟨s, r⟩
    ·unfold unl at hcm; rw [hq] at hcm; simp at hcm
    ·have : s ∈ st.filter (fun s => !cur.getD s.1 true) := by rw [hq]; simp
     obtain ⟨h1, h2⟩ := List.mem_filter.1 this
     exact ⟨s, h1, by simpa using h2⟩
   have hsub : ∀ i ∈ Region.ready .any all cur, i ∈ idx ∧ cur.getD i true = false := by
    intro i hi
    obtain ⟨h1, o, ho, hdeps⟩ := mem_ready.1 hi
    refine ⟨?_, h1⟩
    apply Classical.byContradiction
    intro hni
    have hjs : i < all.size := (Array.getElem?_eq_some_iff.1 ho).1
    have := ok2 i (List.mem_range.2 hjs)
    simp only [Bool.or_eq_true, ho] at this
    rcases this with (q | q) | q
    ·exact hni (by simpa using q)
    ·have hco' := hco i hni
     have h2 : listed.getD i true = cur.getD i true := by
      simp only [Array.getD_eq_getD_getElem?, hco']
     rw [h2, h1] at q; cases q
    ·rw [List.all_eq_true] at q
     have h3 := zHq hcl _ i s0.1 (q s0.1 ((hmem s0.1).2 ⟨s0, hs0, rfl⟩)) (fun o' ho' e he hb => by
      rw [ho] at ho'
      obtain rfl := Option.some.inj ho'
      exact hdeps e he hb)
     rw [h3] at hs0u; cases hs0u
   have hne : Region.ready .any all cur ≠ [] := by
    intro h0
    -- the least one that is left
    have hex : ∃ i, i ∈ idx ∧ cur.getD i true = false := ⟨s0.1, (hmem s0.1).2 ⟨s0, hs0, rfl⟩, hs0u⟩
    have least : ∀ n i, i ≤ n → i ∈ idx → cur.getD i true = false → False := by
     intro n
     induction n with
     | zero =>
      intro i hi him hiu
      have h1 := ok1 i him
      simp only [Bool.and_eq_true] at h1
      cases hoo : all[i]? with
      | none => rw [hoo] at h1; exact absurd h1.2 (by simp)
      | some o =>
       rw [hoo] at h1
       simp only [Bool.and_eq_true] at h1
       have h2 := List.all_eq_true.1 h1.2.2
       have : i ∈ Region.ready .any all cur := mem_ready.2 ⟨hiu, o, hoo, fun e he hb => by
        have := h2 e (Array.mem_toList_iff.2 he)
        rw [hb] at this
        simp only [Bool.not_true, Bool.false_or, Bool.and_eq_true] at this
        have := Nat.le_of_ble_eq_true this.1
        omega⟩
       rw [h0] at this; simp at this
     | succ n ihn =>
      intro i hi him hiu
      have h1 := ok1 i him
      simp only [Bool.and_eq_true] at h1
      cases hoo : all[i]? with
      | none => rw [hoo] at h1; exact absurd h1.2 (by simp)
      | some o =>
       rw [hoo] at h1
       simp only [Bool.and_eq_true] at h1
       have h2 := List.all_eq_true.1 h1.2.2
       have : i ∈ Region.ready .any all cur := mem_ready.2 ⟨hiu, o, hoo, fun e he hb => by
        have h3 := h2 e (Array.mem_toList_iff.2 he)
        rw [hb] at h3
        simp only [Bool.not_true, Bool.false_or, Bool.and_eq_true, Bool.or_eq_true] at h3
        have hlt' : e.on < i := Nat.le_of_ble_eq_true h3.1
        by_cases hei : e.on ∈ idx
        ·cases hq : cur.getD e.on true with
         | false => exact (ihn e.on (by omega) hei hq).elim
         | true =>
          have hsz := hlt e.on hei
          simp only [Array.getD, show e.on < cur.size by omega, dite_true] at hq ⊢
          exact hq
        ·rcases h3.2 with q | q
         ·exact absurd (by simpa using q) hei
         ·have h2 : cur.getD e.on false = listed.getD e.on false := by simp only [Array.getD_eq_getD_getElem?, hco e.on hei]
          rw [h2]; exact q⟩
       rw [h0] at this; simp at this
    obtain ⟨i, hi1, hi2⟩ := hex
    exact least i i (Nat.le_refl _) hi1 hi2
   refine zH Z hne hd (zJm (fun i hi o ho => ?_))
   obtain ⟨him, hiu⟩ := hsub i hi
   obtain ⟨s, hs1, hs2⟩ := (hmem i).1 him
   obtain ⟨o', K, g1, g2, g3, g4⟩ := hst s hs1
   rw [hs2, ho] at g1
   obtain rfl := Option.some.inj g1
   obtain ⟨_, o2, ho2, hdeps⟩ := mem_ready.1 hi
   rw [ho] at ho2
   obtain rfl := Option.some.inj ho2
   refine g3 _ fr (zDJ fun p hp => ?_) (zP (zAR ?_))
   ·rcases g4 p hp with q | ⟨s', q1, ⟨e, q2, q3, q4⟩, q5⟩
    ·exact zDA hk0 p q
    ·have h1 := hdeps e q2 q3
     rw [q4] at h1
     rw [← q5]
     refine hck s' q1 ?_
     have hsz := hlt s'.1 ((hmem s'.1).2 ⟨s', q1, rfl⟩)
     simp only [Array.getD, show s'.1 < cur.size by omega, dite_true] at h1 ⊢
     exact h1
   ·have hisz := hlt i him
    refine ih (cur.setIfInBounds i true) _ (by simpa using hcs) (fun j hj => ?_) ?_ (fun s' hs' hu => ?_) ?_ (zLn him hcl (fun o' ho' e he hb => by rw [ho] at ho'; obtain rfl := Option.some.inj ho'; exact hdeps e he hb))
    ·rw [Array.getElem?_setIfInBounds_ne (show i ≠ j from fun e => hj (e ▸ him))]; exact hco j hj
    ·-- one less
     have hf : st.filter (fun s' => !(cur.setIfInBounds i true).getD s'.1 true) = (st.filter (fun s' => !cur.getD s'.1 true)).filter (fun s' => decide (s'.1 ≠ i)) := by
      rw [List.filter_filter]
      congr 1
      funext s'
      by_cases hq : s'.1 = i
      ·rw [hq]; simp [Array.getD, show i < cur.size by omega]
      ·have hq' : ¬ i = s'.1 := fun e => hq e.symm
       simp [Array.getD_eq_getD_getElem?, Array.getElem?_setIfInBounds, hq, hq']
     unfold unl at hcm ⊢
     rw [hf]
     have hmemf : s ∈ st.filter (fun s' => !cur.getD s'.1 true) := List.mem_filter.2 ⟨hs1, by rw [hs2, hiu]; rfl⟩
     have hndf : ((st.filter (fun s' => !cur.getD s'.1 true)).map (·.1)).Nodup := List.Nodup.sublist (List.Sublist.map _ List.filter_sublist) hnd'
     revert hcm hmemf hndf
     generalize st.filter (fun s' => !cur.getD s'.1 true) = L
     intro hcm hmemf hndf
     have gen : ∀ (L : Steps) (n : Nat), L.length = n + 1 → s ∈ L → (L.map (·.1)).Nodup → (L.filter (fun s' => decide (s'.1 ≠ i))).length = n := by
      intro L
      induction L with
      | nil => intro n h; simp at h
      | cons x r ihL =>
       intro n hn hm hnd
       simp only [List.map_cons, List.nodup_cons] at hnd
       rcases List.mem_cons.1 hm with rfl | hm
       ·have hno : ∀ y ∈ r, y.1 ≠ i := fun y hy e => hnd.1 (List.mem_map.2 ⟨y, hy, by rw [e, hs2]⟩)
        have : (r.filter (fun s' => decide (s'.1 ≠ i))) = r := List.filter_eq_self.2 (fun y hy => by simpa using hno y hy)
        rw [List.filter_cons_of_neg (by simp [hs2]), this]
        simpa using hn
       ·have hx : x.1 ≠ i := fun e => hnd.1 (List.mem_map.2 ⟨s, hm, by rw [hs2, e]⟩)
        have hr0 : 0 < r.length := List.length_pos_iff.2 (by rintro rfl; simp at hm)
        obtain ⟨n', rfl⟩ : ∃ n', n = n' + 1 := ⟨n - 1, by simp at hn; omega⟩
        rw [List.filter_cons_of_pos (by simpa using hx), List.length_cons, ihL n' (by simpa using hn) hm hnd.2]
     exact gen L m hcm hmemf hndf
    ·by_cases hq : s'.1 = i
     ·have : s' = s := by
       have h1 : s ∈ st := hs1
       have hinj : ∀ (L : Steps), (L.map (·.1)).Nodup → ∀ x ∈ L, ∀ y ∈ L, x.1 = y.1 → x = y := by
        intro L
        induction L with
        | nil => intro _ x hx; simp at hx
        | cons z r ihL =>
         intro hnd x hx y hy hxy
         simp only [List.map_cons, List.nodup_cons] at hnd
         rcases List.mem_cons.1 hx with hx | hx <;> rcases List.mem_cons.1 hy with hy | hy
         ·rw [hx, hy]
         ·exact absurd (List.mem_map.2 ⟨y, hy, by rw [← hxy, hx]⟩) hnd.1
         ·exact absurd (List.mem_map.2 ⟨x, hx, by rw [hxy, hy]⟩) hnd.1
         ·exact ihL hnd.2 x hx y hy hxy
       exact hinj st hnd' s' hs' s hs1 (by rw [hq, hs2])
      rw [this]
      exact zMH _ _ _
     ·have h1 : cur.getD s'.1 true = true := by
       have hq' : ¬ i = s'.1 := fun e => hq e.symm
       simpa [Array.getD_eq_getD_getElem?, Array.getElem?_setIfInBounds, hq'] using hu
      have h2 := hck s' hs' h1
      -- another slot
      have hne2 : s'.2.1 ≠ s.2.1 := by
       intro e
       obtain ⟨o3, _, f1, f2, _, _⟩ := hst s' hs'
       have h3 := List.all_eq_true.1 (ok3 s'.1 ((hmem s'.1).2 ⟨s', hs', rfl⟩)) i him
       rw [f1, ho] at h3
       simp only [Bool.or_eq_true, Bool.not_eq_true', f2, g2] at h3
       rcases h3 with h3 | h3
       ·exact hq (Nat.eq_of_beq_eq_true h3)
       ·rw [e] at h3; simp at h3
      show (bif Nat.beq s'.2.1 s.2.1 then some s.2.2 else look s'.2.1 fr) = _
      rw [zx hne2]; exact h2
    ·refine zDJ fun p hp => ?_
     have h1 := ok1 i him
     simp only [Bool.and_eq_true] at h1
     rw [ho] at h1
     simp only [g2, Bool.and_eq_true, Bool.not_eq_true'] at h1
     have hne3 : p.1 ≠ s.2.1 := by
      intro e
      have : (K0.map (·.1)).contains s.2.1 = true := by
       rw [List.contains_iff_mem]
       exact List.mem_map.2 ⟨p, hp, e⟩
      rw [h1.2.1] at this; cases this
     show (bif Nat.beq p.1 s.2.1 then some s.2.2 else look p.1 fr) = _
     rw [zx hne3]; exact zDA hk0 p hp
 have hm0 : unl listed st = idx.length := by
  unfold unl
  rw [List.filter_eq_self.2 (fun s hs => ?_), hlen]
  have := ok1 s.1 ((hmem s.1).2 ⟨s, hs, rfl⟩)
  simp only [Bool.and_eq_true] at this
  exact this.1
 have := key idx.length listed fr rfl (fun _ _ => rfl) hm0 (fun s hs hu => by
  have h1 := ok1 s.1 ((hmem s.1).2 ⟨s, hs, rfl⟩)
  simp only [Bool.and_eq_true, Bool.not_eq_true'] at h1
  rw [h1.1] at hu; cases hu) hK (fun m' hm' hu => by
  have h1 := ok1 m' hm'
  simp only [Bool.and_eq_true, Bool.not_eq_true'] at h1
  rw [h1.1] at hu; cases hu)
 exact this
end
end Go.Ax
namespace Go.Ax
variable [Pins]
open Go.RowKit
theorem zFV {P : Program} {fn : Func} {c : Ctx} {H : zO} {all : Array Oper} {K0 : Fr} {i : Nat} {r : List Nat} {st : Steps} {G : Steps → Prop} {d : Nat} {g : Operand} {args : List Operand} {ats : Array TypeId} {ty : TypeId} {pos : String} {after : Array Edge} {f : FuncId} {caps ags ags' : List AV} {v : AV} {K : Fr} {j t : Nat} {p : Bool}
 (hi : all[i]? = some ⟨some d, .call { callee := .value g, args := args.toArray, argTypes := ats }, ty, pos, after, some (j, p)⟩)
 (hK : zFp st K0 ⟨some d, .call { callee := .value g, args := args.toArray, argTypes := ats }, ty, pos, after, some (j, p)⟩ = K) (hy : zEY all j = some t) (hb : look t K = some (.bool p)) (hg : ev K g = some (.fn f caps)) (ha : evs K args = some ags) (has : ags ++ caps = ags') (hcall : zU P f ags' v)
 (h : zEA P fn c H all K0 r ((i, d, v) :: st) G) : zEA P fn c H all K0 (i :: r) st G :=
 ⟨_, _, _, hi, rfl, hK ▸ zJB hy hb (pure_v hg ha has hcall), h⟩
end Go.Ax
namespace Go.Proofs.YtnkealfaldjipaaGreatDoor
open Go.Ax Go.Ax.Bg Go.Ax.Rt Go.RowKit Go.Ax.Idx Go.Ax.Cd Go.Ax.Sx
attribute [local irreducible] Ax zBZ QOp zS zBC
set_option maxRecDepth 100000
set_option maxHeartbeats 4000000
def cellsX (P : Prob) : List AV := [.ro (zr P.A) 0 P.A.length, .ro (.strs P.B) 0 P.B.length, .ro (.strs P.C) 0 P.C.length]
structure ShortPr (P : Prob) : Prop where
 a : P.A.length ≤ 9223372036854775807
 r : ∀ r ∈ P.A, r.length ≤ 9223372036854775807 ∧ ∀ s ∈ r, s.length ≤ 9223372036854775807
 b : P.B.length ≤ 9223372036854775807
 bs : ∀ s ∈ P.B, s.length ≤ 9223372036854775807
 c : P.C.length ≤ 9223372036854775807
 cs : ∀ s ∈ P.C, s.length ≤ 9223372036854775807
theorem zEw (A : List (List zp)) (B C : List zp) (h : ShortPr ⟨A, B, C⟩) : zU Tryz.prog 52 [.agg [.ro (zr A) 0 A.length, .ro (.strs B) 0 B.length, .ro (.strs C) 0 C.length]] (.int .i64 (zAa ⟨A, B, C⟩)) := by
 obtain ⟨ha, hr, hb, hbs, hc, hcs⟩ := h
 have c1 := zJI A ha hr
 have c2 := zFj B hb hbs
 have c3 := zFj C hc hcs
 refine zS.value0 (zE (P := Tryz.prog) (fn := Tryz.f52) Z Z (by kernel_rfl) Z (fun c hR hfix => ?_)) (fix := fun _ => False) (fun _ h => h) Z Z
 unfold zAa at hR
 simp only at *
 refine rn6 ?_
 by_cases hA : (40 : Int) < ((A.length : Nat) : Int)
 ·rw [decide_eq_true hA]
  rw [if_pos (.inl (by omega))] at hR
  refine rn6 ?_
  exact zI hR Z Z
 rw [decide_eq_false hA]
 refine rn6 ?_
 refine zD Z (fun hC => ?_) (fun hC => ?_)
 ·rw [if_pos (.inr (by omega))] at hR
  refine rn2 ?_
  exact zI hR Z Z
 rw [if_neg (by omega)] at hR
 refine rn5 ?_
 refine zB Z Z Z c1 ?_
 refine rn3 ?_
 refine zD Z (fun h1 => ?_) (fun h1 => ?_)
 ·rw [if_pos h1] at hR
  refine rn2 ?_
  exact zI hR Z Z
 rw [if_neg h1] at hR
 refine zGh ?_
 refine zh (ι := Nat) (fun k => [(1, .ptr 0 0 0), (27, .agg [.ro (.strs B) 0 B.length, .ro (.strs C) 0 C.length]), (28, .int .i64 (k : Nat))]) (fun _ => [some ⟨85, .box [.ro (zr A) 0 A.length, .ro (.strs B) 0 B.length, .ro (.strs C) 0 C.length]⟩])
  (fun k => k ≤ 2 ∧ (1 ≤ k → zBd B = 0) ∧ (2 ≤ k → zBd C = 0)) (fun k => 2 - k) 0 ⟨⟨rfl, rfl, rfl, trivial⟩, rfl, by decide, by omega, by omega⟩ ?_
 rintro k ⟨hk, hkB, hkC⟩
 refine rn4 ?_
 refine zD Z (fun h2 => ?_) (fun h2 => ?_)
 ·have hk2 : k = 0 ∨ k = 1 := by omega
  rcases hk2 with rfl | rfl
  ·refine rn1 ?_
   refine zG (zEO Z Z Z Z Z Z Z ⟨by decide, by decide, (by show ((0 : Nat) : Int) < ((2 : Nat) : Int); decide)⟩) ?_
   refine rn0 ?_
   refine zB Z Z Z c2 ?_
   refine rn3 ?_
   refine zD Z (fun h3 => ?_) (fun h3 => ?_)
   ·rw [if_pos h3] at hR
    refine rn6 ?_
    exact zI hR Z Z
   refine rn5 ?_
   exact zM ⟨1, ⟨by omega, fun _ => Classical.not_not.1 h3, fun q => absurd q (by decide)⟩, by omega, ⟨Z, Z, Z, trivial⟩, Z⟩
  ·refine rn1 ?_
   refine zG (zEO Z Z Z Z Z Z Z ⟨by decide, by decide, (by show ((1 : Nat) : Int) < ((2 : Nat) : Int); decide)⟩) ?_
   refine rn0 ?_
   refine zB Z Z Z c3 ?_
   refine rn3 ?_
   refine zD Z (fun h3 => ?_) (fun h3 => ?_)
   ·rw [if_neg (fun q => q (hkB (by omega))), if_pos h3] at hR
    refine rn6 ?_
    exact zI hR Z Z
   refine rn5 ?_
   exact zM ⟨2, ⟨by omega, fun _ => hkB (by omega), fun q => Classical.not_not.1 h3⟩, by omega, ⟨Z, Z, Z, trivial⟩, Z⟩
 ·have hk2 : k = 2 := by omega
  subst hk2
  rw [if_neg (fun q => q (hkB (by decide))), if_neg (fun q => q (hkC (by decide)))] at hR
  refine rn5 ?_
  refine zo (by kernel_rfl) ?_
  by_cases hl : B.length = A.length
  case neg =>
   rw [if_pos (.inl hl)] at hR
   refine zv (fuel := 0) [0, 1, 2, 3, 4, 5, 6, 7, 8, 9, 10, 11, 12, 13, 14, 15, 16, 17, 18, 19, 20, 21, 22, 23] [(1, .ptr 0 0 0), (27, .agg [.ro (.strs B) 0 B.length, .ro (.strs C) 0 C.length]), (28, .int .i64 (2 : Nat))] ⟨Z, Z, Z, trivial⟩ (by kernel_rfl) (by decide) Z Z ?_
   refine zK Z Z (zJ Z Z Z Z Z Z) ?_
   refine zK Z Z (zQ Z Z Z Z Z) ?_
   refine zK Z Z (zA5 Z Z Z) ?_
   refine zK Z Z (zJ Z Z Z Z Z Z) ?_
   refine zK Z Z (zQ Z Z Z Z Z) ?_
   refine zK Z Z (zA5 Z Z Z) ?_
   refine zK Z Z (zF8 Z Z) ?_
   rw [decide_eq_true (show ¬ ((B.length : Nat) : Int) = ((A.length : Nat) : Int) by omega)]
   refine zK Z Z (zL Z) ?_
   refine zAA Z Z Z Z Z ?_
   refine zAA Z Z Z Z Z ?_
   refine zAA Z Z Z Z Z ?_
   refine zAA Z Z Z Z Z ?_
   refine zAA Z Z Z Z Z ?_
   refine zBP Z Z Z Z ?_
   refine zBP Z Z Z Z ?_
   refine zBP Z Z Z Z ?_
   refine zBP Z Z Z Z ?_
   refine zBP Z Z Z Z ?_
   refine zBP Z Z Z Z ?_
   refine zBP Z Z Z Z ?_
   refine zBP Z Z Z Z ?_
   refine zBP Z Z Z Z ?_
   refine zAA Z Z Z Z Z ?_
   refine zK Z Z (zAb Z Z) ?_
   refine zz ?_
   refine zX (by kernel_rfl) ?_
   refine rn5 ?_
   exact zI hR Z Z
  by_cases hA0 : A = []
  ·rw [if_neg (by
    rintro (q | q)
    ·exact q hl
    ·exact q.1 hA0)] at hR
   have hA1 : A.length = 0 := by rw [hA0]; rfl
   refine zv (fuel := 0) [0, 1, 2, 3, 4, 5, 6, 7, 8, 9, 10, 11, 12, 13, 14, 15, 16, 17, 18, 19, 20, 21, 22, 23] [(1, .ptr 0 0 0), (27, .agg [.ro (.strs B) 0 B.length, .ro (.strs C) 0 C.length]), (28, .int .i64 (2 : Nat))] ⟨Z, Z, Z, trivial⟩ (by kernel_rfl) (by decide) Z Z ?_
   refine zK Z Z (zJ Z Z Z Z Z Z) ?_
   refine zK Z Z (zQ Z Z Z Z Z) ?_
   refine zK Z Z (zA5 Z Z Z) ?_
   refine zK Z Z (zJ Z Z Z Z Z Z) ?_
   refine zK Z Z (zQ Z Z Z Z Z) ?_
   refine zK Z Z (zA5 Z Z Z) ?_
   refine zK Z Z (zF8 Z Z) ?_
   rw [decide_eq_false (show ¬ ¬ ((B.length : Nat) : Int) = ((A.length : Nat) : Int) by omega)]
   refine zK Z Z (zL Z) ?_
   refine zAL Z Z Z Z (zJ Z Z Z Z Z Z) ?_
   refine zAL Z Z Z Z (zQ Z Z Z Z Z) ?_
   refine zAL Z Z Z Z (zA5 Z Z Z) ?_
   refine zAL Z Z Z Z (zK5 Z Z) ?_
   rw [decide_eq_false (show ¬ (0 : Int) < ((A.length : Nat) : Int) by omega)]
   refine zAL Z Z Z Z (zL Z) ?_
   refine zAA Z Z Z Z Z ?_
   refine zAA Z Z Z Z Z ?_
   refine zAA Z Z Z Z Z ?_
   refine zAA Z Z Z Z Z ?_
   refine zAA Z Z Z Z Z ?_
   refine zAA Z Z Z Z Z ?_
   refine zAA Z Z Z Z Z ?_
   refine zAA Z Z Z Z Z ?_
   refine zAA Z Z Z Z Z ?_
   refine zAL Z Z Z Z (zAb Z Z) ?_
   refine zK Z Z (zAb Z Z) ?_
   refine zz ?_
   refine zX (by kernel_rfl) ?_
   refine rn4 ?_
   exact zI hR Z Z
  have hA1 : 0 < A.length := List.length_pos_iff.2 hA0
  refine zv (fuel := 0) [0, 1, 2, 3, 4, 5, 6, 7, 8, 9, 10, 11, 12, 13, 14, 15, 16, 17, 18, 19, 20, 21, 22, 23] [(1, .ptr 0 0 0), (27, .agg [.ro (.strs B) 0 B.length, .ro (.strs C) 0 C.length]), (28, .int .i64 (2 : Nat))] ⟨Z, Z, Z, trivial⟩ (by kernel_rfl) (by decide) Z Z ?_
  refine zK Z Z (zJ Z Z Z Z Z Z) ?_
  refine zK Z Z (zQ Z Z Z Z Z) ?_
  refine zK Z Z (zA5 Z Z Z) ?_
  refine zK Z Z (zJ Z Z Z Z Z Z) ?_
  refine zK Z Z (zQ Z Z Z Z Z) ?_
  refine zK Z Z (zA5 Z Z Z) ?_
  refine zK Z Z (zF8 Z Z) ?_
  rw [decide_eq_false (show ¬ ¬ ((B.length : Nat) : Int) = ((A.length : Nat) : Int) by omega)]
  refine zK Z Z (zL Z) ?_
  refine zAL Z Z Z Z (zJ Z Z Z Z Z Z) ?_
  refine zAL Z Z Z Z (zQ Z Z Z Z Z) ?_
  refine zAL Z Z Z Z (zA5 Z Z Z) ?_
  refine zAL Z Z Z Z (zK5 Z Z) ?_
  rw [decide_eq_true (show (0 : Int) < ((A.length : Nat) : Int) by omega)]
  refine zAL Z Z Z Z (zL Z) ?_
  refine zAL Z Z Z Z (zJ Z Z Z Z Z Z) ?_
  refine zAL Z Z Z Z (zQ Z Z Z Z Z) ?_
  refine zAL Z Z Z Z (zAU Z Z Z Z (by first | (simp only [Nat.zero_add, Int.toNat_natCast, Int.toNat_zero]; exact Z) | exact Z) (by omega)) ?_
  refine zAL Z Z Z Z (zCx Z Z Z Z) ?_
  refine zAL Z Z Z Z (zA5 Z Z Z) ?_
  refine zAL Z Z Z Z (zJ Z Z Z Z Z Z) ?_
  refine zAL Z Z Z Z (zQ Z Z Z Z Z) ?_
  refine zAL Z Z Z Z (zA5 Z Z Z) ?_
  refine zAL Z Z Z Z (zF8 Z Z) ?_
  refine zAL Z Z Z Z (zAb Z Z) ?_
  refine zK Z Z (zAb Z Z) ?_
  refine zz ?_
  refine zX (by kernel_rfl) ?_
  repeat (refine zF ?_)
  refine zD Z (fun h8 => ?_) (fun h8 => ?_)
  ·rw [if_pos (.inr ⟨hA0, by show (A.getD 0 []).length ≠ C.length; omega⟩)] at hR
   refine rn2 ?_
   exact zI hR Z Z
  ·rw [if_neg (by
    rintro (q | q)
    ·exact q hl
    ·exact q.2 (show (A.getD 0 []).length = C.length by omega))] at hR
   refine rn1 ?_
   exact zI hR Z Z
def zMv (A : List (List zp)) (B C : List zp) : AV := .agg [.ro (zn (inM A)) 0 A.length, .ro (qsC (B.map zg)) 0 B.length, .ro (qsC (C.map zg)) 0 C.length]
theorem sin_ok (A : List (List zp)) (B C : List zp) (hA : A.length ≤ 1000000) (hr : ∀ r ∈ A, r.length ≤ 1000000 ∧ ∀ s ∈ r, s.length ≤ 9223372036854775807 ∧ zAy s = 0) (hB : B.length ≤ 1000000) (hb : ∀ s ∈ B, s.length ≤ 9223372036854775807 ∧ zAy s = 0) (hC : C.length ≤ 1000000) (hc : ∀ s ∈ C, s.length ≤ 9223372036854775807 ∧ zAy s = 0) :
 zU Tryz.prog 119 [.agg [.ro (zr A) 0 A.length, .ro (.strs B) 0 B.length, .ro (.strs C) 0 C.length]] (zMv A B C) := by
 have c1 := zO0 A hA hr
 have c2 := in_ok B hB hb
 have c3 := in_ok C hC hc
 unfold zMv
 refine zS.value0 (zE (P := Tryz.prog) (fn := Tryz.f119) Z Z (by kernel_rfl) Z (fun c hR hfix => ?_)) (fix := fun _ => False) (fun _ h => h) Z Z
 generalize inM A = QA at *
 generalize B.map zg = QB at *
 generalize C.map zg = QC at *
 refine rn6 ?_
 refine zo (by kernel_rfl) ?_
 refine zv (fuel := 1) [0, 1, 2, 3, 4, 5, 6, 7, 8, 9] [(1, .ptr 0 0 0), (2, .ptr 1 0 0)] ⟨Z, Z, trivial⟩ (by kernel_rfl) (by decide) Z Z ?_
 refine zK Z Z (zJ Z Z Z Z Z Z) ?_
 refine zK Z Z (zQ Z Z Z Z Z) ?_
 refine zAc Z Z Z Z Z c1 ?_
 refine zK Z Z (zJ Z Z Z Z Z Z) ?_
 refine zK Z Z (zQ Z Z Z Z Z) ?_
 refine zAc Z Z Z Z Z c2 ?_
 refine zK Z Z (zJ Z Z Z Z Z Z) ?_
 refine zK Z Z (zQ Z Z Z Z Z) ?_
 refine zAc Z Z Z Z Z c3 ?_
 refine zK Z Z (zA0 Z Z Z Z Z Z) ?_
 refine zz ?_
 refine zH (is := [10]) (by kernel_rfl) (by simp) Z ⟨fun o ho => ?_, trivial⟩
 all_goals (cases ho)
 skip
 refine zN (c' := .box [.ro (zn QA) 0 A.length, .ro (qsC QB) 0 B.length, .ro (qsC QC) 0 C.length]) Z Z Z Z Z Nat.zero_lt_one Z Z (fun i' j' hi' hj' => ?_) ?_
 ·rw [if_pos (Nat.lt_one_iff.1 hi')]; rfl
 refine rn1 ?_
 refine zX (by kernel_rfl) ?_
 refine rn0 ?_
 exact zI hR Z Z
theorem zMo (q : Rat) : decide (0 ≤ sgn q.num) = decide (0 ≤ q) := by
 rw [Bool.eq_iff_iff, decide_eq_true_eq, decide_eq_true_eq, ← Rat.num_nonneg]
 unfold sgn
 split
 ·constructor <;> intro <;> omega
 ·split <;> constructor <;> intro <;> omega
theorem zP3 (q : Rat) : decide (sgn q.num ≤ 0) = decide (q ≤ 0) := by
 have h := zN9 (q := q)
 have h1 : 0 ≤ sgn q.num ↔ 0 ≤ q := by have := zMo q; rwa [Bool.eq_iff_iff, decide_eq_true_eq, decide_eq_true_eq] at this
 rw [Bool.eq_iff_iff, decide_eq_true_eq, decide_eq_true_eq]
 constructor
 ·intro h2
  by_cases h3 : q = 0
  ·rw [h3]; exact Rat.le_refl
  ·have : ¬ 0 ≤ q := fun h4 => h3 (h.1 (by have := h1.2 h4; omega))
   grind
 ·intro h2
  by_cases h3 : 0 ≤ q
  ·have : q = 0 := by grind
   have := h.2 this; omega
  ·have : ¬ 0 ≤ sgn q.num := fun h4 => h3 (h1.1 h4)
   omega
theorem cmpQ_le (p q : Rat) : decide (zD0 p q ≤ 0) = decide (p ≤ q) := by
 rw [Bool.eq_iff_iff, decide_eq_true_eq, decide_eq_true_eq]
 unfold zD0
 split
 ·rename_i h; constructor <;> intro _ <;> first | omega | grind
 ·split
  ·rename_i h1 h2; subst h2; constructor <;> intro _ <;> first | omega | exact Rat.le_refl
  ·rename_i h1 h2
   constructor
   ·intro h; omega
   ·intro h; exact absurd h (by grind)
theorem cmpQ_ge (p q : Rat) : decide (0 ≤ zD0 p q) = decide (q ≤ p) := by
 rw [Bool.eq_iff_iff, decide_eq_true_eq, decide_eq_true_eq]
 unfold zD0
 split
 ·rename_i h; constructor
  ·intro h; omega
  ·intro h2; exact absurd h2 (by grind)
 ·split
  ·rename_i h1 h2; subst h2; constructor <;> intro _ <;> first | omega | exact Rat.le_refl
  ·rename_i h1 h2
   constructor <;> intro _ <;> first | omega | grind
theorem pnn_ok (i : Int) (q : Rat) : zU Tryz.prog 172 [.int .i64 i, qA q] (.bool (decide (0 ≤ q))) := by
 have c1 := zEB q
 rw [← zMo]
 refine zS.value0 (zE (P := Tryz.prog) (fn := Tryz.f172) Z Z (by kernel_rfl) Z (fun c hR hfix => ?_)) (fix := fun _ => False) (fun _ h => h) Z Z
 unfold qA
 refine rn6 ?_
 refine zB Z Z Z c1 ?_
 refine rn8 ?_
 exact zI hR Z Z
theorem pnp_ok (i : Int) (q : Rat) : zU Tryz.prog 179 [.int .i64 i, qA q] (.bool (decide (q ≤ 0))) := by
 have c1 := zEB q
 rw [← zP3]
 refine zS.value0 (zE (P := Tryz.prog) (fn := Tryz.f179) Z Z (by kernel_rfl) Z (fun c hR hfix => ?_)) (fix := fun _ => False) (fun _ h => h) Z Z
 unfold qA
 refine rn6 ?_
 refine zB Z Z Z c1 ?_
 refine zHe ?_
 exact zI hR Z Z
theorem zNO {F : Nat → Bool} {n k : Nat} (hk : k < n) (h : (List.range k).all F = true) (hF : F k = false) : (List.range n).all F = false := by
 cases hq : (List.range n).all F
 ·rfl
 ·rw [List.all_eq_true] at hq
  have := hq k (List.mem_range.2 hk)
  rw [hF] at this; cases this
theorem zQG (l : List Rat) (g : FuncId) (caps : List AV) (F : Nat → Bool) (hc : noRef.noRefs caps = true) (hcb : zCP 0 caps = true) (hlen : l.length ≤ 9223372036854775807) (hg : ∀ i, i < l.length → zU Tryz.prog g ([.int .i64 (i : Nat), qA (l.getD i 0)] ++ caps) (.bool (F i))) :
 zU Tryz.prog 173 [.ro (qsC l) 0 l.length, .fn g caps] (.bool ((List.range l.length).all F)) := by
 refine zS.value0 (zE (P := Tryz.prog) (fn := Tryz.f173) Z Z (by kernel_rfl) Z (fun c hR hfix => ?_)) (fix := fun _ => False) (fun _ h => h) (by simp [noRef.noRefs, noRef, hc]) Z
 refine rn3 ?_
 refine zh (ι := Nat) (fun k => [(1, .fn g caps), (7, .ro (qsC l) 0 l.length), (8, .int .i64 (l.length : Nat)), (9, .int .i64 (k : Nat))]) (fun _ => [])
  (fun k => k ≤ l.length ∧ (List.range k).all F = true) (fun k => l.length - k) 0 ⟨⟨rfl, rfl, rfl, rfl, trivial⟩, rfl, Nat.zero_le _, rfl⟩ ?_
 rintro k ⟨hk, hall⟩
 refine rn4 ?_
 refine zD Z (fun h => ?_) (fun h => ?_)
 ·have hk' : k < l.length := by omega
  have hgk := hg k hk'
  refine rn6 ?_
  refine zA 13 (.agg (zq (l.getD k 0))) Z (AEq.of_eq Z) ?_
  refine zN (c' := .box (zq (l.getD k 0))) Z Z Z Z Z Nat.zero_lt_one Z Z (fun i' j' hi' hj' => ?_) ?_
  ·rw [if_pos (Nat.lt_one_iff.1 hi')]; rfl
  refine rn6 ?_
  refine zB Z Z Z hgk ?_
  cases hF : F k
  ·rw [zNO hk' hall hF] at hR
   refine rn6 ?_
   exact zI hR Z Z
  ·refine zEg ?_
   refine zF ?_
   refine zEg ?_
   refine zF ?_
   refine zA3 [] _ [(1, .fn g caps), (7, .ro (qsC l) 0 l.length), (8, .int .i64 (l.length : Nat)), (9, .int .i64 (k : Nat))] Z ⟨Z, Z, Z, Z, trivial⟩ (fun h hh => by rw [hfix] at hh; exact absurd hh id) (fun h o ho => by simp at ho) (by show (zCP 0 caps && _) = true; rw [hcb]; rfl) ?_
   refine rn3 ?_
   exact zM ⟨k + 1, ⟨by omega, by rw [List.range_succ, List.all_append, hall]; show (true && (F k && true)) = true; rw [hF]; rfl⟩, by omega, ⟨Z, Z, Z, Z, trivial⟩, Z⟩
 ·have hke : k = l.length := by omega
  subst hke
  rw [hall] at hR
  refine rn5 ?_
  exact zI hR Z Z
def zGe (A : List (List Rat)) (B C : List Rat) : Cells := .box [.ro (zn A) 0 A.length, .ro (qsC B) 0 B.length, .ro (qsC C) 0 C.length]
/-- rows: a condition of the products of all rows with a vector -/
theorem zNG (A : List (List Rat)) (B C v : List Rat) (g : FuncId) (caps : List AV) (F : Nat → Bool) (hc : noRef.noRefs caps = true) (hcb : zCP 0 caps = true) (hA : A.length ≤ 1000000)
 (hd : ∀ i, i < A.length → zU Tryz.prog 125 [.ro (qsC (A.getD i [])) 0 (A.getD i []).length, .ro (qsC v) 0 v.length] (qA (zAB (A.getD i []) v)))
 (hg : ∀ i, i < A.length → zU Tryz.prog g ([.int .i64 (i : Nat), qA (zAB (A.getD i []) v)] ++ caps) (.bool (F i))) :
 zU Tryz.prog 175 [.ro (qsC v) 0 v.length, .fn g caps, .rp (zGe A B C) 0 0] (.bool ((List.range A.length).all F)) := by
 refine zS.value0 (zE (P := Tryz.prog) (fn := Tryz.f175) Z Z (by kernel_rfl) Z (fun c hR hfix => ?_)) (fix := fun _ => False) (fun _ h => h) (by simp [noRef.noRefs, noRef, hc]) Z
 unfold zGe
 refine rn17 ?_
 refine zh (ι := Nat) (fun k => [(0, .ro (qsC v) 0 v.length), (1, .fn g caps), (9, .ro (zn A) 0 A.length), (10, .int .i64 (A.length : Nat)), (11, .int .i64 (k : Nat))]) (fun _ => [])
  (fun k => k ≤ A.length ∧ (List.range k).all F = true) (fun k => A.length - k) 0 ⟨⟨rfl, rfl, rfl, rfl, rfl, trivial⟩, rfl, Nat.zero_le _, rfl⟩ ?_
 rintro k ⟨hk, hall⟩
 refine rn4 ?_
 refine zD Z (fun h => ?_) (fun h => ?_)
 ·have hk' : k < A.length := by omega
  have hgk := hg k hk'
  have hdk := hd k hk'
  generalize zAB (A.getD k []) v = q at *
  refine rn6 ?_
  refine zB Z Z Z hdk ?_
  skip
  refine zB Z Z Z hgk ?_
  cases hF : F k
  ·rw [zNO hk' hall hF] at hR
   refine rn6 ?_
   exact zI hR Z Z
  ·refine rn5 ?_
   exact zM ⟨k + 1, ⟨by omega, by rw [List.range_succ, List.all_append, hall]; show (true && (F k && true)) = true; rw [hF]; rfl⟩, by omega, ⟨Z, Z, Z, Z, Z, trivial⟩, Z⟩
 ·have hke : k = A.length := by omega
  subst hke
  rw [hall] at hR
  refine rn5 ?_
  exact zI hR Z Z
theorem pub_ok (A : List (List Rat)) (B C : List Rat) (i : Nat) (q : Rat) (hi : i < B.length) (hB : B.length ≤ 1000000) (hq : Sz 100000 q) (hb : Sz 100000 (B.getD i 0)) : zU Tryz.prog 177 [.int .i64 (i : Nat), qA q, .rp (zGe A B C) 0 0] (.bool (decide (q ≤ B.getD i 0))) := by
 have c1 := zII q (B.getD i 0) hq hb
 rw [← cmpQ_le]
 refine zS.value0 (zE (P := Tryz.prog) (fn := Tryz.f177) Z Z (by kernel_rfl) Z (fun c hR hfix => ?_)) (fix := fun _ => False) (fun _ h => h) Z Z
 unfold qA zGe
 refine rn6 ?_
 refine zo (by kernel_rfl) ?_
 refine zv (fuel := 0) [0, 1, 2, 3, 4, 5, 6, 7, 8] [(0, .int .i64 (i : Nat)), (2, .rp (.box [.ro (zn A) 0 A.length, .ro (qsC B) 0 B.length, .ro (qsC C) 0 C.length]) 0 0), (4, .ptr 0 0 0)] ⟨Z, Z, Z, trivial⟩ (by kernel_rfl) (by decide) Z Z ?_
 refine zK Z Z (zu Z Z Z Z Z Z Z (by first | exact Nat.zero_lt_one | assumption | omega)) ?_
 refine zK Z Z (zCU Z Z Z Z Z Z) ?_
 refine zK Z Z (zBv Z Z Z Z) ?_
 refine zK Z Z (zL Z) ?_
 refine zK Z Z (zAU Z Z Z Z (by first | (simp only [Nat.zero_add, Int.toNat_natCast, Int.toNat_zero]; exact Z) | exact Z) (by omega)) ?_
 refine zK Z Z (zBW Z Z Z Z Z Z) ?_
 refine zAc Z Z Z Z Z c1 ?_
 refine zK Z Z (q_leq Z Z) ?_
 refine zK Z Z (zi Z) ?_
 refine zz ?_
 refine zX (by kernel_rfl) ?_
 refine rn0 ?_
 exact zI hR Z Z
theorem plc_ok (A : List (List Rat)) (B C : List Rat) (i : Nat) (q : Rat) (hi : i < C.length) (hC : C.length ≤ 1000000) (hq : Sz 100000 q) (hb : Sz 100000 (C.getD i 0)) : zU Tryz.prog 178 [.int .i64 (i : Nat), qA q, .rp (zGe A B C) 0 0] (.bool (decide (C.getD i 0 ≤ q))) := by
 have c1 := zII q (C.getD i 0) hq hb
 rw [← cmpQ_ge]
 refine zS.value0 (zE (P := Tryz.prog) (fn := Tryz.f178) Z Z (by kernel_rfl) Z (fun c hR hfix => ?_)) (fix := fun _ => False) (fun _ h => h) Z Z
 unfold qA zGe
 refine rn6 ?_
 refine zo (by kernel_rfl) ?_
 refine zv (fuel := 0) [0, 1, 2, 3, 4, 5, 6, 7, 8] [(0, .int .i64 (i : Nat)), (2, .rp (.box [.ro (zn A) 0 A.length, .ro (qsC B) 0 B.length, .ro (qsC C) 0 C.length]) 0 0), (4, .ptr 0 0 0)] ⟨Z, Z, Z, trivial⟩ (by kernel_rfl) (by decide) Z Z ?_
 refine zK Z Z (zu Z Z Z Z Z Z Z (by first | exact Nat.zero_lt_one | assumption | omega)) ?_
 refine zK Z Z (zCU Z Z Z Z Z Z) ?_
 refine zK Z Z (zBv Z Z Z Z) ?_
 refine zK Z Z (zL Z) ?_
 refine zK Z Z (zAU Z Z Z Z (by first | (simp only [Nat.zero_add, Int.toNat_natCast, Int.toNat_zero]; exact Z) | exact Z) (by omega)) ?_
 refine zK Z Z (zBW Z Z Z Z Z Z) ?_
 refine zAc Z Z Z Z Z c1 ?_
 refine zK Z Z (zIE Z Z) ?_
 refine zK Z Z (zi Z) ?_
 refine zz ?_
 refine zX (by kernel_rfl) ?_
 refine rn0 ?_
 exact zI hR Z Z
/-- feasible -/
theorem zNs (A : List (List Rat)) (B C x : List Rat) (hA : A.length ≤ 1000000) (hAB : A.length = B.length) (hB : ∀ q ∈ B, Sz 100000 q)
 (hd : ∀ i, i < A.length → zU Tryz.prog 125 [.ro (qsC (A.getD i [])) 0 (A.getD i []).length, .ro (qsC x) 0 x.length] (qA (zAB (A.getD i []) x)))
 (hz : ∀ i, i < A.length → Sz 100000 (zAB (A.getD i []) x)) :
 zU Tryz.prog 176 [.rp (.box [.fn 175 [.rp (zGe A B C) 0 0]]) 0 0, .rp (.box [.ro (qsC x) 0 x.length]) 0 0, .rp (zGe A B C) 0 0] (.bool ((List.range A.length).all (fun i => decide (zAB (A.getD i []) x ≤ B.getD i 0)))) := by
 have c1 := zNG A B C x 177 [.rp (zGe A B C) 0 0] (fun i => decide (zAB (A.getD i []) x ≤ B.getD i 0)) rfl rfl hA hd (fun i hi => pub_ok A B C i _ (by omega) (by omega) (hz i hi) (hB _ (zAr 0 (by omega))))
 refine zS.value0 (zE (P := Tryz.prog) (fn := Tryz.f176) Z Z (by kernel_rfl) Z (fun c hR hfix => ?_)) (fix := fun _ => False) (fun _ h => h) Z Z
 generalize (List.range A.length).all (fun i => decide (zAB (A.getD i []) x ≤ B.getD i 0)) = b at *
 refine rn17 ?_
 refine zB Z Z Z c1 ?_
 refine rn0 ?_
 exact zI hR Z Z
end Go.Proofs.YtnkealfaldjipaaGreatDoor
namespace Go.Ax
variable [Pins]
open Go.RowKit
/-- Does operation j wait, at last, for operation i? -/
def waitsU (all : Array Oper) (listed : Array Bool) (idx : List Nat) (j : Nat) : Bool := match all[j]? with
 | some o => o.after.toList.any (fun e => Region.binds .any e && (!idx.contains e.on && !listed.getD e.on true))
 | none => false
/-- May these operations run in any order, ahead of all others? -/
def okRunU (all : Array Oper) (listed : Array Bool) (idx : List Nat) (k0 : List Nat) : Bool :=
 (idx.all fun i => !listed.getD i true && (match all[i]? with
  | some o => (match o.dst with | some d => !k0.contains d | none => false) && o.after.toList.all (fun e => !Region.binds .any e || (Nat.blt e.on i && (idx.contains e.on || listed.getD e.on false)))
  | none => false)) &&
 ((List.range all.size).all fun j => idx.contains j || listed.getD j true || idx.all (fun i => zNS all idx (idx.length + 1) j i) || waitsU all listed idx j) &&
 (idx.all fun i => idx.all fun j => Nat.beq i j || !(match all[i]?, all[j]? with | some o, some o' => o.dst == o'.dst | _, _ => false))
section
variable {P : Program} {fn : Func} {c : Ctx} {fr : Fr} {H : zO} {k : List It}
theorem zAm {all : Array Oper} {fuel : Nat} {listed listed' : Array Bool} (idx : List Nat) (K0 : Fr) (hK : zB2 fr K0) (hok : okRunU all listed idx (K0.map (·.1)) = true) (hnd : idx.Nodup) (hd : zDS fn.ntmps all.toList = true) (hl : zGD listed idx = listed')
 (h : zEA P fn c H all K0 idx [] (fun st => Ax P fn c (.any all fuel listed' k) (st.map (·.2) ++ K0) H)) : Ax P fn c (.any all (fuel + idx.length) listed k) fr H := by
 obtain ⟨st, hG, hidx, hst⟩ := zGW h (fun s hs => by simp at hs)
 rw [List.map_nil, List.append_nil] at hidx
 clear h
 unfold okRunU at hok
 simp only [Bool.and_eq_true] at hok
 obtain ⟨⟨ok1, ok2⟩, ok3⟩ := hok
 rw [List.all_eq_true] at ok1 ok2 ok3
 have hmem : ∀ i, i ∈ idx ↔ ∃ s ∈ st, s.1 = i := fun i => by
  have : i ∈ idx.reverse ↔ ∃ s ∈ st, s.1 = i := by rw [← hidx]; simp
  rw [← this, List.mem_reverse]
 have hlen : st.length = idx.length := by
  have := congrArg List.length hidx
  simpa using this
 have hnd' : (st.map (·.1)).Nodup := by rw [hidx]; exact (List.reverse_perm idx).nodup_iff.2 hnd
 have hlt : ∀ i ∈ idx, i < listed.size := fun i hi => by
  have := ok1 i hi
  simp only [Bool.and_eq_true, Bool.not_eq_true'] at this
  rcases Nat.lt_or_ge i listed.size with q | q
  ·exact q
  ·have h1 := this.1
   simp only [Array.getD, show ¬ i < listed.size by omega, dite_false] at h1
   cases h1
 -- the induction
 have key : ∀ (m : Nat) (cur : Array Bool) (fr : Fr), cur.size = listed.size → (∀ j, j ∉ idx → cur[j]? = listed[j]?) → unl cur st = m → (∀ s ∈ st, cur.getD s.1 true = true → look s.2.1 fr = some s.2.2) → zB2 fr K0 → (∀ m' ∈ idx, cur.getD m' true = true → ∀ o, all[m']? = some o → ∀ e ∈ o.after, Region.binds .any e = true → cur.getD e.on false = true) → Ax P fn c (.any all (fuel + m) cur k) fr H := by
  intro m
  induction m with
  | zero =>
   intro cur fr hcs hco hcm hck hk0 hcl
   have hall : ∀ s ∈ st, cur.getD s.1 true = true := fun s hs => by
    cases hq : cur.getD s.1 true with
    | true => rfl
    | false =>
     exfalso
     have h0 : st.filter (fun s => !cur.getD s.1 true) = [] := List.length_eq_zero_iff.1 hcm
     have : s ∈ st.filter (fun s => !cur.getD s.1 true) := List.mem_filter.2 ⟨hs, by rw [hq]; rfl⟩
     rw [h0] at this; simp at this
   have hcur : cur = listed' := by
    rw [← hl]
    apply Array.ext_getElem?
    intro j
    rcases Nat.lt_or_ge j listed.size with q | q
    ·rw [zF9 idx listed j q]
     by_cases hj : j ∈ idx
     ·rw [if_pos hj]
      obtain ⟨s, hs1, hs2⟩ := (hmem j).1 hj
      have := hall s hs1
      rw [hs2] at this
      simp only [Array.getD, show j < cur.size by omega, dite_true] at this
      rw [Array.getElem?_eq_getElem (by omega)]
      exact congrArg some this
     ·rw [if_neg hj]; exact hco j hj
    ·rw [Array.getElem?_eq_none (by omega), Array.getElem?_eq_none (by rw [zFY]; omega)]
   subst hcur
   intro w a σ S hr
   refine hG w a σ S (hr.weaken (zDJ fun p hp => ?_))
   rcases List.mem_append.1 hp with q | q
   ·obtain ⟨s, q1, q2⟩ := List.mem_map.1 q
    rw [← q2]; exact hck s q1 (hall s q1)
   ·exact zDA hk0 p q
  | succ m ih =>
   intro cur fr hcs hco hcm hck hk0 hcl
   -- some step is left
   obtain ⟨s0, hs0, hs0u⟩ : ∃ s ∈ st, cur.getD s.1 true = false := by
    rcases hq : st.filter (fun s => !cur.getD s.1 true) with _ | ⟨s, r⟩
    ·unfold unl at hcm; rw [hq] at hcm; simp at hcm
    ·have : s ∈ st.filter (fun s => !cur.getD s.1 true) := by rw [hq]; simp
     obtain ⟨h1, h2⟩ := List.mem_filter.1 this
     exact ⟨s, h1, by simpa using h2⟩
   have hsub : ∀ i ∈ Region.ready .any all cur, i ∈ idx ∧ cur.getD i true = false := by
    intro i hi
    obtain ⟨h1, o, ho, hdeps⟩ := mem_ready.1 hi
    refine ⟨?_, h1⟩
    apply Classical.byContradiction
    intro hni
    have hjs : i < all.size := (Array.getElem?_eq_some_iff.1 ho).1
    have := ok2 i (List.mem_range.2 hjs)
    simp only [Bool.or_eq_true, ho] at this
    rcases this with ((q | q) | q) | q
    ·exact hni (by simpa using q)
    ·have hco' := hco i hni
     have h2 : listed.getD i true = cur.getD i true := by
      simp only [Array.getD_eq_getD_getElem?, hco']
     rw [h2, h1] at q; cases q
    ·rw [List.all_eq_true] at q
     have h3 := zHq hcl _ i s0.1 (q s0.1 ((hmem s0.1).2 ⟨s0, hs0, rfl⟩)) (fun o' ho' e he hb => by
      rw [ho] at ho'
      obtain rfl := Option.some.inj ho'
      exact hdeps e he hb)
     rw [h3] at hs0u; cases hs0u
    ·unfold waitsU at q
     rw [ho] at q
     obtain ⟨e, he1, he2⟩ := List.any_eq_true.1 q
     simp only [Bool.and_eq_true, Bool.not_eq_true'] at he2
     obtain ⟨hb, hne, hnl⟩ := he2
     have hni' : e.on ∉ idx := fun q => by
      have : idx.contains e.on = true := by simpa using q
      rw [this] at hne; cases hne
     have hd1 := hdeps e (Array.mem_toList_iff.1 he1) hb
     have hco' := hco e.on hni'
     rw [Array.getD_eq_getD_getElem?] at hd1 hnl
     rw [hco'] at hd1
     cases hx : listed[e.on]? with
     | none => rw [hx] at hd1; cases hd1
     | some b =>
      rw [hx] at hd1 hnl
      have e1 : b = true := hd1
      have e2 : b = false := hnl
      rw [e1] at e2; cases e2
   have hne : Region.ready .any all cur ≠ [] := by
    intro h0
    -- the least one that is left
    have hex : ∃ i, i ∈ idx ∧ cur.getD i true = false := ⟨s0.1, (hmem s0.1).2 ⟨s0, hs0, rfl⟩, hs0u⟩
    have least : ∀ n i, i ≤ n → i ∈ idx → cur.getD i true = false → False := by
     intro n
     induction n with
     | zero =>
      intro i hi him hiu
      have h1 := ok1 i him
      simp only [Bool.and_eq_true] at h1
      cases hoo : all[i]? with
      | none => rw [hoo] at h1; exact absurd h1.2 (by simp)
      | some o =>
       rw [hoo] at h1
       simp only [Bool.and_eq_true] at h1
       have h2 := List.all_eq_true.1 h1.2.2
       have : i ∈ Region.ready .any all cur := mem_ready.2 ⟨hiu, o, hoo, fun e he hb => by
        have := h2 e (Array.mem_toList_iff.2 he)
        rw [hb] at this
        simp only [Bool.not_true, Bool.false_or, Bool.and_eq_true] at this
        have := Nat.le_of_ble_eq_true this.1
        omega⟩
       rw [h0] at this; simp at this
     | succ n ihn =>
      intro i hi him hiu
      have h1 := ok1 i him
      simp only [Bool.and_eq_true] at h1
      cases hoo : all[i]? with
      | none => rw [hoo] at h1; exact absurd h1.2 (by simp)
      | some o =>
       rw [hoo] at h1
       simp only [Bool.and_eq_true] at h1
       have h2 := List.all_eq_true.1 h1.2.2
       have : i ∈ Region.ready .any all cur := mem_ready.2 ⟨hiu, o, hoo, fun e he hb => by
        have h3 := h2 e (Array.mem_toList_iff.2 he)
        rw [hb] at h3
        simp only [Bool.not_true, Bool.false_or, Bool.and_eq_true, Bool.or_eq_true] at h3
        have hlt' : e.on < i := Nat.le_of_ble_eq_true h3.1
        by_cases hei : e.on ∈ idx
        ·cases hq : cur.getD e.on true with
         | false => exact (ihn e.on (by omega) hei hq).elim
         | true =>
          have hsz := hlt e.on hei
          simp only [Array.getD, show e.on < cur.size by omega, dite_true] at hq ⊢
          exact hq
        ·rcases h3.2 with q | q
         ·exact absurd (by simpa using q) hei
         ·have h2 : cur.getD e.on false = listed.getD e.on false := by simp only [Array.getD_eq_getD_getElem?, hco e.on hei]
          rw [h2]; exact q⟩
       rw [h0] at this; simp at this
    obtain ⟨i, hi1, hi2⟩ := hex
    exact least i i (Nat.le_refl _) hi1 hi2
   refine zH Z hne hd (zJm (fun i hi o ho => ?_))
   obtain ⟨him, hiu⟩ := hsub i hi
   obtain ⟨s, hs1, hs2⟩ := (hmem i).1 him
   obtain ⟨o', K, g1, g2, g3, g4⟩ := hst s hs1
   rw [hs2, ho] at g1
   obtain rfl := Option.some.inj g1
   obtain ⟨_, o2, ho2, hdeps⟩ := mem_ready.1 hi
   rw [ho] at ho2
   obtain rfl := Option.some.inj ho2
   refine g3 _ fr (zDJ fun p hp => ?_) (zP (zAR ?_))
   ·rcases g4 p hp with q | ⟨s', q1, ⟨e, q2, q3, q4⟩, q5⟩
    ·exact zDA hk0 p q
    ·have h1 := hdeps e q2 q3
     rw [q4] at h1
     rw [← q5]
     refine hck s' q1 ?_
     have hsz := hlt s'.1 ((hmem s'.1).2 ⟨s', q1, rfl⟩)
     simp only [Array.getD, show s'.1 < cur.size by omega, dite_true] at h1 ⊢
     exact h1
   ·have hisz := hlt i him
    refine ih (cur.setIfInBounds i true) _ (by simpa using hcs) (fun j hj => ?_) ?_ (fun s' hs' hu => ?_) ?_ (zLn him hcl (fun o' ho' e he hb => by rw [ho] at ho'; obtain rfl := Option.some.inj ho'; exact hdeps e he hb))
    ·rw [Array.getElem?_setIfInBounds_ne (show i ≠ j from fun e => hj (e ▸ him))]; exact hco j hj
    ·-- one less
     have hf : st.filter (fun s' => !(cur.setIfInBounds i true).getD s'.1 true) = (st.filter (fun s' => !cur.getD s'.1 true)).filter (fun s' => decide (s'.1 ≠ i)) := by
      rw [List.filter_filter]
      congr 1
      funext s'
      by_cases hq : s'.1 = i
      ·rw [hq]; simp [Array.getD, show i < cur.size by omega]
      ·have hq' : ¬ i = s'.1 := fun e => hq e.symm
       simp [Array.getD_eq_getD_getElem?, Array.getElem?_setIfInBounds, hq, hq']
     unfold unl at hcm ⊢
     rw [hf]
     have hmemf : s ∈ st.filter (fun s' => !cur.getD s'.1 true) := List.mem_filter.2 ⟨hs1, by rw [hs2, hiu]; rfl⟩
     have hndf : ((st.filter (fun s' => !cur.getD s'.1 true)).map (·.1)).Nodup := List.Nodup.sublist (List.Sublist.map _ List.filter_sublist) hnd'
     revert hcm hmemf hndf
     generalize st.filter (fun s' => !cur.getD s'.1 true) = L
     intro hcm hmemf hndf
     have gen : ∀ (L : Steps) (n : Nat), L.length = n + 1 → s ∈ L → (L.map (·.1)).Nodup → (L.filter (fun s' => decide (s'.1 ≠ i))).length = n := by
      intro L
      induction L with
      | nil => intro n h; simp at h
      | cons x r ihL =>
       intro n hn hm hnd
       simp only [List.map_cons, List.nodup_cons] at hnd
       rcases List.mem_cons.1 hm with rfl | hm
       ·have hno : ∀ y ∈ r, y.1 ≠ i := fun y hy e => hnd.1 (List.mem_map.2 ⟨y, hy, by rw [e, hs2]⟩)
        have : (r.filter (fun s' => decide (s'.1 ≠ i))) = r := List.filter_eq_self.2 (fun y hy => by simpa using hno y hy)
        rw [List.filter_cons_of_neg (by simp [hs2]), this]
        simpa using hn
       ·have hx : x.1 ≠ i := fun e => hnd.1 (List.mem_map.2 ⟨s, hm, by rw [hs2, e]⟩)
        have hr0 : 0 < r.length := List.length_pos_iff.2 (by rintro rfl; simp at hm)
        obtain ⟨n', rfl⟩ : ∃ n', n = n' + 1 := ⟨n - 1, by simp at hn; omega⟩
        rw [List.filter_cons_of_pos (by simpa using hx), List.length_cons, ihL n' (by simpa using hn) hm hnd.2]
     exact gen L m hcm hmemf hndf
    ·by_cases hq : s'.1 = i
     ·have : s' = s := by
       have h1 : s ∈ st := hs1
       have hinj : ∀ (L : Steps), (L.map (·.1)).Nodup → ∀ x ∈ L, ∀ y ∈ L, x.1 = y.1 → x = y := by
        intro L
        induction L with
        | nil => intro _ x hx; simp at hx
        | cons z r ihL =>
         intro hnd x hx y hy hxy
         simp only [List.map_cons, List.nodup_cons] at hnd
         rcases List.mem_cons.1 hx with hx | hx <;> rcases List.mem_cons.1 hy with hy | hy
         ·rw [hx, hy]
         ·exact absurd (List.mem_map.2 ⟨y, hy, by rw [← hxy, hx]⟩) hnd.1
         ·exact absurd (List.mem_map.2 ⟨x, hx, by rw [hxy, hy]⟩) hnd.1
         ·exact ihL hnd.2 x hx y hy hxy
       exact hinj st hnd' s' hs' s hs1 (by rw [hq, hs2])
      rw [this]
      exact zMH _ _ _
     ·have h1 : cur.getD s'.1 true = true := by
       have hq' : ¬ i = s'.1 := fun e => hq e.symm
       simpa [Array.getD_eq_getD_getElem?, Array.getElem?_setIfInBounds, hq'] using hu
      have h2 := hck s' hs' h1
      -- another slot
      have hne2 : s'.2.1 ≠ s.2.1 := by
       intro e
       obtain ⟨o3, _, f1, f2, _, _⟩ := hst s' hs'
       have h3 := List.all_eq_true.1 (ok3 s'.1 ((hmem s'.1).2 ⟨s', hs', rfl⟩)) i him
       rw [f1, ho] at h3
       simp only [Bool.or_eq_true, Bool.not_eq_true', f2, g2] at h3
       rcases h3 with h3 | h3
       ·exact hq (Nat.eq_of_beq_eq_true h3)
       ·rw [e] at h3; simp at h3
      show (bif Nat.beq s'.2.1 s.2.1 then some s.2.2 else look s'.2.1 fr) = _
      rw [zx hne2]; exact h2
    ·refine zDJ fun p hp => ?_
     have h1 := ok1 i him
     simp only [Bool.and_eq_true] at h1
     rw [ho] at h1
     simp only [g2, Bool.and_eq_true, Bool.not_eq_true'] at h1
     have hne3 : p.1 ≠ s.2.1 := by
      intro e
      have : (K0.map (·.1)).contains s.2.1 = true := by
       rw [List.contains_iff_mem]
       exact List.mem_map.2 ⟨p, hp, e⟩
      rw [h1.2.1] at this; cases this
     show (bif Nat.beq p.1 s.2.1 then some s.2.2 else look p.1 fr) = _
     rw [zx hne3]; exact zDA hk0 p hp
 have hm0 : unl listed st = idx.length := by
  unfold unl
  rw [List.filter_eq_self.2 (fun s hs => ?_), hlen]
  have := ok1 s.1 ((hmem s.1).2 ⟨s, hs, rfl⟩)
  simp only [Bool.and_eq_true] at this
  exact this.1
 have := key idx.length listed fr rfl (fun _ _ => rfl) hm0 (fun s hs hu => by
  have h1 := ok1 s.1 ((hmem s.1).2 ⟨s, hs, rfl⟩)
  simp only [Bool.and_eq_true, Bool.not_eq_true'] at h1
  rw [h1.1] at hu; cases hu) hK (fun m' hm' hu => by
  have h1 := ok1 m' hm'
  simp only [Bool.and_eq_true, Bool.not_eq_true'] at h1
  rw [h1.1] at hu; cases hu)
 exact this
end
end Go.Ax
